/-
  A part of the proof.
-/
import Derived.Test.YtfmmandlmbcncaaGreatDoorKbat
set_option maxHeartbeats 40000000
namespace Go.Proofs.YtfmmandlmbcncaaGreatDoor.Tlv
open Go.RowKit Go.Proofs.YtfmmandlmbcncaaGreatDoor.Mem
set_option maxRecDepth 100000 in
theorem rlist_any (B g:Nat)(s:RS)(t:UInt8)(f:FuncId)(caps:Array Value)(W:World)(hr:RdS B g s W)(hl:s.l.length≤100000000)
  (hf:∀args w,(callFunc f args).run Tryz.prog w=.ok (.enter f args) w)
  (Inv:Nat→List UInt8→List UInt8→World→Prop) (Bad:List UInt8→World→Prop)
  (hbad:∀rest w',Bad rest w'→RdS B g ⟨rest,false⟩ w') (hib:∀q rest b w',Inv q rest b w'→RdS q q ⟨b,false⟩ w')
  (hinit:∀x rest ao cap w1,s.take t=(some x,⟨rest,false⟩)→W.grownBy w1 (some g)→RdS B g ⟨rest,false⟩ w1→Rd w1 1 ao x.length cap (byV x)→Ty8 w1 ao cap →
   Inv w1.heap.size rest x (w1.alloc (.cells #[.slice ao x.length cap,.bool false,.bool true] 237)))
  (hstep:∀q rest b wr,0<b.length→Inv q rest b wr→Calls Tryz.prog f (#[.pointer (some ⟨q,0,none⟩)]++caps) wr fun e w'=>∃r s',e=.returned (.bool r)∧RdS q q s' w'∧s'.l.length≤b.length∧(¬(r=true∧s'.bad=false∧s'.l.length<b.length)→Bad rest w') ∧
   (r=true→s'.bad=false→s'.l.length<b.length→Inv q rest s'.l w')) :
  Calls Tryz.prog 207 #[.pointer (some ⟨g,0,none⟩),.int .u8 (t.toNat:Int),.func (.func f) #[] caps] W fun e w'=>
   ((s.take t).1=none∧e=.returned (.bool false)∧RdS B g (s.take t).2 w'∧W.grownBy w' (some g)) ∨
   ∃x rest,s.take t=(some x,⟨rest,false⟩)∧((e=.returned (.bool true)∧∃q,Inv q rest [] w')∨(e=.returned (.bool false)∧∃wx,Bad rest wx∧w'=wx.setCell ⟨g,1,none⟩ (.bool true))):=by
 have hc:=take_any B g s t W hr hl
 unfold GivesT at hc
 have hlen:∀x rest,s.take t=(some x,⟨rest,false⟩)→x.length≤s.l.length:=by
  intro x rest h
  unfold RS.take at h
  split at h
  ·cases h
  split at h
  ·rename_i h1 h2
   have:=Option.some.inj (congrArg Prod.fst h)
   rw[←this]
   have h5:=hd1_len s.l h2.1
   have:=fs_le s.l
   omega
  cases h
 have hshape:∀x s',s.take t=(some x,s')→s'.bad=false:=by
  intro x s' h
  unfold RS.take at h
  split at h
  ·cases h
  split at h
  ·have:=congrArg Prod.snd h
   dsimp only at this
   rw[←this]
  cases h
 generalize s.take t=tk at *
 obtain⟨ox,s'⟩:=tk
 have hfn:∀(w:World),Sem.run Tryz.prog (binOp BinOp.eql 274 (.func (.func f) #[] caps) .nilFunc) w=.ok (.bool false) w:=fun _=>by kernel_rfl
 cases ox with
 | none=>
  clear hinit hstep hbad hib hfn
  go_enter Tryz.func207,Tryz.ntmps207
  go_wp2_with fail
  refine hc.mono ?_
  rintro e w' ⟨h1,h2,rfl⟩
  go_wp2
  go_ret
  exact .inl ⟨by first | rfl | trivial,rfl,h1,h2⟩
 | some x=>
  have hb:=hshape x s' rfl
  obtain⟨rest,bad⟩:=s'
  dsimp only at hb hc
  subst hb
  have hxl:=hlen x rest rfl
  have Hinit:=Lib.hid (fun ao cap w1=>hinit x rest ao cap w1 rfl)
  have Hstep:=Lib.hid hstep
  have Hbad:=Lib.hid hbad
  have Hib:=Lib.hid hib
  clear hinit hstep hbad hib hlen hshape
  go_enter Tryz.func207,Tryz.ntmps207
  go_wp2_with fail
  refine hc.mono ?_
  rintro e w1 ⟨h1,h2,ao,cap,rfl,h4,h5⟩
  have hi0:=Hinit.out ao cap w1 h2 h1 h4 h5
  go_wp2
  go_loopw [] (fun wr=>∃b:List UInt8,b.length≤x.length∧Inv w1.heap.size rest b wr) (fun wr=>match wr.cell? ⟨w1.heap.size,0,none⟩ with | some (.slice _ n _)=>n | _=>0)
  case atStart=>exact⟨x,Nat.le_refl _,hi0⟩
  case round=>
   obtain⟨b,hbl,hi⟩:=hrel
   obtain⟨aoi,capi,hri⟩:=Hib.out _ _ _ _ hi
   have hati:=hri.at_
   dsimp only at hati
   have d0:wr.cell? ⟨w1.heap.size,0,none⟩=some (.slice aoi b.length capi):=by simp[World.cell?,hati]
   by_cases hb0:0<b.length
   ·have f0:decide ((0:Int)<(b.length:Int))=true:=decide_eq_true (by omega)
    go_wp2_with fail
    refine (Hstep.out _ _ _ wr hb0 hi).mono ?_
    rintro e w2 ⟨r,⟨l2,bad2⟩,rfl,⟨ao2,cap2,hr2⟩,hle2,hB,hnext⟩
    have hat2:=hr2.at_
    dsimp only at hat2 hle2 hnext
    have e0:w2.cell? ⟨w1.heap.size,0,none⟩=some (.slice ao2 l2.length cap2):=by simp[World.cell?,hat2]
    have e1:w2.cell? ⟨w1.heap.size,1,none⟩=some (.bool bad2):=by simp[World.cell?,hat2]
    cases r with
    | false=>
     clear hnext
     have hB:=hB (by rintro⟨h,_⟩;cases h)
     obtain⟨aog,capg,hg⟩:=Hbad.out _ _ hB
     have hatg:=hg.at_
     have c1:w2.cell? ⟨g,1,none⟩=some (.bool false):=by simp[World.cell?,hatg]
     have z1:w2.frozen? ⟨g,1,none⟩=false:=by simp[World.frozen?,hatg]
     have HB:=Lib.hid hB
     clear hB
     go_wp2
     go_ret
     exact .inr ⟨x,rest,rfl,.inr ⟨rfl,w2,HB.out,rfl⟩⟩
    | true=>
     cases bad2 with
     | true=>
      clear hnext
      have hB:=hB (by rintro⟨_,h,_⟩;cases h)
      obtain⟨aog,capg,hg⟩:=Hbad.out _ _ hB
      have hatg:=hg.at_
      have c1:w2.cell? ⟨g,1,none⟩=some (.bool false):=by simp[World.cell?,hatg]
      have z1:w2.frozen? ⟨g,1,none⟩=false:=by simp[World.frozen?,hatg]
      have HB:=Lib.hid hB
      clear hB
      go_wp2
      go_ret
      exact .inr ⟨x,rest,rfl,.inr ⟨rfl,w2,HB.out,rfl⟩⟩
     | false=>
      by_cases hlt:l2.length<b.length
      ·have f5:((l2.length:Int)==(b.length:Int))=false:=by simp;omega
       have hI:=hnext rfl rfl hlt
       clear hnext hB
       go_wp2
       go_roundw
       case rel=>exact⟨l2,by omega,hI⟩
       case measure=>simp only[e0,d0];omega
      have f5:((l2.length:Int)==(b.length:Int))=true:=by simp;omega
      clear hnext
      have hB:=hB (by rintro⟨_,_,h⟩;exact hlt h)
      obtain⟨aog,capg,hg⟩:=Hbad.out _ _ hB
      have hatg:=hg.at_
      have c1:w2.cell? ⟨g,1,none⟩=some (.bool false):=by simp[World.cell?,hatg]
      have z1:w2.frozen? ⟨g,1,none⟩=false:=by simp[World.frozen?,hatg]
      have HB:=Lib.hid hB
      clear hB
      go_wp2
      go_ret
      exact .inr ⟨x,rest,rfl,.inr ⟨rfl,w2,HB.out,rfl⟩⟩
   have f0:decide ((0:Int)<(b.length:Int))=false:=decide_eq_false (by omega)
   have hbn:b=[]:=List.eq_nil_of_length_eq_zero (by omega)
   go_wp2_with fail
   go_ret
   subst hbn
   exact .inr ⟨x,rest,rfl,.inl ⟨rfl,_,hi⟩⟩
end Go.Proofs.YtfmmandlmbcncaaGreatDoor.Tlv
