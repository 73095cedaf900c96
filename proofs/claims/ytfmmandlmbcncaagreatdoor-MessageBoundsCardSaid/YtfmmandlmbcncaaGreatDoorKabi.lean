/-
  A part of the proof.
-/
import Derived.Test.YtfmmandlmbcncaaGreatDoorKabh
import Derived.Test.YtfmmandlmbcncaaGreatDoorKaac
set_option maxHeartbeats 40000000
namespace Go.Proofs.YtfmmandlmbcncaaGreatDoor.Msg
open Go.RowKit Go.Lib Go.Proofs.YtfmmandlmbcncaaGreatDoor.Mem Go.Proofs.YtfmmandlmbcncaaGreatDoor.Utf Go.Proofs.YtfmmandlmbcncaaGreatDoor.Tlv
structure QbAt (w:World)(v:QV)(W:World):Prop where
 o:W.heap[w.heap.size]?=some v.box
 bel:Below w.heap.size w W
theorem QbAt.step {w W W':World}{v:QV}(h:QbAt w v W)(hb:Below W.heap.size W W'):QbAt w v W':=⟨(hb.block _ (Array.getElem?_eq_some_iff.1 h.o).1).trans h.o,h.bel.trans (hb.mono h.bel.size)⟩
theorem QbAt.turn {w W W':World}{v:QV}{B:Nat}(h:QbAt w v W)(hb:Below B W W')(hB:w.heap.size<B):QbAt w v W':=⟨(hb.block _ hB).trans h.o,h.bel.trans (hb.mono (by omega))⟩
def enE (l:List EP)(i:Nat):List UInt8:=val 1 (match l[i]? with | some p=>entL p.1 p.2 | none=>[])
theorem enE_all (l:List EP):∀n,n≤l.length→allIt (enE l) n=entsB (l.take n)
 | 0,_=>by simp[allIt,entsB]
 | n+1,h=>by
  have hn:l[n]?=some l[n]:=List.getElem?_eq_getElem (by omega)
  rw[allIt_succ,enE_all l n (by omega),List.take_add_one,hn]
  simp only[Option.toList_some]
  rw[entsB_snoc]
  simp[enE,hn]
set_option maxRecDepth 100000 in
theorem resBytes_any (v:QV)(c:QC)(w:World)(h:QAt w v c)(h0:0≤v.code)(h1:v.code≤255)(hn:v.en≤1000)(hall:∀p∈c.ents,mayEntry p.1 p.2=true)(hlen:(entsB c.ents).length≤4194304)(hcn:v.cn≤4000) :
  Calls Tryz.prog 146 #[v.val] w fun e w'=>∃ao cap,e=.returned (.tuple #[.slice ao (resL v c).length cap,.int .i64 0])∧Rd w' 1 ao (resL v c).length cap (byV (resL v c))∧Below w.heap.size w w'∧∀a,ao=some a→w.heap.size≤a.block:=by
 have hmo:Tryz.prog.follows .mixedOrders=true:=by kernel_rfl
 have lx:=h.e.len
 have lc:c.cursor.length=v.cn:=by have:=h.c.1;rw[byV_len] at this;omega
 obtain⟨cn,hcd⟩:∃n:Nat,v.code=(n:Int):=⟨v.code.toNat,by omega⟩
 have hcw:IntKind.wrap .u64 v.code=(cn:Int):=by rw[hcd,IntKind.wrap_u64];omega
 have hall2:allIt (enE c.ents) v.en=entsB c.ents:=by rw[enE_all c.ents v.en (by omega),List.take_of_length_le (by omega)]
 have hres:resL v c=val 1 (num8 cn)++(val 2 [if v.yes then 1 else 0]++(val 3 (entsB c.ents)++(val 4 c.cursor++[]))):=by unfold resL;rw[show v.code.toNat=cn by omega]
 have HR:=hid hres
 have HA:=hid hall2
 have HL:=hid hlen
 have LX:=hid lx
 have LC:=hid lc
 clear hres hall2 hlen lx lc hcd h0 h1
 have hb0:Below w.heap.size w (w.alloc v.box):=(Below.refl _ _).alloc (Nat.le_refl _) _
 have k0:(w.alloc v.box).heap[w.heap.size]?=some v.box:=by show (w.heap.push _)[w.heap.size]?=some _;exact Array.getElem?_push_size
 unfold QV.box QV.cells at hb0 k0
 unfold QV.val QV.cells
 go_enter Tryz.func146,Tryz.ntmps146
 go_upto_region 1 with fail
 generalize hg:w.alloc _=W0 at *
 have s0:QbAt w v W0.drew:=(⟨k0,hb0⟩:QbAt w v W0).step (Below.refl _ _).drew
 clear hg k0 hb0
 refine wp_region_held (S:=QbAt w v) hmo ?_
 change wpAnyH _ _ _ _ _ _ _ _ (World.drew W0)
 generalize World.drew W0=X0 at *
 refine zHp 1 (.pointer (some ⟨w.heap.size,0,none⟩)) rfl s0 ?_
 go_simp
 refine zHa 2 (.int .i64 v.code) rfl (by rintro w2 h2;obtain⟨c0,c1,c2,c3,-⟩:=qbox_all h2.o;go_simp) s0 ?_
 go_simp
 refine zHa 3 (.int .u64 (cn:Int)) rfl (by rintro w2 h2;obtain⟨c0,c1,c2,c3,-⟩:=qbox_all h2.o;go_simp) s0 ?_
 go_simp
 refine zHp 5 (.pointer (some ⟨w.heap.size,1,none⟩)) rfl s0 ?_
 go_simp
 refine zHa 6 (.bool v.yes) rfl (by rintro w2 h2;obtain⟨c0,c1,c2,c3,-⟩:=qbox_all h2.o;go_simp) s0 ?_
 go_simp
 refine zHp 8 (.pointer (some ⟨w.heap.size,2,none⟩)) rfl s0 ?_
 go_simp
 refine zHa 9 (.slice v.eo v.en v.ec) rfl (by rintro w2 h2;obtain⟨c0,c1,c2,c3,-⟩:=qbox_all h2.o;go_simp) s0 ?_
 go_simp
 refine zHa 10 (.int .i64 (v.en:Int)) rfl (by rintro w2 h2;obtain⟨c0,c1,c2,c3,-⟩:=qbox_all h2.o;go_simp) s0 ?_
 go_simp
 refine zHa 11 (.func (.func 177) #[] #[.pointer (some ⟨w.heap.size,0,none⟩)]) rfl (by rintro w2 h2;obtain⟨c0,c1,c2,c3,-⟩:=qbox_all h2.o;go_simp) s0 ?_
 go_simp
 refine zHp 13 (.pointer (some ⟨w.heap.size,3,none⟩)) rfl s0 ?_
 go_simp
 refine zHa 14 (.slice v.co v.cn v.cc) rfl (by rintro w2 h2;obtain⟨c0,c1,c2,c3,-⟩:=qbox_all h2.o;go_simp) s0 ?_
 go_simp
 refine zH1 0 rfl (fun K hK=>?_)
 go_simp
 have g0:WrS X0.heap.size X0.heap.size ⟨[],0⟩ (X0.alloc (.cells #[.slice none 0 0,.int .i64 0] 177)):=⟨_,by show (X0.heap.push _)[X0.heap.size]?=some _;exact Array.getElem?_push_size,Nat.le_refl _,World.ownsRow_nil _ _ _ _⟩
 have s1:QbAt w v (X0.alloc (.cells #[.slice none 0 0,.int .i64 0] 177)):=s0.step ((Below.refl _ _).alloc (Nat.le_refl _) _)
 have hlt:w.heap.size<X0.heap.size:=(Array.getElem?_eq_some_iff.1 s0.o).1
 refine hK _ _ ⟨s1,?_⟩
 clear hK K
 refine zH1 4 rfl (fun K hK=>?_)
 go_simp
 refine (wnum_any X0.heap.size X0.heap.size ⟨[],0⟩ 1 cn _ g0 (by decide)).mono ?_
 rintro e X2 ⟨rfl,g1,hb2,-⟩
 have s2:=s1.turn hb2 hlt
 go_simp
 refine hK _ _ ⟨s2,?_⟩
 clear hK K
 refine zH1 7 rfl (fun K hK=>?_)
 go_simp
 refine (wflag_any X0.heap.size X0.heap.size _ 2 v.yes _ g1 (by simp[WS.put,val_len,num8_len])).mono ?_
 rintro e X3 ⟨rfl,g2,hb3,-⟩
 have s3:=s2.turn hb3 hlt
 go_simp
 refine hK _ _ ⟨s3,?_⟩
 clear hK K
 refine zH1 12 rfl (fun K hK=>?_)
 go_simp
 have hW:=wlist_ok X0.heap.size X0.heap.size _ 3 v.en 177 #[.pointer (some ⟨w.heap.size,0,none⟩)] (enE c.ents) X3 g2 rfl (by omega) (enters_of Tryz.func177 (by kernel_rfl) rfl)
  (fun i hi=>by
   obtain⟨p,hi2⟩:∃p,c.ents[i]?=some p:=⟨_,List.getElem?_eq_getElem (by rw[LX.out];exact hi)⟩
   have hl:=entL_len (hall p (List.mem_of_getElem? hi2))
   unfold enE
   rw[hi2]
   exact⟨manyOf_val 1 _ (by decide) (by dsimp only;omega),by rw[val_len];omega⟩)
  (by rw[HA.out];exact HL.out) (by simp[WS.put,val_len,num8_len])
  (fun i W1 hi hb1 hwr=>by
   obtain⟨p,hi2⟩:∃p,c.ents[i]?=some p:=⟨_,List.getElem?_eq_getElem (by rw[LX.out];exact hi)⟩
   have s4:=s3.step hb1
   have hm:=allIt_mono (enE c.ents) (Nat.le_of_lt hi)
   rw[HA.out] at hm
   have hL:=HL.out
   refine (resb1_any X3.heap.size X3.heap.size w.heap.size _ v c.ents i _ W1 hwr (by dsimp only;omega) s4.o (h.later s4.bel).e hi2 (hall p (List.mem_of_getElem? hi2))).mono ?_
   rintro e1 w1 ⟨q1,q2,q3⟩
   refine⟨q1,?_,q3⟩
   rw[allIt_succ]
   have e5:enE c.ents i=val 1 (entL p.1 p.2):=by unfold enE;rw[hi2]
   rw[e5]
   simpa [WS.put] using q2)
 rw[HA.out] at hW
 refine hW.mono ?_
 rintro e X4 ⟨rfl,g3,hb4,-⟩
 have s4:=s3.turn hb4 hlt
 clear hW
 go_simp
 refine hK _ _ ⟨s4,?_⟩
 clear hK K
 refine zH1 15 rfl (fun K hK=>?_)
 go_simp
 refine (wput_any X0.heap.size X0.heap.size _ 4 c.cursor v.co _ v.cc _ g3 (by have:=HL.out;simp[WS.put,val_len,num8_len];omega) (by omega) (h.later s4.bel).c (fun h0 a ha u hu e=>by have:=h.c.lt h0 a ha;have h9:=own_blk hu.own e.symm;have:=s0.bel.size;omega)).mono ?_
 rintro e X5 ⟨rfl,g4,hb5,-⟩
 have s5:=s4.turn hb5 hlt
 go_simp
 refine hK _ _ ⟨s5,?_⟩
 clear hK K
 refine zH1 16 rfl (fun K hK=>?_)
 go_simp
 have g5:WrS X0.heap.size X0.heap.size ⟨resL v c,0⟩ X5:=by rw[HR.out];simpa [WS.put] using g4
 obtain⟨y,hy⟩:=g5
 have hrl:(resL v c).length≤100000000:=by have:=HL.out;have:=LC.out;rw[HR.out];simp only[List.length_append,val_len,num8_len,List.length_cons,List.length_nil];omega
 refine (wend_ok _ _ _ _ _ hy hrl).mono ?_
 rintro e X6 ⟨z,rfl,hz6,hb6⟩
 obtain⟨ao6,cap6,rfl,hr6⟩:=Rd.of_own hz6
 have s6:=s5.step hb6
 go_simp
 refine hK _ _ ⟨s6,?_⟩
 clear hK K
 refine zHa 17 (.slice ao6 (resL v c).length cap6) rfl (by rintro w2 h2;obtain⟨c0,c1,c2,c3,-⟩:=qbox_all h2.o;go_simp) s6 ?_
 go_simp
 refine zHa 18 (.int .i64 0) rfl (by rintro w2 h2;obtain⟨c0,c1,c2,c3,-⟩:=qbox_all h2.o;go_simp) s6 ?_
 go_simp
 refine zHp 19 (.slice ao6 (resL v c).length cap6) rfl s6 ?_
 go_simp
 refine zHp 20 (.int .i64 0) rfl s6 ?_
 go_simp
 refine wpAnyH_done (by kernel_rfl) ?_ _
 go_wp2_with fail
 go_ret2
 exact⟨ao6,cap6,rfl,hr6,s6.bel,fun a ha=>Nat.le_trans s5.bel.size (own_fresh hz6 a ha)⟩
end Go.Proofs.YtfmmandlmbcncaaGreatDoor.Msg
