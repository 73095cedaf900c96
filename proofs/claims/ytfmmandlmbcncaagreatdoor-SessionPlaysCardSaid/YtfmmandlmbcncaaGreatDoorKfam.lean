/-A part of the proof.-/
import Derived.Test.YtfmmandlmbcncaaGreatDoorKfal
set_option maxHeartbeats 40000000
set_option maxRecDepth 100000
set_option linter.all false
namespace Go.Proofs.YtfmmandlmbcncaaGreatDoor
namespace Tlv
open Go.RowKit Mem
variable{M:Nat}{a b:World}{xs:List Nat}
theorem rE(B g:Nat)(s:RS)(t:UInt8)(f:FuncId)(caps:Array Value)(W:World)(hr:RdS B g s W)(hl:s.l.length<=100000000)
  (hf:∀args w,(callFunc f args).run Tryz.prog w=.ok (.enter f args) w)
  (Inv:Nat->List UInt8->List UInt8->World->Prop) (Bad:List UInt8->World->Prop)
  (hbad:∀rest w',Bad rest w'->RdS B g ⟨rest,false⟩ w') (hib:∀q rest b w',Inv q rest b w'->RdS q q ⟨b,false⟩ w')
  (hinit:∀x rest ao cap w1,s.take t=(some x,⟨rest,false⟩)->W.grownBy w1 (some g)->RdS B g ⟨rest,false⟩ w1->Rd w1 1 ao x.length cap (byV x)->Ty8 w1 ao cap ->
   Inv w1.heap.size rest x (w1.alloc (.cells #[.slice ao x.length cap,.bool false,.bool true] 237)))
  (hstep:∀q rest b wr,0<b.length->Inv q rest b wr->Calls Tryz.prog f (#[.pointer (some ⟨q,0,none⟩)]++caps) wr fun e w'=>∃r s',e=.returned (.bool r)/\RdS q q s' w'/\s'.l.length<=b.length/\(¬(r=true/\s'.bad=false/\s'.l.length<b.length)->Bad rest w') /\
   (r=true->s'.bad=false->s'.l.length<b.length->Inv q rest s'.l w')) :
  Calls Tryz.prog 207 #[.pointer (some ⟨g,0,none⟩),.int .u8 (t.toNat:Int),.func (.func f) #[] caps] W fun e w'=>
   ((s.take t).1=none/\e=.returned (.bool false)/\RdS B g (s.take t).2 w'/\W.grownBy w' (some g)) \/
   ∃x rest,s.take t=(some x,⟨rest,false⟩)/\((e=.returned (.bool true)/\∃q,Inv q rest [] w')\/(e=.returned (.bool false)/\∃wx,Bad rest wx/\w'=wx.setCell ⟨g,1,none⟩ (.bool true))):=by
 have hc:=take_any B g s t W hr hl;unfold jK at hc;have hlen:∀x rest,s.take t=(some x,⟨rest,false⟩)->x.length<=s.l.length:=by
  intro x rest h;unfold RS.take at h;split at h
  ·cases h
  split at h
  ·rename_i h1 h2;have:=yaf (congrArg Prod.fst h);rw[<-this];have h5:=pK s.l h2.1;have:=lq s.l;omega
  cases h
 have hshape:∀x s',s.take t=(some x,s')->s'.bad=false:=by
  intro x s' h;unfold RS.take at h;split at h
  ·cases h
  split at h
  ·have:=congrArg Prod.snd h;dsimp only at this;rw[<-this]
  cases h
 generalize s.take t=tk at *;obtain⟨ox,s'⟩:=tk;have hfn:∀(w:World),Sem.run Tryz.prog (binOp BinOp.eql 274 (.func (.func f) #[] caps) .nilFunc) w=.ok (.bool false) w:=fun _=>by kernel_rfl
 cases ox with
 | none=>
  clear hinit hstep hbad hib hfn;go_in;go_wp2_with fail;refine hc.mono ?_;rintro e w' ⟨h1,h2,rfl⟩;go_wp2;go_ret;exact .inl ⟨by first | rfl | trivial,rfl,h1,h2⟩
 | some x=>
  have hb:=hshape x s' rfl;obtain⟨rest,bad⟩:=s';dsimp only at hb hc;subst hb;have hxl:=hlen x rest rfl;have Hinit:=Lib.hid (fun ao cap w1=>hinit x rest ao cap w1 rfl);have Hstep:=Lib.hid hstep;have Hbad:=Lib.hid hbad;have Hib:=Lib.hid hib;clear hinit hstep hbad hib hlen hshape;go_in;go_wp2_with fail;refine hc.mono ?_;rintro e w1 ⟨h1,h2,ao,cap,rfl,h4,h5⟩;have hi0:=Hinit.out ao cap w1 h2 h1 h4 h5;go_wp2;go_loopw [] (fun wr=>∃b:List UInt8,b.length<=x.length/\Inv w1.heap.size rest b wr) (fun wr=>match wr.cell? ⟨w1.heap.size,0,none⟩ with | some (.slice _ n _)=>n | _=>0)
  case atStart=>exact⟨x,yag _,hi0⟩
  case round=>
   obtain⟨b,hbl,hi⟩:=hrel;obtain⟨aoi,capi,hri⟩:=Hib.out _ _ _ _ hi;have hati:=hri.at_;dsimp only at hati;have d0:wr.cell? ⟨w1.heap.size,0,none⟩=some (.slice aoi b.length capi):=by simp[World.cell?,hati]
   by_cases hb0:0<b.length
   ·have f0:decide ((0:Int)<(b.length:Int))=true:=yaa (by omega);go_wp2_with fail;refine (Hstep.out _ _ _ wr hb0 hi).mono ?_;rintro e w2 ⟨r,⟨l2,bad2⟩,rfl,⟨ao2,cap2,hr2⟩,hle2,hB,hnext⟩;have hat2:=hr2.at_;dsimp only at hat2 hle2 hnext;have e0:w2.cell? ⟨w1.heap.size,0,none⟩=some (.slice ao2 l2.length cap2):=by simp[World.cell?,hat2]
    have e1:w2.cell? ⟨w1.heap.size,1,none⟩=some (.bool bad2):=by simp[World.cell?,hat2]
    cases r with
    | false=>
     clear hnext;have hB:=hB (by rintro⟨h,_⟩;cases h);obtain⟨aog,capg,hg⟩:=Hbad.out _ _ hB;have hatg:=hg.at_;have c1:w2.cell? ⟨g,1,none⟩=some (.bool false):=by simp[World.cell?,hatg]
     have z1:w2.frozen? ⟨g,1,none⟩=false:=by simp[World.frozen?,hatg]
     have HB:=Lib.hid hB;clear hB;go_wp2;go_ret;exact .inr ⟨x,rest,rfl,.inr ⟨rfl,w2,HB.out,rfl⟩⟩
    | true=>
     cases bad2 with
     | true=>
      clear hnext;have hB:=hB (by rintro⟨_,h,_⟩;cases h);obtain⟨aog,capg,hg⟩:=Hbad.out _ _ hB;have hatg:=hg.at_;have c1:w2.cell? ⟨g,1,none⟩=some (.bool false):=by simp[World.cell?,hatg]
      have z1:w2.frozen? ⟨g,1,none⟩=false:=by simp[World.frozen?,hatg]
      have HB:=Lib.hid hB;clear hB;go_wp2;go_ret;exact .inr ⟨x,rest,rfl,.inr ⟨rfl,w2,HB.out,rfl⟩⟩
     | false=>
      by_cases hlt:l2.length<b.length
      ·have f5:((l2.length:Int)==(b.length:Int))=false:=by simp;omega
       have hI:=hnext rfl rfl hlt;clear hnext hB;go_wp2;go_roundw
       case rel=>exact⟨l2,by omega,hI⟩
       case measure=>simp only[e0,d0];omega
      have f5:((l2.length:Int)==(b.length:Int))=true:=by simp;omega
      clear hnext;have hB:=hB (by rintro⟨_,_,h⟩;exact hlt h);obtain⟨aog,capg,hg⟩:=Hbad.out _ _ hB;have hatg:=hg.at_;have c1:w2.cell? ⟨g,1,none⟩=some (.bool false):=by simp[World.cell?,hatg]
      have z1:w2.frozen? ⟨g,1,none⟩=false:=by simp[World.frozen?,hatg]
      have HB:=Lib.hid hB;clear hB;go_wp2;go_ret;exact .inr ⟨x,rest,rfl,.inr ⟨rfl,w2,HB.out,rfl⟩⟩
   have f0:decide ((0:Int)<(b.length:Int))=false:=yad (by omega);have hbn:b=[]:=yat (by omega);go_wp2_with fail;go_ret;subst hbn;exact .inr ⟨x,rest,rfl,.inl ⟨rfl,_,hi⟩⟩
structure BelX (M:Nat)(xs:List Nat)(w w':World):Prop where
 os:w'.os=w.os
 tape:w'.tape=w.tape
 output:w'.output=w.output
 size:w.heap.size<=w'.heap.size
 block:∀k,k<M->k∉xs->w'.heap[k]?=w.heap[k]?
theorem BelX.refl(M:Nat)(xs:List Nat)(w:World):BelX M xs w w:=⟨rfl,rfl,rfl,yag _,fun _ _ _=>rfl⟩
theorem BelX.trans{c:World}(h:BelX M xs a b)(k:BelX M xs b c):BelX M xs a c:=
 ⟨k.os.trans h.os,k.tape.trans h.tape,k.output.trans h.output,yae h.size k.size,fun j h1 h2=>(k.block j h1 h2).trans (h.block j h1 h2)⟩
theorem BelX.of_below(h:Below M a b)(xs:List Nat):BelX M xs a b:=⟨h.os,h.tape,h.output,h.size,fun k h1 _=>h.block k h1⟩
theorem BelX.of_grown{g:Nat}(h:a.grownBy b (some g)):BelX a.heap.size [g] a b:=⟨h.os,h.tape,h.output,h.size,fun k h1 h2=>h.block k h1 (fun e=>h2 (by simp[yaf e]))⟩
theorem BelX.mono{M':Nat}{ys:List Nat}(h:BelX M xs a b)(hM:M'<=M)(hxs:∀k∈xs,k<M'->k∈ys):BelX M' ys a b:=
 ⟨h.os,h.tape,h.output,h.size,fun k h1 h2=>h.block k (yaz h1 hM) (fun e=>h2 (hxs k e h1))⟩
theorem BelX.set(h:BelX M xs a b)(k i:Nat)(v:Value)(hk:k∈xs\/M<=k):BelX M xs a (b.setCell ⟨k,i,none⟩ v):=by
 have hs:=yaA b ⟨k,i,none⟩ v;have hb:Below k b (b.setCell ⟨k,i,none⟩ v):=(yaj k b).setCell (p:=⟨k,i,none⟩) (yag _) v;refine⟨hb.os.trans h.os,hb.tape.trans h.tape,hb.output.trans h.output,yae h.size hb.size,fun j h1 h2=>(hs j ?_).trans (h.block j h1 h2)⟩;intro e;have e:j=k:=e;subst e;rcases hk with hk | hk
 ·exact h2 hk
 omega
theorem BelX.at_{k:Nat}(h:BelX M xs a b){o:Obj}(hk:a.heap[k]?=some o)(h1:k<M)(h2:k∉xs):b.heap[k]?=some o:=(h.block k h1 h2).trans hk
def RS.numM (s:RS)(t:UInt8)(most:Nat):Nat×RS:=if most<(s.num t).1 then (0,⟨(s.num t).2.l,true⟩) else s.num t
theorem nT(s:RS)(t:UInt8)(most:Nat):(s.numM t most).1<=most:=by
 unfold RS.numM;split
 ·exact yam _
 rename_i h;omega
theorem mG(s:RS)(t:UInt8)(most:Nat)(ht:0<t.toNat)(hm:most<18446744073709551616):Took (fun n:Nat=>val t (au n)) (fun n=>n<=most) (fun n=>n<=most) s (s.numM t most).1 (s.numM t most).2:=by
 have h:=iL s t ht;unfold RS.numM;split
 ·rename_i hlt;refine⟨fun e=>(by cases e),fun _=>?_,h.le⟩;cases hb:(s.num t).2.bad with
  | true=>exact (h.no hb).imp id (fun h z r hz=>h z r (by omega))
  | false=>
   obtain⟨h1,h2,h3⟩:=h.yes hb;refine .inr fun z r hz e=>?_;rw[h2] at e;have:=(az ht (by rw[ai];omega) (by rw[ai];omega) e).1;have h4:(s.num t).1=z:=by rw[<-rD _ h3,<-rD z (by omega),this]
   omega
 rename_i hlt;exact⟨fun e=>⟨(h.yes e).1,(h.yes e).2.1,by omega⟩,fun e=>(h.no e).imp id (fun h z r hz=>h z r (by omega)),h.le⟩
theorem mF(B g:Nat)(s:RS)(W:World)(hr:RdS B g s W):Calls Tryz.prog 149 #[.pointer (some ⟨g,0,none⟩)] W fun e w'=>(∃r,e=.returned r)/\RdS B g ⟨s.l,true⟩ w'/\w'=W.setCell ⟨g,1,none⟩ (.bool true):=by
 obtain⟨ao,cap,hr⟩:=hr;have hat:=hr.at_;have z1:W.frozen? ⟨g,1,none⟩=false:=by simp[World.frozen?,hat]
 have d1:W.cell? ⟨g,1,none⟩=some (.bool s.bad):=by simp[World.cell?,hat]
 have hpe:∀(w:World),Sem.run Tryz.prog (binOp BinOp.neq 181 (.pointer (some ⟨g,0,none⟩)) (.pointer none)) w=.ok (.bool true) w:=fun _=>by kernel_rfl
 have H:=Lib.hid hr.fail;clear hr hat;go_in;go_wp2;refine yaL (yaJ rfl _ _ _) rfl ?_;exact⟨⟨_,rfl⟩,⟨_,_,H.out⟩,rfl⟩
theorem mW(B g:Nat)(s:RS)(t:UInt8)(most:Nat)(W:World)(hr:RdS B g s W)(hl:s.l.length<=100000000)(hm:most<9223372036854775808):Calls Tryz.prog 111 #[.pointer (some ⟨g,0,none⟩),.int .u8 (t.toNat:Int),.int .u64 (most:Int)] W
  (jm B g (.int .i64 ((s.numM t most).1:Int)) (s.numM t most).2 W):=by
 have hc:=pW B g s t W hr hl;have hle:=nT s t most;unfold RS.numM at hle ⊢;by_cases hlt:most<(s.num t).1
 ·rw[if_pos hlt];have f0:decide ((most:Int)<((s.num t).1:Int))=true:=yaa (by omega);clear hle;generalize s.num t=r at *;obtain⟨n,s'⟩:=r;go_in;go_wp2_with fail;refine hc.mono ?_;rintro e w1 ⟨rfl,h1,h2⟩;go_wp2_with fail;refine (mF B g s' w1 h1).mono ?_;rintro e w2 ⟨⟨r,rfl⟩,h3,rfl⟩;go_wp2_with fail;go_ret;exact⟨rfl,h3,bi h2 (ak _ _ _ _)⟩
 rw[if_neg hlt];have f0:decide ((most:Int)<((s.num t).1:Int))=false:=yad (by omega);have f1:IntKind.i64.wrap ((s.num t).1:Int)=((s.num t).1:Int):=gG _ (by omega) (by omega);clear hle;generalize s.num t=r at *;obtain⟨n,s'⟩:=r;go_in;go_wp2_with fail;refine hc.mono ?_;rintro e w1 ⟨rfl,h1,h2⟩;go_wp2_with fail;go_ret;exact⟨rfl,h1,h2⟩
end Tlv
namespace Msg
open Go.RowKit Go.Lib Mem Tlv
variable{B B' cap g i n q size:Nat}{W W':World}{ao:Option Addr}{b x:List UInt8}{e t:TypeId}{s:RS}{v:Value}{xs:List Value}
theorem jo{a b:World}(h:a.grownBy b (some g)){M:Nat}(hM:M<=a.heap.size):BelX M [g] a b:=(BelX.of_grown h).mono hM (fun _ hk _=>hk)
theorem DU{l:List UInt8}:(⟨l.toArray⟩:ByteArray).data.toList=l:=by simp
def dQ (i:Int):Obj:=.cells #[.int .i64 i] 3
def Af (f:FuncId):Prop:=∀(q nb ab:Nat) (s:RS) (i:Nat) (x1 x2:ByteArray) (W:World),RdS q q s W->s.l.length<=100000000->W.heap[nb]?=some (dQ i)->W.heap[ab]?=some (bU (x1,x2))->nb<q->ab<q->i<=2 ->
  Calls Tryz.prog f #[.pointer (some ⟨q,0,none⟩),.pointer (some ⟨nb,0,none⟩),.pointer (some ⟨ab,0,none⟩)] W fun e w'=>e=.returned (.bool (decide (i+1<=2)))/\RdS q q (s.bytes (if i=0 then 1 else 2)).2 w' /\
   w'.heap[nb]?=some (dQ ((i+1:Nat):Int))/\w'.heap[ab]?=some (bU (if i=0 then (⟨(s.bytes 1).1.toArray⟩,x2) else (x1,⟨(s.bytes 2).1.toArray⟩)))/\BelX q [nb,ab] W w'
theorem Nr:Af 244:=by
 intro q nb ab s i x1 x2 W hr hl hn ha h1 h2 hi;have hnab:nb≠ab:=by rintro rfl;rw[hn] at ha;cases ha
 have c0:W.cell? ⟨nb,0,none⟩=some (.int .i64 (i:Int)):=by simp[World.cell?,hn,dQ]
 have f0:W.frozen? ⟨nb,0,none⟩=false:=by simp[World.frozen?,hn,dQ]
 obtain⟨j,hj⟩:∃j:Int,j=((i+1:Nat):Int):=⟨_,rfl⟩
 have hw:IntKind.i64.wrap ((i:Int)+1)=j:=(gG _ (by omega) (by omega)).trans (by omega);have hle:decide (j<=2)=decide (i+1<=2):=by rw[decide_eq_decide];omega
 have f1:(j==1)=decide (i=0):=by rw[ybk];simp;omega
 rw[<-hle,<-hj];clear hj hle;have hn1:(W.setCell ⟨nb,0,none⟩ (.int .i64 j)).heap[nb]?=some (dQ j):=at_set hn;have ha1:(W.setCell ⟨nb,0,none⟩ (.int .i64 j)).heap[ab]?=some (bU (x1,x2)):=ah ha (Ne.symm hnab);have hg1:W.grownBy (W.setCell ⟨nb,0,none⟩ (.int .i64 j)) (some nb):=ak _ _ _ _;have hr1:RdS q q s (W.setCell ⟨nb,0,none⟩ (.int .i64 j)):=hr.grown hg1 hn (fun c fr h=>by cases h) (by omega);have hb1:BelX q [nb,ab] W (W.setCell ⟨nb,0,none⟩ (.int .i64 j)):=(BelX.refl _ _ _).set _ _ _ (.inl (by simp));have hq:W.heap.size<=(W.setCell ⟨nb,0,none⟩ (.int .i64 j)).heap.size:=hb1.size;have hqs:q<W.heap.size:=by obtain⟨_,_,h⟩:=hr;exact h.lt
 have d0:(W.setCell ⟨nb,0,none⟩ (.int .i64 j)).cell? ⟨nb,0,none⟩=some (.int .i64 j):=by simp[World.cell?,hn1,dQ]
 generalize hW1:W.setCell ⟨nb,0,none⟩ (.int .i64 j)=W1 at *;by_cases h0:i=0
 ·rw[if_pos h0,if_pos h0];rw[yaa h0] at f1;have hc:=jT q q s 1 _ hr1 hl;clear h0;go_in;go_wp2_with fail;refine hc.mono ?_;rintro e W2 ⟨rfl,h3,h4⟩;have ha2:W2.heap[ab]?=some (bU (x1,x2)):=(h4.block _ (by omega) (fun e=>by have:=yaf e;omega)).trans ha1;have hn2:W2.heap[nb]?=some (dQ j):=(h4.block _ (by omega) (fun e=>by have:=yaf e;omega)).trans hn1;have g0:W2.cell? ⟨ab,0,none⟩=some (.string x1):=by simp[World.cell?,ha2,bU]
  have g1:W2.frozen? ⟨ab,0,none⟩=false:=by simp[World.frozen?,ha2,bU]
  have hn3:(W2.setCell ⟨ab,0,none⟩ (.string ⟨(s.bytes 1).1.toArray⟩)).heap[nb]?=some (dQ j):=ah hn2 hnab;have ha3:(W2.setCell ⟨ab,0,none⟩ (.string ⟨(s.bytes 1).1.toArray⟩)).heap[ab]?=some (bU (⟨(s.bytes 1).1.toArray⟩,x2)):=at_set ha2;have hr3:RdS q q (s.bytes 1).2 (W2.setCell ⟨ab,0,none⟩ (.string ⟨(s.bytes 1).1.toArray⟩)):=h3.grown (ak _ _ _ _) ha2 (fun c fr h=>by cases h) (by omega);have hb3:BelX q [nb,ab] W (W2.setCell ⟨ab,0,none⟩ (.string ⟨(s.bytes 1).1.toArray⟩)):=(hb1.trans ((jo h4 (by omega)).mono (yag _) (fun k hk h=>by rw[yah.1 hk] at h;omega))).set _ _ _ (.inl (by simp));have k0:(W2.setCell ⟨ab,0,none⟩ (.string ⟨(s.bytes 1).1.toArray⟩)).cell? ⟨nb,0,none⟩=some (.int .i64 j):=by simp[World.cell?,hn3,dQ]
  clear hW1;go_wp2_with fail;go_ret;exact⟨rfl,hr3,hn3,ha3,hb3⟩
 rw[if_neg h0,if_neg h0];rw[yad h0] at f1;have hc:=jT q q s 2 _ hr1 hl;clear h0;go_in;go_wp2_with fail;refine hc.mono ?_;rintro e W2 ⟨rfl,h3,h4⟩;have ha2:W2.heap[ab]?=some (bU (x1,x2)):=(h4.block _ (by omega) (fun e=>by have:=yaf e;omega)).trans ha1;have hn2:W2.heap[nb]?=some (dQ j):=(h4.block _ (by omega) (fun e=>by have:=yaf e;omega)).trans hn1;have g0:W2.cell? ⟨ab,1,none⟩=some (.string x2):=by simp[World.cell?,ha2,bU]
 have g1:W2.frozen? ⟨ab,1,none⟩=false:=by simp[World.frozen?,ha2,bU]
 have hn3:(W2.setCell ⟨ab,1,none⟩ (.string ⟨(s.bytes 2).1.toArray⟩)).heap[nb]?=some (dQ j):=ah hn2 hnab;have ha3:(W2.setCell ⟨ab,1,none⟩ (.string ⟨(s.bytes 2).1.toArray⟩)).heap[ab]?=some (bU (x1,⟨(s.bytes 2).1.toArray⟩)):=at_set ha2;have hr3:RdS q q (s.bytes 2).2 (W2.setCell ⟨ab,1,none⟩ (.string ⟨(s.bytes 2).1.toArray⟩)):=h3.grown (ak _ _ _ _) ha2 (fun c fr h=>by cases h) (by omega);have hb3:BelX q [nb,ab] W (W2.setCell ⟨ab,1,none⟩ (.string ⟨(s.bytes 2).1.toArray⟩)):=(hb1.trans ((jo h4 (by omega)).mono (yag _) (fun k hk h=>by rw[yah.1 hk] at h;omega))).set _ _ _ (.inl (by simp));have k0:(W2.setCell ⟨ab,1,none⟩ (.string ⟨(s.bytes 2).1.toArray⟩)).cell? ⟨nb,0,none⟩=some (.int .i64 j):=by simp[World.cell?,hn3,dQ]
 clear hW1;go_wp2_with fail;go_ret;exact⟨rfl,hr3,hn3,ha3,hb3⟩
def iD (u:ByteArray×ByteArray):List UInt8:=val 1 u.1.data.toList++val 2 u.2.data.toList
def DZ (x:List UInt8):Prop:=∀u:ByteArray×ByteArray,(iD u).length<=4194304->iD u≠x
def AtPart (x b:List UInt8)(i:Nat)(u:ByteArray×ByteArray):Prop:=x.length<=4194304/\((i=0/\x=b)\/(i=1/\x=val 1 u.1.data.toList++b)\/(i=2/\x=iD u++b))
theorem AtPart.le{u:ByteArray×ByteArray}(h:AtPart x b i u):i<=2:=by rcases h.2 with h | h | h<;>omega
theorem AtPart.len{u:ByteArray×ByteArray}(h:AtPart x b i u):b.length<=4194304:=by
 obtain⟨h0,h1⟩:=h;rcases h1 with ⟨_,rfl⟩ | ⟨_,rfl⟩ | ⟨_,rfl⟩
 ·exact h0
 ·rw[yab] at h0;omega
 rw[yab] at h0;omega
theorem mi(u:ByteArray×ByteArray):(iD u).length=10+u.1.data.toList.length+u.2.data.toList.length:=by unfold iD;rw[yab,ae,ae];omega
theorem EU{x1 x2:ByteArray}(h:AtPart x b i (x1,x2))(hb:0<b.length) :
  (decide (i+1<=2)=true->(RS.bytes ⟨b,false⟩ (if i=0 then 1 else 2)).2.bad=false->AtPart x (RS.bytes ⟨b,false⟩ (if i=0 then 1 else 2)).2.l (i+1) (if i=0 then (⟨(RS.bytes ⟨b,false⟩ 1).1.toArray⟩,x2) else (x1,⟨(RS.bytes ⟨b,false⟩ 2).1.toArray⟩))) /\
  (¬(decide (i+1<=2)=true/\(RS.bytes ⟨b,false⟩ (if i=0 then 1 else 2)).2.bad=false/\(RS.bytes ⟨b,false⟩ (if i=0 then 1 else 2)).2.l.length<b.length)->DZ x)/\(RS.bytes ⟨b,false⟩ (if i=0 then 1 else 2)).2.l.length<=b.length:=by
 obtain⟨h0,h1⟩:=h;rcases h1 with ⟨rfl,rfl⟩ | ⟨rfl,rfl⟩ | ⟨rfl,rfl⟩
 ·have T:=bC ⟨x,false⟩ 1 (by decide);simp only[if_true];refine⟨fun _ hb'=>⟨h0,.inr (.inl ⟨rfl,?_⟩)⟩,fun hn=>?_,T.le⟩
  ·have:=(T.yes hb').2.1;rw[DU];exact this
  intro u hu e;cases hb':(RS.bytes ⟨x,false⟩ 1).2.bad with
  | true=>
   rcases T.no hb' with h | h
   ·cases h
   rw[mi] at hu;exact h u.1.data.toList (val 2 u.2.data.toList) (by omega) e.symm
  | false=>
   refine hn ⟨by decide,hb',?_⟩;have:=congrArg List.length (T.yes hb').2.1;rw[yab,ae] at this;dsimp only at this;omega
 ·have T:=bC ⟨b,false⟩ 2 (by decide);simp only[show ¬(1=0) by decide,if_false];refine⟨fun _ hb'=>⟨h0,.inr (.inr ⟨rfl,?_⟩)⟩,fun hn=>?_,T.le⟩
  ·have:=(T.yes hb').2.1;unfold iD;rw[DU,yav,<-this]
  intro u hu e;rw[yab,ae] at h0;dsimp only at h0;rw[mi] at hu;obtain⟨_,e2⟩:=az (t:=1) (by decide) (by omega) (by omega) e;cases hb':(RS.bytes ⟨b,false⟩ 2).2.bad with
  | true=>
   rcases T.no hb' with h | h
   ·cases h
   exact h u.2.data.toList [] (by omega) (by rw[yaD];exact e2.symm)
  | false=>
   refine hn ⟨by decide,hb',?_⟩;have:=congrArg List.length (T.yes hb').2.1;rw[yab,ae] at this;dsimp only at this;omega
 refine⟨fun h=>by simp at h,fun _ u hu e=>?_,(bC ⟨b,false⟩ 2 (by decide)).le⟩;rw[yab,mi] at h0;dsimp only at h0;rw[mi] at hu;unfold iD at e;dsimp only at e;rw[yav] at e;obtain⟨_,e2⟩:=az (t:=1) (by decide) (by omega) (by omega) e;have e3:=(az (t:=2) (a:=u.2.data.toList) (b:=x2.data.toList) (r:=[]) (by decide) (by omega) (by omega) (by rw[yaD];exact e2)).2;rw[<-e3] at hb;simp at hb
theorem GX{u:ByteArray×ByteArray}(h:AtPart x [] i u):(i=2->x=iD u)/\(¬i=2->DZ x):=by
 obtain⟨h0,h1⟩:=h;rcases h1 with ⟨rfl,rfl⟩ | ⟨rfl,rfl⟩ | ⟨rfl,rfl⟩
 ·refine⟨fun h=>(by cases h),fun _ u hu e=>?_⟩;have:=congrArg List.length e;rw[mi] at this;simp at this
 ·refine⟨fun h=>(by cases h),fun _ u' hu e=>?_⟩;rw[yaD] at e h0;rw[mi] at hu;rw[ae] at h0;obtain⟨_,e2⟩:=az (t:=1) (r:=val 2 u'.2.data.toList) (r':=[]) (a:=u'.1.data.toList) (b:=u.1.data.toList) (by decide) (by omega) (by omega) (by rw[yaD];exact e);have:=congrArg List.length e2;rw[ae] at this;simp at this
 exact⟨fun _=>yaD _,fun h=>absurd rfl h⟩
def fP (v:Value):Obj:=.cells #[v] 32
def A7 (q lb most:Nat)(s:RS)(xs:List (ByteArray×ByteArray))(W:World)(e:Ending)(w':World):Prop:=∃r s' u v',e=.returned (.bool r)/\RdS q q s' w'/\w'.heap[lb]?=some (fP v')/\w'.ownsRow q 106 2 v' (xs++[u]).length (atV (xs++[u]))/\BelX q [lb] W w'/\s'.l.length<=s.l.length /\
   (r=true->s'.bad=false->xs.length<most/\s.bad=false/\s.l=val 3 (iD u)++s'.l/\(iD u).length<=4194304) /\
   (r=false\/s'.bad=true->s.bad=true\/most<=xs.length\/∀u rest,(iD u).length<=4194304->s.l≠val 3 (iD u)++rest)
def D7 (f:FuncId)(most:Nat):Prop:=∀(q lb:Nat) (s:RS) (v:Value) (xs:List (ByteArray×ByteArray)) (W:World),RdS q q s W->s.l.length<=100000000->W.heap[lb]?=some (fP v)->W.ownsRow q 106 2 v xs.length (atV xs)->xs.length<=20000000->lb<q ->
  Calls Tryz.prog f #[.pointer (some ⟨q,0,none⟩),.pointer (some ⟨lb,0,none⟩)] W (A7 q lb most s xs W)
def U2 (q nb ab:Nat)(W:World)(x:List UInt8)(q2:Nat)(rest b:List UInt8)(wr:World):Prop:=
 ∃(w1:World) (i:Nat) (u:ByteArray×ByteArray),w1.heap.size=q2/\RdS q q ⟨rest,false⟩ w1/\W.grownBy w1 (some q)/\BelX q2 [nb,ab] w1 wr/\RdS q2 q2 ⟨b,false⟩ wr/\wr.heap[nb]?=some (dQ (i:Int))/\wr.heap[ab]?=some (bU u)/\AtPart x b i u
def TN (q nb ab:Nat)(W:World)(x:List UInt8)(rest:List UInt8)(wr:World):Prop:=
 ∃(w1:World) (i:Int) (u:ByteArray×ByteArray),RdS q q ⟨rest,false⟩ w1/\W.grownBy w1 (some q)/\BelX w1.heap.size [nb,ab] w1 wr/\wr.heap[nb]?=some (dQ i)/\wr.heap[ab]?=some (bU u)/\DZ x
theorem uP(h:RdS B g s W)(hb:s.bad=false):RdS B g ⟨s.l,false⟩ W:=by
 obtain⟨l,bd⟩:=s;dsimp only at hb;subst hb;exact h
theorem RdS.belX{w1 wr:World}{xs:List Nat}(h:RdS B q s w1)(hb:BelX w1.heap.size xs w1 wr)(hq:q∉xs)(hx:∀k∈xs,∃o,w1.heap[k]?=some o/\∀c fr,o≠.cells c 5 fr):RdS B q s wr:=by
 obtain⟨ao,cap,h⟩:=h;have hne:0<cap->∀a,ao=some a->a.block∉xs:=fun h0 a ha hm=>by
  obtain⟨o,h1,h2⟩:=hx _ hm;obtain⟨c,fr,h3⟩:=h.ty h0 a ha;rw[h3] at h1;exact h2 c fr (yaf h1).symm
 refine⟨ao,cap,(hb.at_ h.at_ h.lt hq),h.le,?_,fun h0 a ha=>?_⟩
 ·obtain⟨h1,h2,h3,h4,h5⟩:=h.rd;refine⟨h1,h2,h3,h4,fun h0 a ha=>?_⟩;obtain⟨s1,l,c⟩:=h5 h0 a ha;exact⟨s1,yaz l hb.size,fun j u hu=>(yaK (a:=⟨a.block,a.off+j,none⟩) (hb.block _ l (hne h0 a ha))).trans (c j u hu)⟩
 obtain⟨c,fr,h3⟩:=h.ty h0 a ha;exact⟨c,fr,hb.at_ h3 (lA h3) (hne h0 a ha)⟩
theorem BF(f:FuncId)(hf11:Af f)(hen:∀args w,(callFunc f args).run Tryz.prog w=.ok (.enter f args) w)(q nb ab:Nat)(s:RS)(W:World)(hr:RdS q q s W)(hl:s.l.length<=100000000)(hn:W.heap[nb]?=some (dQ 0))(ha:W.heap[ab]?=some (bU (⟨#[]⟩,⟨#[]⟩)))(h1:nb≠q)(h2:ab≠q) :
  Calls Tryz.prog 207 #[.pointer (some ⟨q,0,none⟩),.int .u8 3,.func (.func f) #[] #[.pointer (some ⟨nb,0,none⟩),.pointer (some ⟨ab,0,none⟩)]] W fun e w'=>
   ∃r s' i u,e=.returned (.bool r)/\RdS q q s' w'/\w'.heap[nb]?=some (dQ i)/\w'.heap[ab]?=some (bU u)/\BelX W.heap.size [q,nb,ab] W w'/\s'.l.length<=s.l.length/\(r=true->s'.bad=false) /\
    (r=true->i=2->s.bad=false/\s.l=val 3 (iD u)++s'.l/\(iD u).length<=4194304)/\(¬(r=true/\i=2)->s.bad=true\/∀u rest,(iD u).length<=4194304->s.l≠val 3 (iD u)++rest):=by
 have hns:=lA hn;have has:=lA ha;have htc:=jy s 3 (by decide);have hkept:∀w1:World,W.grownBy w1 (some q)->w1.heap[nb]?=some (dQ 0)/\w1.heap[ab]?=some (bU (⟨#[]⟩,⟨#[]⟩)):=fun w1 h=>
  ⟨(h.block _ hns (fun e=>h1 (yaf e))).trans hn,(h.block _ has (fun e=>h2 (yaf e))).trans ha⟩
 have hlow:∀w1:World,W.grownBy w1 (some q)->∀k∈[nb,ab],∃o,w1.heap[k]?=some o/\∀c fr,o≠.cells c 5 fr:=by
  intro w1 h k hk;obtain⟨k1,k2⟩:=hkept w1 h;simp only[yas,yal,or_false] at hk;rcases hk with rfl|rfl
  ·exact⟨_,k1,fun c fr h=>by cases h⟩
  exact⟨_,k2,fun c fr h=>by cases h⟩
 have hqx:q∉[nb,ab]:=by
  simp only[yas,yal,or_false];rintro (e | e)
  ·exact h1 e.symm
  exact h2 e.symm
 refine (rE q q s 3 f #[.pointer (some ⟨nb,0,none⟩),.pointer (some ⟨ab,0,none⟩)] W hr hl hen
  (fun q2 rest b wr=>∃x,s.take 3=(some x,⟨rest,false⟩)/\U2 q nb ab W x q2 rest b wr) (fun rest wr=>∃x,s.take 3=(some x,⟨rest,false⟩)/\TN q nb ab W x rest wr) ?bad (fun q2 rest b w' h=>by obtain⟨_,_,w1,i,u,_,_,_,_,h,_⟩:=h;exact h) ?init ?step).mono ?post
 case bad=>
  rintro rest w' ⟨x,hx,w1,i,u,k2,k3,k4,k5,k6,k7⟩;exact RdS.belX k2 k4 hqx (hlow w1 k3)
 case init=>
  intro x rest ao cap w1 htk hgr hrg hrd hty;have hb1:=bN w1 (.cells #[.slice ao x.length cap,.bool false,.bool true] 237);obtain⟨k1,k2⟩:=hkept w1 hgr;refine⟨x,htk,w1,0,(⟨#[]⟩,⟨#[]⟩),rfl,hrg,hgr,BelX.of_below hb1 _,⟨ao,cap,?_,yag _,hrd.later hb1,hty.later hb1⟩,(hb1.q k1),(hb1.q k2),?_,.inl ⟨rfl,rfl⟩⟩
  ·show (w1.heap.push _)[w1.heap.size]?=some _;simp
  exact (dW htk).2.2.2.1
 case step=>
  rintro q2 rest b wr hb ⟨x,hx,w1,i,u,k1,k2,k3,k4,k5,k6,k7,k8⟩;have hsz:=k3.size;have hbl:=k8.len;obtain⟨p1,p2,p3⟩:=EU (x1:=u.1) (x2:=u.2) k8 hb;refine (hf11 q2 nb ab ⟨b,false⟩ i u.1 u.2 wr k5 (by dsimp only;omega) k6 k7 (by omega) (by omega) k8.le).mono ?_;rintro e w' ⟨rfl,m1,m2,m3,m4⟩;refine⟨_,_,rfl,m1,p3,fun hn=>⟨x,hx,w1,_,_,k2,k3,?_,m2,m3,p2 hn⟩,fun ht hb' _=>⟨x,hx,w1,i+1,_,k1,k2,k3,k4.trans m4,?_,m2,m3,p1 ht hb'⟩⟩
  ·rw[k1];exact k4.trans m4
  exact uP m1 hb'
 case post=>
  have hX:∀(w1 w':World),W.grownBy w1 (some q)->BelX w1.heap.size [nb,ab] w1 w'->BelX W.heap.size [q,nb,ab] W w':=fun w1 w' h k=>
   ((BelX.of_grown h).mono (yag _) (fun k hk _=>by rw[yah.1 hk];simp)).trans (k.mono h.size (fun k hk _=>by simp only[yas,yal,or_false] at hk ⊢;rcases hk with rfl|rfl<;>simp))
  rintro e w' (⟨hx,rfl,m1,m2⟩ | ⟨x,rest,hx,⟨rfl,q2,x',hx',w1,i,u,k1,k2,k3,k4,k5,k6,k7,k8⟩ | ⟨rfl,wx,⟨x',hx',w1,i,u,k2,k3,k4,k5,k6,k7⟩,rfl⟩⟩)
  ·obtain⟨n1,n2⟩:=hkept w' m2;rcases htc with ⟨x,rest,h,_⟩ | ⟨s',h,e1,e2,e3⟩
   ·rw[h] at hx;cases hx
   refine⟨false,(s.take 3).2,0,(⟨#[]⟩,⟨#[]⟩),rfl,m1,n1,n2,hX w' w' m2 (BelX.refl _ _ _),?_,fun h=>(by cases h),fun h=>(by cases h),fun _=>e3.imp id (fun h u rest hu=>h _ rest hu)⟩;rw[h];exact yaR (congrArg List.length e2)
  ·rw[hx] at hx';obtain rfl:=yaf (congrArg Prod.fst hx');obtain⟨t1,_,t3,t4,_⟩:=dW hx;obtain⟨p1,p2⟩:=GX k8;refine⟨true,⟨rest,false⟩,i,u,rfl,RdS.belX k2 (k1▸k4) hqx (hlow w1 k3),k6,k7,hX w1 w' k3 (k1▸k4),?_,fun _=>rfl,fun _ hi=>?_,fun hn=>.inr fun u' rest' hu e=>?_⟩
   ·rw[t3];exact gW _ _ _
   ·have hi2:i=2:=by omega
    rw[<-p1 hi2];exact⟨t1,t3,t4⟩
   have hi2:¬i=2:=fun h=>hn ⟨rfl,by omega⟩;rw[t3] at e;exact p2 hi2 u' hu (az (t:=3) (by decide) t4 hu e).1.symm
  rw[hx] at hx';obtain rfl:=yaf (congrArg Prod.fst hx');obtain⟨t1,_,t3,t4,_⟩:=dW hx;have hR:=RdS.belX k2 k4 hqx (hlow w1 k3);have hq1:q≠nb:=fun e=>h1 e.symm;have hq2:q≠ab:=fun e=>h2 e.symm;refine⟨false,⟨rest,true⟩,i,u,rfl,?_,ah k5 (Ne.symm hq1),ah k6 (Ne.symm hq2),(hX w1 wx k3 k4).set _ _ _ (.inl (by simp)),?_,fun h=>(by cases h),fun h=>(by cases h),fun _=>.inr fun u' rest' hu e=>?_⟩
  ·obtain⟨ao,cap,h⟩:=hR;exact⟨ao,cap,h.fail⟩
  ·rw[t3];exact gW _ _ _
  rw[t3] at e;exact k7 u' hu (az (t:=3) (by decide) t4 hu e).1.symm
theorem yu(xs:List (ByteArray×ByteArray))(u:ByteArray×ByteArray):atV (xs++[u])=atV xs++[.string u.1,.string u.2]:=by simp[atV]
theorem nG{b:Nat}{u:ByteArray×ByteArray}(h:W.heap[b]?=some (bU u)):W.cell? ⟨b,0,none⟩=some (.string u.1)/\W.cell? ⟨b,1,none⟩=some (.string u.2):=by
 unfold bU at h;simp[World.cell?,h]
theorem dw(h:W.ownsRow B e size v n xs)(hk:∀k,v.ownBlock=some k->W'.heap[k]?=W.heap[k]?):W'.ownsRow B e size v n xs:=by
 obtain⟨h1,h2 | ⟨g,cap,cur,h3,h4,h5,h6⟩⟩:=h
 ·exact⟨h1,.inl h2⟩
 exact⟨h1,.inr ⟨g,cap,cur,h3,h4,(hk g (by rw[h3];rfl)).trans h5,h6⟩⟩
theorem lV{w:World}(h:w.ownsRow B e size v n xs)(hB:B'<=B):w.ownsRow B' e size v n xs:=by
 obtain⟨h1,h2 | ⟨g,cap,cur,h3,h4,h5⟩⟩:=h
 ·exact⟨h1,.inl h2⟩
 exact⟨h1,.inr ⟨g,cap,cur,h3,yae hB h4,h5⟩⟩
theorem aU(h:W.ownsRow B e size v n xs){k:Nat}(hk:v.ownBlock=some k):B<=k/\k<W.heap.size/\∃cur,W.heap[k]?=some (.cells cur e (0,0)):=by
 rcases h.2 with ⟨rfl,_⟩ | ⟨g,cap,cur,rfl,hg,hc,_⟩
 ·cases hk
 have:g=k:=by simpa [Value.ownBlock] using hk
 subst this;exact⟨hg,(lA hc),cur,hc⟩
theorem wS(h:RdS B q s W)(hg:W.grownBy W' v.ownBlock)(ho:W.ownsRow B' e size v n xs)(h1:e≠5)(h2:e≠237):RdS B q s W':=by
 cases hv:v.ownBlock with
 | none=>rw[hv] at hg;exact h.later ⟨hg.os,hg.tape,hg.output,hg.size,fun k hk=>hg.block k hk (by simp)⟩
 | some k=>
  rw[hv] at hg;obtain⟨_,hk2,cur,hk3⟩:=aU ho hv;refine h.grown hg hk3 (fun c fr h=>by cases h;exact h1 rfl) (fun e=>?_);subst e;obtain⟨_,_,h⟩:=h;have h4:=h.at_;rw[hk3] at h4;cases h4;exact h2 rfl
theorem PG:D7 243 50:=by
 intro q lb s v xs W hr hl hlb hown hxs hlq;have hqs:q<W.heap.size:=by obtain⟨_,_,h⟩:=hr;exact h.lt
 have hb0:Below W.heap.size W ((W.alloc (bU (⟨#[]⟩,⟨#[]⟩))).alloc (dQ 0)):=cu W _ _;obtain⟨k1,k2⟩:=dh W (bU (⟨#[]⟩,⟨#[]⟩)) (dQ 0);have hz0:((W.alloc (bU (⟨#[]⟩,⟨#[]⟩))).alloc (dQ 0)).heap.size=W.heap.size+1+1:=by simp
 have hI:=BF 244 Nr (enters_of Tryz.func244 (by kernel_rfl) rfl) q (W.heap.size+1) W.heap.size s _ (hr.later hb0) hl k2 k1 (by omega) (by omega);have hcut:Hid (∀W2,BelX (W.heap.size+1+1) [q,W.heap.size+1,W.heap.size] ((W.alloc (bU (⟨#[]⟩,⟨#[]⟩))).alloc (dQ 0)) W2->BelX q [] W W2/\W2.heap[lb]?=some (fP v)/\W2.ownsRow q 106 2 v xs.length (atV xs)):=hid fun W2 hX=>by
  have hX2:BelX q [] W W2:=((BelX.of_below hb0 []).mono (by omega) (fun k hk _=>hk)).trans (hX.mono (by omega) (fun k hk hq=>by simp only[yas,yal,or_false] at hk;omega));refine⟨hX2,hX2.at_ hlb hlq (by simp),dw hown (fun k hk=>?_)⟩;obtain⟨h1,h2,cur,h3⟩:=aU hown hk;have hkne:k≠q:=by
   rintro rfl;obtain⟨_,_,h⟩:=hr;have h4:=h.at_;rw[h3] at h4;cases h4
  exact (hX.block k (by omega) (by simp only[yas,yal,or_false];omega)).trans (hb0.block k h2)
 rw[hz0] at hI;clear hb0 k1 k2 hz0 hown hlb hr;unfold bU dQ at hI hcut;go_in;go_wp2_with fail;refine hI.mono ?_;rintro e W2 ⟨r,s',i,u,rfl,hr2,hn2,ha2,hX,hle,hrb,hy,hno⟩;obtain⟨hX2,hlb2,hown2⟩:=hcut.out W2 hX;obtain⟨c0,c1⟩:=nG (u:=u) ha2;have c2:W2.cell? ⟨lb,0,none⟩=some v:=by simp[World.cell?,hlb2,fP]
 have hqz:q<=W2.heap.size:=by have:=hX2.size;omega
 clear hI hcut hX;have Hy:=hid hy;have Hno:=hid hno;have Hrb:=hid hrb;clear hy hno hrb;have hnv:v.ownBlock≠some (W.heap.size+1):=fun e=>by
  obtain⟨_,_,cur,h3⟩:=aU hown2 e;rw[h3] at hn2;cases hn2
 have hns:=lA hn2;have hqW:=hX2.size;have hqv:v.ownBlock≠some q:=fun e=>by
  obtain⟨_,_,cur,h3⟩:=aU hown2 e;obtain⟨_,_,h⟩:=hr2;have h4:=h.at_;rw[h3] at h4;cases h4
 go_upto_region 5 with (at_builtin;refine fM _ rfl (.tmp 10) (.tmp 12) 32 rfl q 106 (.agg #[.string ⟨#[]⟩,.string ⟨#[]⟩]) 2 32 oP (by decide) v xs.length (atV xs) rfl hown2 1 [.string u.1,.string u.2] rfl rfl (fun x hx=>by simp at hx;rcases hx with rfl|rfl<;>rfl) hqz (by omega) ?_;intro ao1 cap1 W3 hown3 hg3 hb3 _;have hlb3:W3.heap[lb]?=some (fP v):=(hb3.block lb hlq).trans hlb2;have c3:W3.cell? ⟨lb,0,none⟩=some v:=(by simp[World.cell?,hlb3,fP]);have c4:W3.frozen? ⟨lb,0,none⟩=false:=(by simp[World.frozen?,hlb3,fP]));have hn3:W3.heap[W.heap.size+1]?=some (dQ i):=(hg3.block _ (by simp;omega) (Ne.symm hnv)).trans ((ybR W2 _ _ hns).trans hn2);have hr3:RdS q q s' W3:=by
  have h1:RdS q q s' (W2.alloc (.cells #[.string u.1,.string u.2] 106)):=hr2.later (bN _ _);cases hv:v.ownBlock with
  | none=>rw[hv] at hg3;exact h1.later ⟨hg3.os,hg3.tape,hg3.output,hg3.size,fun k hk=>hg3.block k hk (by simp)⟩
  | some k=>
   rw[hv] at hg3;obtain⟨_,hk2,cur,hk3⟩:=aU hown2 hv;exact h1.grown hg3 ((ybR W2 _ _ hk2).trans hk3) (fun c fr h=>by cases h) (fun e=>hqv (by rw[hv,e]))
 have hl4:(W3.setCell ⟨lb,0,none⟩ (.slice ao1 (xs.length+1) cap1)).heap[lb]?=some (fP (.slice ao1 (xs.length+1) cap1)):=at_set hlb3;have hn4:(W3.setCell ⟨lb,0,none⟩ (.slice ao1 (xs.length+1) cap1)).heap[W.heap.size+1]?=some (dQ i):=ah hn3 (by omega);have hr4:RdS q q s' (W3.setCell ⟨lb,0,none⟩ (.slice ao1 (xs.length+1) cap1)):=hr3.grown (ak _ _ _ _) hlb3 (fun c fr h=>by cases h) (by omega);have hX4:BelX q [lb] W (W3.setCell ⟨lb,0,none⟩ (.slice ao1 (xs.length+1) cap1)):=((hX2.mono (yag _) (fun _ hk _=>absurd hk yal)).trans (BelX.of_below hb3 _)).set _ _ _ (.inl (by simp));have ho4:(W3.setCell ⟨lb,0,none⟩ (.slice ao1 (xs.length+1) cap1)).ownsRow q 106 2 (.slice ao1 (xs.length+1) cap1) (xs++[u]).length (atV (xs++[u])):=by
  rw[yab,ybg,yu];exact dw hown3 (fun k hk=>yaA _ _ _ _ (by have:=(aU hown3 hk).1;show k≠lb;omega))
 clear hlb3 c3 c4 hn3 hr3 hown3 hg3 hb3 c0 c1 c2 hn2 ha2 hr2 hown2 hlb2 hX2;generalize hW4:W3.setCell _ _=W4 at *;clear hW4;have d0:W4.cell? ⟨lb,0,none⟩=some (.slice ao1 (xs.length+1) cap1):=by simp[World.cell?,hl4,fP]
 have d1:W4.cell? ⟨W.heap.size+1,0,none⟩=some (.int .i64 i):=by simp[World.cell?,hn4,dQ]
 have hG:∀b:Bool,(b=true->r=true/\i=2/\xs.length<50)->(b=false->¬(r=true/\i=2)\/50<=xs.length)->A7 q lb 50 s xs W (.returned (.bool b)) W4:=by
  intro b hb1 hb2;refine⟨b,s',u,_,rfl,hr4,hl4,ho4,hX4,hle,fun hb _=>?_,fun hn=>?_⟩
  ·obtain⟨h1,h2,h3⟩:=hb1 hb;exact⟨h3,Hy.out h1 h2⟩
  cases b with
  | false=>
   rcases hb2 rfl with h | h
   ·exact (Hno.out h).imp id .inr
   exact .inr (.inl h)
  | true=>
   obtain⟨h1,h2,h3⟩:=hb1 rfl;rcases hn with h | h
   ·cases h
   rw[Hrb.out h1] at h;cases h
 have HG:=hid hG;clear hG hr4 hl4 ho4 hX4 hn4;cases r with
 | false=>
  go_wp2;go_ret;exact HG.out false (fun h=>by cases h) (fun _=>.inl (fun h=>by cases h.1))
 | true=>
  by_cases hi:i=2
  ·have f0:(i==2)=true:=by rw[hi];rfl
   have Hi:=hid hi;clear hi;by_cases hx:xs.length<50
   ·have f1:decide ((xs.length:Int)+1<=50)=true:=yaa (by omega);go_wp2;go_ret;exact HG.out true (fun _=>⟨by first | rfl | trivial,Hi.out,hx⟩) (fun h=>by cases h)
   have f1:decide ((xs.length:Int)+1<=50)=false:=yad (by omega);go_wp2;go_ret;exact HG.out false (fun h=>by cases h) (fun _=>.inr (by omega))
  have f0:(i==2)=false:=by rw[yap];exact hi
  go_wp2;go_ret;exact HG.out false (fun h=>by cases h) (fun _=>.inl (fun h=>hi h.2))
theorem JP(xs:List (ByteArray×ByteArray))(u:ByteArray×ByteArray):aI (xs++[u])=aI xs++val 3 (iD u):=by simp[aI,iD]
theorem zD:∀(xs ys:List (ByteArray×ByteArray)) (b:List UInt8),(aI ys).length<=4194304->aI ys=aI xs++b->∃zs,ys=xs++zs/\b=aI zs
 | [],ys,b,_,h=>⟨ys,rfl,h.symm⟩
 | u::xs,[],b,_,h=>by
  have:=congrArg List.length h;rw[dY,yab,yab,ae] at this;have e0:(aI []).length=0:=rfl;omega
 | u::xs,y::ys,b,hl,h=>by
  have hl2:=congrArg List.length h;rw[yab,dY u xs,yab,ae] at hl2;rw[dY,dY,yav] at h;rw[dY,yab,ae] at hl;rw[dY y ys,yab,ae] at hl2;obtain⟨h1,h2⟩:=az (by decide) (by omega) (by omega) h;obtain⟨zs,rfl,hb⟩:=zD xs ys b (by omega) h2;have h3:y=u:=by
   have:=nP [y] [u] (by rw[dY,yab,ae];simp only[aI,ybn,ybj];omega) (by rw[dY,yab,ae];simp only[aI,ybn,ybj];omega) (by rw[dY,dY,h1]);simpa using this
  exact⟨zs,by rw[h3];rfl,hb⟩
def TL (B g lb:Nat)(t:UInt8)(most:Nat)(s:RS)(W:World)(q:Nat)(rest b:List UInt8)(wr:World):Prop:=
 ∃(x:List UInt8) (w1:World) (v:Value) (xs:List (ByteArray×ByteArray)),s.take t=(some x,⟨rest,false⟩)/\w1.heap.size=q/\RdS B g ⟨rest,false⟩ w1/\W.grownBy w1 (some g)/\BelX q [lb] w1 wr/\RdS q q ⟨b,false⟩ wr/\wr.heap[lb]?=some (fP v) /\
  wr.ownsRow q 106 2 v xs.length (atV xs)/\x=aI xs++b/\xs.length<=most
def TV (B g lb:Nat)(t:UInt8)(most:Nat)(s:RS)(W:World)(rest:List UInt8)(wr:World):Prop:=
 ∃(x:List UInt8) (w1:World) (v:Value) (xs:List (ByteArray×ByteArray)),s.take t=(some x,⟨rest,false⟩)/\RdS B g ⟨rest,false⟩ w1/\W.grownBy w1 (some g)/\BelX w1.heap.size [lb] w1 wr/\wr.heap[lb]?=some (fP v) /\
  wr.ownsRow w1.heap.size 106 2 v xs.length (atV xs)/\xs.length<=20000000/\∀ys,ys.length<=most->(aI ys).length<=4194304->aI ys≠x
theorem Bh(xs:List (ByteArray×ByteArray)):xs.length<=(aI xs).length:=by
 induction xs with
 | nil=>simp
 | cons u xs ih=>rw[dY,yab,ae,yaF];omega
theorem BK(f:FuncId)(most:Nat)(hf:D7 f most)(hen:∀args w,(callFunc f args).run Tryz.prog w=.ok (.enter f args) w)(B g lb:Nat)(s:RS)(t:UInt8)(W:World)(ht:0<t.toNat)(hr:RdS B g s W)(hl:s.l.length<=100000000)(hlb:W.heap[lb]?=some (fP (.slice none 0 0)))(hg:g≠lb) :
  Calls Tryz.prog 207 #[.pointer (some ⟨g,0,none⟩),.int .u8 (t.toNat:Int),.func (.func f) #[] #[.pointer (some ⟨lb,0,none⟩)]] W fun e w'=>
   ∃r s' v xs,e=.returned (.bool r)/\RdS B g s' w'/\w'.heap[lb]?=some (fP v)/\w'.ownsRow W.heap.size 106 2 v xs.length (atV xs)/\BelX W.heap.size [g,lb] W w'/\s'.l.length<=s.l.length/\xs.length<=20000000 /\
    (r=true->s'.bad=false/\s.bad=false/\s.l=val t (aI xs)++s'.l/\(aI xs).length<=4194304)/\(r=false->s'.bad=true/\(s.bad=true\/∀ys rest,ys.length<=most->(aI ys).length<=4194304->s.l≠val t (aI ys)++rest)):=by
 have hls:=lA hlb;have htc:=jy s t ht;have hkept:∀w1:World,W.grownBy w1 (some g)->w1.heap[lb]?=some (fP (.slice none 0 0)):=fun w1 h=>(h.block _ hls (fun e=>hg (yaf e).symm)).trans hlb;have hlow:∀w1:World,W.grownBy w1 (some g)->∀k∈[lb],∃o,w1.heap[k]?=some o/\∀c fr,o≠.cells c 5 fr:=by
  intro w1 h k hk;rw[yah.1 hk];exact⟨_,hkept w1 h,fun c fr h=>by cases h⟩
 have hgx:g∉[lb]:=by simpa using hg
 have hX:∀(w1 w':World),W.grownBy w1 (some g)->BelX w1.heap.size [lb] w1 w'->BelX W.heap.size [g,lb] W w':=fun w1 w' h k=>
  ((BelX.of_grown h).mono (yag _) (fun k hk _=>by rw[yah.1 hk];simp)).trans (k.mono h.size (fun k hk _=>by rw[yah.1 hk];simp))
 refine (rE B g s t f #[.pointer (some ⟨lb,0,none⟩)] W hr hl hen (TL B g lb t most s W) (TV B g lb t most s W) ?bad (fun q rest b w' h=>by obtain⟨x,w1,v,xs,_,_,_,_,_,h,_⟩:=h;exact h) ?init ?step).mono ?post
 case bad=>
  rintro rest w' ⟨x,w1,v,xs,_,k2,k3,k4,_⟩;exact RdS.belX k2 k4 hgx (hlow w1 k3)
 case init=>
  intro x rest ao cap w1 htk hgr hrg hrd hty;have hb1:=bN w1 (.cells #[.slice ao x.length cap,.bool false,.bool true] 237);have k1:=hkept w1 hgr;refine⟨x,w1,.slice none 0 0,[],htk,rfl,hrg,hgr,BelX.of_below hb1 _,⟨ao,cap,?_,yag _,hrd.later hb1,hty.later hb1⟩,(hb1.q k1),yaC _ _ _ _,rfl,yam _⟩;show (w1.heap.push _)[w1.heap.size]?=some _;simp
 case step=>
  rintro q rest b wr hb ⟨x,w1,v,xs,htk,k1,k2,k3,k4,k5,k6,k7,k8,k9⟩;obtain⟨_,_,_,t4,_⟩:=dW htk;have hxl:=t4;rw[k8,yab] at hxl;have hlong:=Bh xs;have hlq:lb<q:=by rw[<-k1];exact yaz hls k3.size
  refine (hf q lb ⟨b,false⟩ v xs wr k5 (by dsimp only;omega) k6 k7 (by omega) hlq).mono ?_;rintro e w' ⟨r,s',u,v',rfl,m1,m2,m3,m4,m5,m6,m7⟩;have hlen:(xs++[u]).length<=20000000:=by rw[yab,ybg];omega
  refine⟨r,s',rfl,m1,m5,fun hn=>⟨x,w1,v',xs++[u],htk,k2,k3,?_,m2,?_,hlen,fun ys hy1 hy2 e=>?_⟩,fun hr hb' hlt=>⟨x,w1,v',xs++[u],htk,k1,k2,k3,k4.trans m4,uP m1 hb',m2,m3,?_,?_⟩⟩
  ·rw[k1];exact k4.trans m4
  ·rw[k1];exact m3
  ·rw[k8] at e;obtain⟨zs,rfl,hz⟩:=zD xs ys b hy2 e
   match zs,hz with
   | [],hz=>rw[hz] at hb;simp[aI] at hb
   | z::zs,hz=>
    have hzl:=hy2;rw[e,hz,dY,yab,yab,ae] at hzl;by_cases hc:r=false\/s'.bad=true
    ·rcases m7 hc with h | h | h
     ·cases h
     ·rw[yab,yaF] at hy1;omega
     exact h z (aI zs) (by unfold iD;omega) hz
    simp only[not_or,Bool.not_eq_false,ybs] at hc;obtain⟨_,_,h3,_⟩:=m6 hc.1 hc.2;refine hn ⟨hc.1,hc.2,?_⟩;have:=congrArg List.length h3;rw[yab,ae] at this;dsimp only at this;omega
  ·obtain⟨_,_,h3,_⟩:=m6 hr hb';rw[JP,yav,<-h3];exact k8
  have:=(m6 hr hb').1;rw[yab,ybg];omega
 case post=>
  rintro e w' (⟨hx,rfl,m1,m2⟩ | ⟨x,rest,hx,⟨rfl,q,x',w1,v,xs,hx',k1,k2,k3,k4,k5,k6,k7,k8,k9⟩ | ⟨rfl,wx,⟨x',w1,v,xs,hx',k2,k3,k4,k6,k7,k8,k9⟩,rfl⟩⟩)
  ·rcases htc with ⟨x,rest,h,_⟩ | ⟨s',h,e1,e2,e3⟩
   ·rw[h] at hx;cases hx
   refine⟨false,(s.take t).2,.slice none 0 0,[],rfl,m1,hkept w' m2,yaC _ _ _ _,hX w' w' m2 (BelX.refl _ _ _),?_,yam _,fun h=>(by cases h),fun _=>⟨by rw[h];exact e1,e3.imp id (fun h ys rest _ hu=>h _ rest hu)⟩⟩;rw[h];exact yaR (congrArg List.length e2)
  ·rw[hx] at hx';obtain rfl:=yaf (congrArg Prod.fst hx');obtain⟨t1,_,t3,t4,_⟩:=dW hx;rw[yaD] at k8;have hlong:=Bh xs;subst k8;refine⟨true,⟨rest,false⟩,v,xs,rfl,RdS.belX k2 (k1▸k4) hgx (hlow w1 k3),k6,lV k7 (by rw[<-k1];exact k3.size),hX w1 w' k3 (k1▸k4),?_,by omega,fun _=>⟨rfl,t1,t3,t4⟩,fun h=>(by cases h)⟩;rw[t3];exact gW _ _ _
  rw[hx] at hx';obtain rfl:=yaf (congrArg Prod.fst hx');obtain⟨t1,_,t3,t4,_⟩:=dW hx;have hR:=RdS.belX k2 k4 hgx (hlow w1 k3);refine⟨false,⟨rest,true⟩,v,xs,rfl,?_,ah k6 (Ne.symm hg),?_,(hX w1 wx k3 k4).set _ _ _ (.inl (by simp)),?_,k8,fun h=>(by cases h),fun _=>⟨rfl,.inr fun ys rest' hy1 hy2 e=>?_⟩⟩
  ·obtain⟨ao,cap,h⟩:=hR;exact⟨ao,cap,h.fail⟩
  ·refine lV (dw k7 (fun k hk=>yaA _ _ _ _ ?_)) k3.size;have h1:=(aU k7 hk).1;have h2:g<W.heap.size:=by obtain⟨_,_,h⟩:=hr;exact h.lt
   have:=k3.size;show k≠g;omega
  ·rw[t3];exact gW _ _ _
  rw[t3] at e;exact k9 ys hy1 hy2 (az ht t4 hy2 e).1.symm
def TyX (t:TypeId)(W:World)(ao:Option Addr)(cap:Nat):Prop:=0<cap->∀a,ao=some a->∃c fr,W.heap[a.block]?=some (.cells c t fr)
theorem TyX.of_own(h:W.ownsRow B t size (.slice ao n cap) n xs):TyX t W ao cap:=fun _ a ha=>by
 subst ha;rcases h.2 with ⟨h,_⟩ | ⟨g,c,cur,h,_,hc,_⟩
 ·cases h
 cases h;exact⟨cur,_,hc⟩
theorem TyX.set{x:Value}{o:Obj}(h:TyX t W ao cap)(hg:W.heap[g]?=some o)(ho:∀c fr,o≠.cells c t fr):TyX t (W.setCell ⟨g,i,none⟩ x) ao cap:=fun h0 a ha=>by
 obtain⟨c,fr,h1⟩:=h h0 a ha;refine⟨c,fr,ah h1 (fun e=>?_)⟩;rw[e,hg] at h1;exact ho c fr (yaf h1)
def QD (B g:Nat)(t:UInt8)(most:Nat)(s:RS)(W:World)(e:Ending)(w':World):Prop:=∃ao n cap xs s',e=.returned (.slice ao n cap)/\Rd w' 2 ao n cap (atV xs)/\n<=100000000/\TyX 106 w' ao cap/\RdS B g s' w'/\W.grownBy w' (some g) /\
 Took (fun ys=>val t (aI ys)) (fun ys=>ys.length<=most/\(aI ys).length<=4194304) (fun ys=>(aI ys).length<=4194304) s xs s'
theorem BU(B g:Nat)(s:RS)(t:UInt8)(W:World)(ht:0<t.toNat)(hr:RdS B g s W)(hl:s.l.length<=100000000) :
  Calls Tryz.prog 239 #[.pointer (some ⟨g,0,none⟩),.int .u8 (t.toNat:Int)] W (QD B g t 50 s W):=by
 have hgs:g<W.heap.size:=by obtain⟨_,_,h⟩:=hr;exact h.lt
 have hb0:=bN W (fP (.slice none 0 0));have k0:=aN W (fP (.slice none 0 0))
 have hA:=BK 243 50 PG (enters_of Tryz.func243 (by kernel_rfl) rfl) B g W.heap.size s t _ ht (hr.later hb0) hl k0 (by omega);have hz:(W.alloc (fP (.slice none 0 0))).heap.size=W.heap.size+1:=by simp
 have hcut:Hid (∀W2,BelX (W.heap.size+1) [g,W.heap.size] (W.alloc (fP (.slice none 0 0))) W2->W.grownBy W2 (some g)):=hid fun W2 h=>
  ⟨h.os.trans hb0.os,h.tape.trans hb0.tape,h.output.trans hb0.output,yae hb0.size h.size,fun k h1 h2=>(h.block k (by omega) (by simp only[yas,yal,or_false,not_or];exact⟨fun e=>h2 (by rw[e]),by omega⟩)).trans (hb0.block k h1)⟩
 have HT:=hid ht;rw[hz] at hA;clear hb0 k0 hz hr ht;unfold fP at hA hcut;go_in;go_wp2_with fail;refine hA.mono ?_;rintro e W2 ⟨r,s',v,xs,rfl,h1,h2,h3,h4,h5,h6,h7,h8⟩;have hg2:=hcut.out W2 h4;obtain⟨ao,cap,rfl,hrd⟩:=Rd.of_own h3;have hfr:∀a,ao=some a->W.heap.size<=a.block:=fun a ha=>by have:=kR h3 a ha;omega
 have hty:=TyX.of_own h3;clear hA hcut h4;have H7:=hid h7;have H8:=hid h8;clear h7 h8;cases r with
 | true=>
  have c0:W2.cell? ⟨W.heap.size,0,none⟩=some (.slice ao xs.length cap):=by simp[World.cell?,h2]
  go_wp2;go_ret;refine⟨ao,_,cap,xs,s',rfl,hrd,by omega,hty,h1,hg2,⟨fun _=>?_,fun hb=>?_,h5⟩⟩
  ·obtain⟨_,e2,e3,e4⟩:=H7.out (by first | rfl | trivial);exact⟨e2,e3,e4⟩
  rw[(H7.out (by first | rfl | trivial)).1] at hb;cases hb
 | false=>
  have hne:W.heap.size≠g:=by omega
  go_wp2_with fail;refine (mF B g s' W2 h1).mono ?_;rintro e W3 ⟨⟨r,rfl⟩,h9,rfl⟩;have hl3:(W2.setCell ⟨g,1,none⟩ (.bool true)).heap[W.heap.size]?=some (.cells #[.slice ao xs.length cap] 32):=ah h2 hne;have c0:(W2.setCell ⟨g,1,none⟩ (.bool true)).cell? ⟨W.heap.size,0,none⟩=some (.slice ao xs.length cap):=by simp[World.cell?,hl3]
  have hrd3:Rd (W2.setCell ⟨g,1,none⟩ (.bool true)) 2 ao xs.length cap (atV xs):=sS hrd _ _ (fun a ha=>by have:=hfr a ha;show a.block≠g;omega);have hg3:W.grownBy (W2.setCell ⟨g,1,none⟩ (.bool true)) (some g):=bi hg2 (ak _ _ _ _);have hty3:TyX 106 (W2.setCell ⟨g,1,none⟩ (.bool true)) ao cap:=by
   obtain⟨_,_,h⟩:=h1;exact hty.set h.at_ (fun c fr h=>by cases h)
  generalize W2.setCell _ _=W3 at *;go_wp2;go_ret;exact⟨ao,_,cap,xs,_,rfl,hrd3,by omega,hty3,h9,hg3,⟨fun hb=>(by cases hb),fun _=>(H8.out (by first | rfl | trivial)).2.imp id (fun h z r hz=>h z r hz.1 hz.2),h5⟩⟩
