/-
  A part of the proof.
-/
import Derived.Test.YtfmmandlmbcncaaGreatDoorKdbc
set_option maxHeartbeats 40000000
set_option maxRecDepth 100000
namespace Go.Proofs.YtfmmandlmbcncaaGreatDoor.Msg
open Go.RowKit Go.Lib Mem Tlv
theorem FT (B:Nat)(b:List UInt8)(ao:Option Addr)(n cap:Nat)(w:World)(hr:Rd w 1 ao n cap (byV b))(hB:B<=w.heap.size)(hty:TyB B w ao cap)(hn:n<=100000000) :
  Calls Tryz.prog 133 #[.slice ao n cap] w (uP (.bool true) (.bool false) b w):=by
 have hbn:b.length=n:=by have:=hr.1;rw[aS] at this;omega
 have hb0:Below w.heap.size w (w.alloc zeroE.box):=(Below.refl _ _).alloc (Nat.le_refl _) _;have k0:(w.alloc zeroE.box).heap[w.heap.size]?=some zeroE.box:=by show (w.heap.push _)[w.heap.size]?=some _;exact Array.getElem?_push_size
 have hz0:(w.alloc zeroE.box).heap.size=w.heap.size+1:=by simp
 have hr0:=hr.later hb0;have ht0:=hty.later hb0;unfold zeroE EV.box EV.cells at hb0 k0 hz0 hr0 ht0;dsimp only at hb0 k0 hz0 hr0 ht0;clear hr hty;go_in;go_upto_region 1 with fail;generalize hg:w.alloc _=W0 at *;have k0f:W0.heap[w.heap.size]?=some zeroE.box:=k0;clear hg k0;subst hbn;have hBW0:B<=W0.heap.size:=Nat.le_trans hB hb0.size;have hR:=wP hr0 hBW0 ht0;have hbR:Below W0.heap.size W0 (W0.alloc (.cells #[.slice ao b.length cap,.bool false] 119)):=(Below.refl _ _).alloc (Nat.le_refl _) _;go_upto_region 2 with fail;generalize hg:W0.alloc _=W1 at *;have hz1:W1.heap.size=W0.heap.size+1:=by rw[<-hg];simp
 clear hg;go_upto_region 3 with (refine zNr rfl ?_;go_simp);generalize hg:W1.alloc _=W2;have e2:W1.alloc zeroE.box=W2:=hg;have hb2:Below W1.heap.size W1 W2:=by rw[<-e2];exact (Below.refl _ _).alloc (Nat.le_refl _) _
 have kb:W2.heap[W1.heap.size]?=some zeroE.box:=by rw[<-e2];show (W1.heap.push _)[W1.heap.size]?=some _;exact Array.getElem?_push_size
 have hR2:=hR.later hb2;have hbel2:Below W0.heap.size W0 W2:=hbR.trans (hb2.mono (by omega));clear hg e2 hb2 hR hbR hr0 ht0;rw[hz0] at hR2;rw[hz1,hz0] at kb;clear hz1;have T1:=bI ⟨b,false⟩ 1 (by decide);generalize hgq:w.heap.size+1=g at *;generalize hobq:g+1=ob at *;have hg0:W0.heap.size<=g:=by omega
 have hob:W0.heap.size<=ob:=by omega
 have hgo:g≠ob:=by omega
 have hrw:w.heap.size<W0.heap.size:=by omega
 clear hgq hobq;have hBo:B<=ob:=Nat.le_trans hBW0 hob;have htx:=rF B g ⟨b,false⟩ 1 W2 hR2 (by dsimp only;omega);generalize RS.bytes ⟨b,false⟩ 1=nm at *;obtain⟨y,s1⟩:=nm;dsimp only at T1 htx;go_wp2_with fail;refine htx.mono ?_;rintro e W3 ⟨rfl,hR3,hg3⟩;have hb3:Below W0.heap.size W0 W3:=hbel2.trans (below_of_grown hg3 hg0 hR2.lt);have q3:W3.heap[ob]?=some zeroE.box:=(hg3.block _ (Array.getElem?_eq_some_iff.1 kb).1 (fun e=>hgo (Option.some.inj e).symm)).trans kb;clear htx hbel2 kb hR2 hg3;obtain⟨d0,d1,d2⟩:=dF q3;unfold zeroE at d0 d1;dsimp only at d0 d1;go_upto_region 4 with fail;have q4:(W3.setCell ⟨ob,0,none⟩ (.string ⟨y.toArray⟩)).heap[ob]?=some (EV.box ⟨⟨y.toArray⟩,none,0,0⟩):=(at_set q3).trans (by kernel_rfl);have hR4:RfS B g s1 (W3.setCell ⟨ob,0,none⟩ (.string ⟨y.toArray⟩)):=hR3.grown (ai _ _ _ _) q3 (fun c fr h=>by cases h) hgo hBo;have hb4:=hb3.setCell (p:=⟨ob,0,none⟩) hob (.string ⟨y.toArray⟩);generalize W3.setCell _ _=W4 at *;clear d0 d1 d2 q3 hR3 hb3;have l1:=T1.le;dsimp only at l1;go_wp2_with fail;refine (yE B g s1 2 W4 (by decide) hR4 (by omega)).mono ?_;rintro e W5 ⟨a5,n5,c5,xs,s2,rfl,hrd5,hn5,hty5,hR5,hg5,T2'⟩;have T2:=jr T2' (may':=fun ys=>bH ys=true/\(aC ys).length<=4194304) (good':=fun ys=>(aC ys).length<=4194304) (fun z h=>⟨ug h.1,h.2⟩) (fun _ h=>h);have hb5:Below W0.heap.size W0 W5:=hb4.trans (below_of_grown hg5 hg0 hR4.lt);have q5:W5.heap[ob]?=some (EV.box ⟨⟨y.toArray⟩,none,0,0⟩):=(hg5.block _ (Array.getElem?_eq_some_iff.1 q4).1 (fun e=>hgo (Option.some.inj e).symm)).trans q4;clear T2' hb4 q4 hR4 hg5;obtain⟨d0,d1,d2⟩:=dF q5;dsimp only at d0 d1;go_upto_region 5 with fail;have q6:(W5.setCell ⟨ob,1,none⟩ (.slice a5 n5 c5)).heap[ob]?=some (EV.box ⟨⟨y.toArray⟩,a5,n5,c5⟩):=(at_set q5).trans (by kernel_rfl);have hR6:RfS B g s2 (W5.setCell ⟨ob,1,none⟩ (.slice a5 n5 c5)):=hR5.grown (ai _ _ _ _) q5 (fun c fr h=>by cases h) hgo hBo;have hb6:=hb5.setCell (p:=⟨ob,1,none⟩) hob (.slice a5 n5 c5);have hk6:KeepR W5 (W5.setCell ⟨ob,1,none⟩ (.slice a5 n5 c5)):=yL q5 (Nat.le_of_eq (World.size_setCell _ _ _).symm) (fun k hk=>Below.heap_setCell _ _ _ _ hk);have hE:EAt (W5.setCell ⟨ob,1,none⟩ (.slice a5 n5 c5)) ⟨⟨y.toArray⟩,a5,n5,c5⟩ xs:=⟨jI (.inr (.inr rfl)) hrd5 hty5 hk6,by dsimp only;omega⟩
 have hT:TyX 106 (W5.setCell ⟨ob,1,none⟩ (.slice a5 n5 c5)) a5 c5:=hty5.kpr (.inr (.inr rfl)) hk6;generalize W5.setCell _ _=W6 at *;clear d0 d1 d2 q5 hR5 hb5 hk6 hrd5 hty5;have hrz:W6.heap[w.heap.size]?=some zeroE.box:=(hb6.block _ (by omega)).trans k0f;have hbel:=hb0.trans (hb6.mono (by omega));go_wp2_with fail;refine (qM B g s2 W6 hR6).mono ?_;rintro e w9 ⟨rfl,rfl⟩;by_cases he:s2.bad=false/\s2.l=[]
 ·have f0:decide (s2.bad=false/\s2.l=[])=true:=decide_eq_true he;have hdone:=Af T1 T2 (v0:=⟨⟨y.toArray⟩,a5,n5,c5⟩) rfl he.1 he.2;have HD:=hid hdone;have hme:=sF ⟨⟨y.toArray⟩,a5,n5,c5⟩ xs W6 hE;have HN:au ⟨⟨y.toArray⟩,a5,n5,c5⟩ xs=false->qU b:=fun h=>rJ T1 T2 (v0:=⟨⟨y.toArray⟩,a5,n5,c5⟩) rfl (.inr h);have HNo:=hid HN;clear hdone he HN T1 T2;unfold EV.val EV.cells at hme;go_wp2_with (refine zLr rfl q6 ?_;go_simp);refine hme.mono ?_;rintro e W7 ⟨rfl,hb7⟩;have hrz7:=(hb7.block _ (Array.getElem?_eq_some_iff.1 hrz).1).trans hrz;have q7:=(hb7.block _ (Array.getElem?_eq_some_iff.1 q6).1).trans q6;have hbel7:=hbel.trans (hb7.mono hbel.size);have hE7:=hE.later hb7;have hT7:TyX 106 W7 a5 c5:=hT.kpr (.inr (.inr rfl)) (KeepR.of_below hb7);clear hme hE hT hrz q6 hbel hb7;cases hm:au ⟨⟨y.toArray⟩,a5,n5,c5⟩ xs with
  | false=>
   have hno:=HNo.out hm;have f1:(W7.setRow w.heap.size zeroE.cells).heap[w.heap.size]?=some (.cells zeroE.cells 124):=aT hrz7;have f2:=below_setRow hbel7 (Nat.le_refl _) zeroE.cells;clear hm;go_wp2_with (refine zSr rfl hrz7 ?_;go_simp);exact bodyPost_ret (w:=W7.setRow w.heap.size zeroE.cells) (aI (i:=2) (j:=3) (t:=124) rfl rfl rfl (by kernel_rfl) (by kernel_rfl) f1) rfl ⟨f2,.inr ⟨rfl,hno⟩⟩
  | true=>
   have HM:=hid hm;have f1:(W7.setRow w.heap.size (EV.cells ⟨⟨y.toArray⟩,a5,n5,c5⟩)).heap[w.heap.size]?=some (.cells (EV.cells ⟨⟨y.toArray⟩,a5,n5,c5⟩) 124):=aT hrz7;have f2:=below_setRow hbel7 (Nat.le_refl _) (EV.cells ⟨⟨y.toArray⟩,a5,n5,c5⟩);have hkr:=yL hrz7 (below_setRow (Below.refl w.heap.size W7) (Nat.le_refl _) (EV.cells ⟨⟨y.toArray⟩,a5,n5,c5⟩)).size (fun k hk=>setRow_other W7 w.heap.size k (EV.cells ⟨⟨y.toArray⟩,a5,n5,c5⟩) hk);have hEF:EAt (W7.setRow w.heap.size (EV.cells ⟨⟨y.toArray⟩,a5,n5,c5⟩)) ⟨⟨y.toArray⟩,a5,n5,c5⟩ xs:=⟨jI (.inr (.inr rfl)) hE7.a hT7 hkr,hE7.la⟩
   have hTF:TyX 106 (W7.setRow w.heap.size (EV.cells ⟨⟨y.toArray⟩,a5,n5,c5⟩)) a5 c5:=hT7.kpr (.inr (.inr rfl)) hkr;clear hm;go_wp2_with (first | (refine zLr rfl q7 ?_;go_simp) | (refine zSr rfl hrz7 ?_;go_simp));exact bodyPost_ret (w:=W7.setRow w.heap.size (EV.cells ⟨⟨y.toArray⟩,a5,n5,c5⟩)) (aI (i:=2) (j:=3) (t:=124) rfl rfl rfl (by kernel_rfl) (by kernel_rfl) f1) rfl ⟨f2,.inl ⟨_,xs,rfl,hEF,hTF,HM.out,HD.out⟩⟩
 have f0:decide (s2.bad=false/\s2.l=[])=false:=decide_eq_false he;have hno:=rJ T1 T2 (v0:=⟨⟨y.toArray⟩,a5,n5,c5⟩) rfl (.inl (by
  cases hb:s2.bad with
  | true=>exact .inl rfl
  | false=>exact .inr (List.length_pos_iff.2 (fun h=>he ⟨hb,h⟩))))
 have f1:(W6.setRow w.heap.size zeroE.cells).heap[w.heap.size]?=some (.cells zeroE.cells 124):=aT hrz;have f2:=below_setRow hbel (Nat.le_refl _) zeroE.cells;clear he;go_wp2_with (refine zSr rfl hrz ?_;go_simp);exact bodyPost_ret (w:=W6.setRow w.heap.size zeroE.cells) (aI (i:=2) (j:=3) (t:=124) rfl rfl rfl (by kernel_rfl) (by kernel_rfl) f1) rfl ⟨f2,.inr ⟨rfl,hno⟩⟩
end Go.Proofs.YtfmmandlmbcncaaGreatDoor.Msg
namespace Go.Proofs.YtfmmandlmbcncaaGreatDoor.Tlv
open Go.RowKit Mem
theorem Eb (s:RS)(t:UInt8):s.flag t=if (s.bytes t).2.bad=true\/¬((s.bytes t).1.length=1/\((s.bytes t).1[0]?.getD 0).toNat<=1) then (false,⟨(s.bytes t).2.l,true⟩) else (decide (((s.bytes t).1[0]?.getD 0).toNat=1),(s.bytes t).2):=by
 unfold RS.flag RS.bytes;cases h:s.take t with
 | mk ox s'=>
  cases ox with
  | none=>
   have hb:=tV h;dsimp only;rw[if_pos (.inl hb),<-hb]
  | some x=>
   have hb:=(dJ h).2.1;dsimp only[Option.getD_some];by_cases h8:x.length=1/\(x[0]?.getD 0).toNat<=1
   ·rw[if_pos h8,if_neg (fun h=>h.elim (fun h=>by rw[hb] at h;cases h) (fun h=>h h8))]
   rw[if_neg h8,if_pos (.inr h8)]
theorem EK (B g:Nat)(s:RS)(t:UInt8)(W:World)(hr:RfS B g s W)(hl:s.l.length<=100000000):Calls Tryz.prog 95 #[.pointer (some ⟨g,0,none⟩),.int .u8 (t.toNat:Int)] W
  (Bv B g (.bool (s.flag t).1) (s.flag t).2 W):=by
 have hc:=jS B g s t W hr hl;unfold iU at hc;rw[Eb];generalize s.bytes t=r at *;obtain⟨x,s'⟩:=r;dsimp only at hc ⊢;by_cases hb:s'.bad=true\/¬x.length=1
 ·rw[if_pos (hb.imp id (fun h k=>h k.1))];have HB:=Lib.hid hb;clear hb;go_in;go_wp2_with fail;refine hc.mono ?_;rintro e w' ⟨⟨ao1,cap1,h1⟩,h2,ao,cap,rfl,h3,h4⟩;obtain⟨c0,c1,z0,z1⟩:=gy h1;have Hf:=Lib.hid h1.fail;cases hs:s'.bad with
  | true=>
   rw[hs] at c1;clear h1 hs;go_wp2_with fail;go_ret;exact⟨rfl,⟨_,_,Hf.out⟩,aV h2 (ai _ _ _ _)⟩
  | false=>
   rw[hs] at c1;have f0:((x.length:Int) != 1)=true:=by
    rw[bne_iff_ne];rcases HB.out with h | h
    ·rw[hs] at h;cases h
    omega
   clear h1 hs;go_wp2_with fail;go_ret;exact⟨rfl,⟨_,_,Hf.out⟩,aV h2 (ai _ _ _ _)⟩
 simp only[not_or,Bool.not_eq_true,Decidable.not_not] at hb;obtain⟨hb1,h8⟩:=hb;generalize hP:(if s'.bad=true\/¬(x.length=1/\(x[0]?.getD 0).toNat<=1) then ((false,⟨s'.l,true⟩):Bool×RS) else (decide ((x[0]?.getD 0).toNat=1),s'))=P;have HP:=Lib.hid hP;clear hP;go_in;go_wp2_with fail;refine hc.mono ?_;rintro e w' ⟨⟨ao1,cap1,h1⟩,h2,ao,cap,rfl,h4,_⟩;obtain⟨c0,c1,z0,z1⟩:=gy h1;have Hf:=Lib.hid h1.fail;rw[hb1] at c1;have hle:=h4.le;obtain⟨b,o,rfl,_,hcc⟩:=h4.some (by omega);have x0:w'.cell? ⟨b,o,none⟩=some (.int .u8 ((x[0]?.getD 0).toNat:Int)):=hcc 0 _ (fQ x 0 (by omega));generalize (x[0]?.getD 0).toNat=q at *;rw[h8];have H1:=Lib.hid h1;have HB:=Lib.hid hb1;have H8:=Lib.hid h8;clear h1 hb1 h8 hcc hc h4 hle;by_cases hv:q<=1
 ·have f0:decide ((1:Int)<(q:Int))=false:=decide_eq_false (by omega);have HN:Hid (¬(s'.bad=true\/¬(x.length=1/\q<=1))):=Lib.hid (fun h=>h.elim (fun h=>by rw[HB.out] at h;cases h) (fun h=>h ⟨H8.out,hv⟩));by_cases h1v:q=1
  ·have f1:((q:Int)==1)=true:=by rw[h1v];rfl
   have HV:=Lib.hid h1v;clear hv h1v;go_wp2_with fail;go_ret;rw[<-HP.out,if_neg HN.out];exact⟨by rw[decide_eq_true HV.out];rfl,⟨_,_,H1.out⟩,h2⟩
  have f1:((q:Int)==1)=false:=by rw[beq_eq_false_iff_ne];omega
  have HV:=Lib.hid h1v;clear hv h1v;go_wp2_with fail;go_ret;rw[<-HP.out,if_neg HN.out];exact⟨by rw[decide_eq_false HV.out];rfl,⟨_,_,H1.out⟩,h2⟩
 have f0:decide ((1:Int)<(q:Int))=true:=decide_eq_true (by omega);have HN:Hid (s'.bad=true\/¬(x.length=1/\q<=1)):=Lib.hid (.inr (fun h=>hv h.2));clear hv;go_wp2_with fail;go_ret;rw[<-HP.out,if_pos HN.out];exact⟨rfl,⟨_,_,Hf.out⟩,aV h2 (ai _ _ _ _)⟩
end Go.Proofs.YtfmmandlmbcncaaGreatDoor.Tlv
namespace Go.Proofs.YtfmmandlmbcncaaGreatDoor.Msg
open Go.RowKit Go.Lib Mem Tlv
structure KeepN (B:Nat)(W W':World):Prop where
 km:KeepM W W'
 low:∀k,k<B->k<W.heap.size->W'.heap[k]?=W.heap[k]?
theorem KeepN.kb {B:Nat}{a b:World}(h:KeepN B a b):KeepB B a b:=⟨h.km.kr,h.low⟩
theorem KeepN.of_below {B:Nat}{a b:World}(h:Below a.heap.size a b):KeepN B a b:=⟨KeepM.of_below h,fun k _ h2=>h.block k h2⟩
theorem KeepN.box {B j:Nat}{a b:World}{cs:Array Value}{t:TypeId}{fr:Nat×Nat}(h:a.heap[j]?=some (.cells cs t fr))(ht:¬gW t)(hB:B<=j)(hs:a.heap.size<=b.heap.size)(ho:∀k,k≠j->b.heap[k]?=a.heap[k]?):KeepN B a b:=⟨KeepM.box h ht hs ho,fun k h1 _=>ho k (by omega)⟩
theorem KeepN.set {B b i:Nat}{W:World}{cs:Array Value}{t:TypeId}{fr:Nat×Nat}{x:Value}(h:W.heap[b]?=some (.cells cs t fr))(ht:¬gW t)(hB:B<=b):KeepN B W (W.setCell ⟨b,i,none⟩ x):=
 KeepN.box h ht hB (Nat.le_of_eq (World.size_setCell _ _ _).symm) (fun _ hk=>Below.heap_setCell _ _ _ _ hk)
theorem KeepN.grown {B b:Nat}{W W':World}{cs:Array Value}{t:TypeId}{fr:Nat×Nat}(hg:W.grownBy W' (some b))(h:W.heap[b]?=some (.cells cs t fr))(ht:¬gW t)(hB:B<=b):KeepN B W W':=
 ⟨KeepM.grown hg h ht,fun k h1 h2=>hg.block k h2 (fun e=>by have:=Option.some.inj e;omega)⟩
theorem KeepN.of_belX {B ob:Nat}{a b:World}{cs:Array Value}{t:TypeId}{fr:Nat×Nat}(hX:BelX a.heap.size [ob] a b)(ho:a.heap[ob]?=some (.cells cs t fr))(ht:¬gW t)(hB:B<=ob):KeepN B a b:=by
 refine⟨KeepM.of_belX hX (fun k hk=>?_),fun k h1 h2=>hX.block k h2 (fun hm=>?_)⟩
 ·rw[List.mem_singleton.1 hk];exact⟨_,ho,fun c t' fr' ht' e=>by cases e;exact ht ht'⟩
 have:=List.mem_singleton.1 hm;omega
theorem D7:¬gW 119:=fun h=>by rcases h with h | h | h | h | h | h<;>exact absurd h (by decide)
theorem Ey {B g:Nat}{s:RS}{wr w1:World}(hr:RfS B g s wr)(hg:wr.grownBy w1 (some g)):KeepN B wr w1:=by
 have hle:=hr.le;obtain⟨_,_,h⟩:=hr;exact KeepN.grown hg h.at_ D7 hle
theorem yt {M size n cap:Nat}{ys:List Nat}{ao:Option Addr}{xs:List Value}{a b:World}(h:Rd a size ao n cap xs)(hb:BelX M ys a b)(hlt:0<cap->∀x,ao=some x->x.block<M/\x.block∉ys):Rd b size ao n cap xs:=by
 obtain⟨h1,h2,h3,h4,h5⟩:=h;refine⟨h1,h2,h3,h4,fun h0 x hx=>?_⟩;obtain⟨s1,l,c⟩:=h5 h0 x hx;obtain⟨k1,k2⟩:=hlt h0 x hx;exact⟨s1,Nat.lt_of_lt_of_le l hb.size,fun j u hu=>(World.cell?_of_block (a:=⟨x.block,x.off+j,none⟩) (hb.block _ k1 k2)).trans (c j u hu)⟩
structure QTyB (B:Nat)(W:World)(v:QV)(c:QC):Prop where
 e:TyX 124 W v.eo v.ec
 a:∀p∈c.ents,TyX 106 W p.1.ao p.1.ac
 c:TyB B W v.co v.cc
theorem QTyB.kpn {B:Nat}{a b:World}{v:QV}{c:QC}(h:QTyB B a v c)(hk:KeepN B a b):QTyB B b v c:=⟨h.e.kpm wB hk.km,fun p hp=>(h.a p hp).kpr (.inr (.inr rfl)) hk.km.kr,TyB.kpb h.c hk.kb⟩
theorem QAt.kpn {B:Nat}{a b:World}{v:QV}{c:QC}(h:QAt a v c)(hy:QTyB B a v c)(hk:KeepN B a b):QAt b v c:=⟨h.e.kpm hy.e hy.a hk.km,jZ h.c hy.c hk.kb,h.lc⟩
theorem KC {w w':World}{y:List UInt8}{e:Ending}(h:uP (.bool true) (.bool false) y w e w'):∃(ok:Bool) (Y:EV) (x:List (ByteArray×ByteArray)),e=.returned (.tuple #[Y.val,.bool ok])/\EAt w' Y x/\TyX 106 w' Y.ao Y.ac/\Below w.heap.size w w'/\((ok=true/\au Y x=true/\eu Y x=y)\/(ok=false/\qU y)):=by
 obtain⟨hb,⟨Y,x,rfl,h1,h2,h3,h4⟩ | ⟨rfl,n1⟩⟩:=h
 ·exact⟨true,Y,x,rfl,h1,h2,hb,.inl ⟨rfl,h3,h4⟩⟩
 exact⟨false,zeroE,[],rfl,⟨Rd.nil _ _,Nat.zero_le _⟩,fun h=>absurd h (Nat.lt_irrefl 0),hb,.inr ⟨rfl,n1⟩⟩
structure RoLoop (ob:Nat)(w W9:World)(v:QV)(xs:List El)(k:Nat)(wr:World):Prop where
 bel:Below w.heap.size w wr
 X:BelX W9.heap.size [ob] W9 wr
 ex:∃l:List EP,l.length=k/\StE ob v W9.heap.size l wr/\kF l=elB (xs.take k)/\(∀p∈l,au p.1 p.2=true)
theorem EW {s s':RS}{L:List (List UInt8)}(T:Took (fun L=>val 3 (aP 1 L)) (fun L=>(aP 1 L).length<=4194304) (fun L=>(aP 1 L).length<=4194304) s L s'):Took (val 3) Ad (fun z=>z.length<=4194304) s (aP 1 L) s':=
 C9 (f:=aP 1) T (fun _=>rfl) (fun _ ⟨m,h1,_,_,h4⟩=>⟨kF m,by rw[kQ];exact h4,by rw[kQ];exact h1.symm⟩) (fun _ h=>h)
theorem zW (B:Nat)(b:List UInt8)(ao:Option Addr)(n cap:Nat)(w:World)(hr:Rd w 1 ao n cap (byV b))(hB:B<=w.heap.size)(hty:TyB B w ao cap)(hn:n<=100000000) :
  Calls Tryz.prog 93 #[.slice ao n cap] w (uS (QTyB B) (.bool true) (.bool false) b w):=by
 have hbn:b.length=n:=by have:=hr.1;rw[aS] at this;omega
 have hb0:Below w.heap.size w (w.alloc aA.box):=(Below.refl _ _).alloc (Nat.le_refl _) _;have k0:(w.alloc aA.box).heap[w.heap.size]?=some aA.box:=by show (w.heap.push _)[w.heap.size]?=some _;exact Array.getElem?_push_size
 have hz0:(w.alloc aA.box).heap.size=w.heap.size+1:=by simp
 have hr0:=hr.later hb0;have ht0:=hty.later hb0;unfold aA QV.box QV.cells at hb0 k0 hz0 hr0 ht0;dsimp only at hb0 k0 hz0 hr0 ht0;clear hr hty;go_in;go_upto_region 1 with fail;generalize hg:w.alloc _=W0 at *;have k0f:W0.heap[w.heap.size]?=some aA.box:=k0;clear hg k0;subst hbn;have hBW0:B<=W0.heap.size:=Nat.le_trans hB hb0.size;have hR:=wP hr0 hBW0 ht0;have hbR:Below W0.heap.size W0 (W0.alloc (.cells #[.slice ao b.length cap,.bool false] 119)):=(Below.refl _ _).alloc (Nat.le_refl _) _;go_upto_region 2 with fail;generalize hg:W0.alloc _=W1 at *;have hz1:W1.heap.size=W0.heap.size+1:=by rw[<-hg];simp
 clear hg;go_upto_region 3 with (refine zNr rfl ?_;go_simp);generalize hg:W1.alloc _=W2;have e2:W1.alloc aA.box=W2:=hg;have hb2:Below W1.heap.size W1 W2:=by rw[<-e2];exact (Below.refl _ _).alloc (Nat.le_refl _) _
 have kb:W2.heap[W1.heap.size]?=some aA.box:=by rw[<-e2];show (W1.heap.push _)[W1.heap.size]?=some _;exact Array.getElem?_push_size
 have hR2:=hR.later hb2;have hbel2:Below W0.heap.size W0 W2:=hbR.trans (hb2.mono (by omega));clear hg e2 hb2 hR hbR hr0 ht0;rw[hz0] at hR2;rw[hz1,hz0] at kb;clear hz1;have T1:=jr (jH ⟨b,false⟩ 1 (by decide)) (may':=fun n=>n<=14) (good':=fun n=>n<18446744073709551616) (fun _ _=>by omega) (fun _ h=>h);generalize hgq:w.heap.size+1=g at *;generalize hobq:g+1=ob at *;have hg0:W0.heap.size<=g:=by omega
 have hob:W0.heap.size<=ob:=by omega
 have hgo:g≠ob:=by omega
 have hgob:g<ob:=by omega
 have hrw:w.heap.size<W0.heap.size:=by omega
 clear hgq hobq;have hBo:B<=ob:=Nat.le_trans hBW0 hob;have hnum:=uF B g ⟨b,false⟩ 1 W2 hR2 (by dsimp only;omega);generalize RS.num ⟨b,false⟩ 1=nm at *;obtain⟨n1,s1⟩:=nm;dsimp only at T1 hnum;have l1:=T1.le;dsimp only at l1;have HT1:=hid T1;clear T1;go_wp2_with fail;refine hnum.mono ?_;rintro e W3 ⟨rfl,hR3,hg3⟩;have hb3:Below W0.heap.size W0 W3:=hbel2.trans (below_of_grown hg3 hg0 hR2.lt);have q3:W3.heap[ob]?=some aA.box:=(hg3.block _ (Array.getElem?_eq_some_iff.1 kb).1 (fun e=>hgo (Option.some.inj e).symm)).trans kb;clear hnum hbel2 kb hR2 hg3;have T2:=sO s1 2 (by decide);have hflag:=EK B g s1 2 W3 hR3 (by omega);generalize RS.flag s1 2=fm at *;obtain⟨y2,s2⟩:=fm;dsimp only at T2 hflag;have l2:=T2.le;have HT2:=hid T2;clear T2;go_wp2_with fail;refine hflag.mono ?_;rintro e W4 ⟨rfl,hR4,hg4⟩;have hb4:Below W0.heap.size W0 W4:=hb3.trans (below_of_grown hg4 hg0 hR3.lt);have q4:W4.heap[ob]?=some aA.box:=(hg4.block _ (Array.getElem?_eq_some_iff.1 q3).1 (fun e=>hgo (Option.some.inj e).symm)).trans q3;clear hflag hb3 q3 hR3 hg4;obtain⟨d0,d1,d2,d3,d4⟩:=aj q4;unfold aA at d0 d1 d2 d3;dsimp only at d0 d1 d2 d3;go_upto_region 5 with fail;have q5:(W4.setCell ⟨ob,1,none⟩ (.bool y2)).heap[ob]?=some (QV.box ⟨0,y2,none,0,0,none,0,0⟩):=(at_set q4).trans (by kernel_rfl);have hR5:RfS B g s2 (W4.setCell ⟨ob,1,none⟩ (.bool y2)):=hR4.grown (ai _ _ _ _) q4 (fun c fr h=>by cases h) hgo hBo;have hb5:=hb4.setCell (p:=⟨ob,1,none⟩) hob (.bool y2);generalize W4.setCell _ _=W5 at *;clear d0 d1 d2 d3 d4 q4 hR4 hb4;have z5:ob<W5.heap.size:=(Array.getElem?_eq_some_iff.1 q5).1;go_wp2_with fail;refine (xu B g s2 3 1 W5 (by decide) (by decide) hR5 (by omega)).mono ?_;rintro e W6 ⟨a6,c6,xs,s3,rfl,hrd6,hall6,hfr6,hln6,hsm6,hR6,hg6,T3L⟩;have hb6:Below W0.heap.size W0 W6:=hb5.trans (below_of_grown hg6 hg0 hR5.lt);have q6:W6.heap[ob]?=some (QV.box ⟨0,y2,none,0,0,none,0,0⟩):=(hg6.block _ (Array.getElem?_eq_some_iff.1 q5).1 (fun e=>hgo (Option.some.inj e).symm)).trans q5;have T3:=EW T3L;have l3:=T3.le;have HT3:=hid T3;have HT3L:=hid T3L;have hne6:∀a,a6=some a->g<a.block/\a.block≠ob:=fun a ha=>by have:=hfr6 a ha;omega
 clear T3 T3L q5 hb5 hR5 hg6 hfr6 z5;have T4:=bI s3 4 (by decide);have hl4:=iM s3 4;have hby:=jS B g s3 4 W6 hR6 (by omega);unfold iU at hby;generalize RS.bytes s3 4=y at *;obtain⟨cur,s4⟩:=y;dsimp only at T4 hby hl4;have HT4:=hid T4;clear T4;go_wp2_with fail;refine hby.mono ?_;rintro e W7 ⟨hR7,hg7,a7,c7,rfl,hrd7,hty7⟩;have hb7:Below W0.heap.size W0 W7:=hb6.trans (below_of_grown hg7 hg0 hR6.lt);have q7:W7.heap[ob]?=some (QV.box ⟨0,y2,none,0,0,none,0,0⟩):=(hg7.block _ (Array.getElem?_eq_some_iff.1 q6).1 (fun e=>hgo (Option.some.inj e).symm)).trans q6;have hrl7:Rd W7 1 a6 xs.length c6 (lsV xs):=eU hrd6 hg7 (fun _ a ha e=>by have:=(hne6 a ha).1;have:=Option.some.inj e;omega);have hal7:allIn B W7 xs W7:=fun x hx=>⟨jZ (hall6 x hx).1 (hall6 x hx).2 (Ey hR6 hg7).kb,TyB.kpb (hall6 x hx).2 (Ey hR6 hg7).kb⟩
 clear hby q6 hb6 hR6 hg7 hrd6 hall6;obtain⟨d0,d1,d2,d3,d4⟩:=aj q7;dsimp only at d0 d1 d2 d3;go_upto_region 7 with fail;have q8:(W7.setCell ⟨ob,3,none⟩ (.slice a7 cur.length c7)).heap[ob]?=some (QV.box ⟨0,y2,none,0,0,a7,cur.length,c7⟩):=(at_set q7).trans (by kernel_rfl);have hR8:RfS B g s4 (W7.setCell ⟨ob,3,none⟩ (.slice a7 cur.length c7)):=hR7.grown (ai _ _ _ _) q7 (fun c fr h=>by cases h) hgo hBo;have hb8:=hb7.setCell (p:=⟨ob,3,none⟩) hob (.slice a7 cur.length c7);have hk8:KeepN B W7 (W7.setCell ⟨ob,3,none⟩ (.slice a7 cur.length c7)):=KeepN.set q7 iW hBo;have hrl8:Rd (W7.setCell ⟨ob,3,none⟩ (.slice a7 cur.length c7)) 1 a6 xs.length c6 (lsV xs):=eU hrl7 (ai _ _ _ _) (fun _ a ha e=>(hne6 a ha).2 (Option.some.inj e));have hal8:allIn B (W7.setCell ⟨ob,3,none⟩ (.slice a7 cur.length c7)) xs (W7.setCell ⟨ob,3,none⟩ (.slice a7 cur.length c7)):=fun x hx=>⟨jZ (hal7 x hx).1 (hal7 x hx).2 hk8.kb,TyB.kpb (hal7 x hx).2 hk8.kb⟩
 have hrd8:=jZ hrd7 hty7 hk8.kb;have hty8:=TyB.kpb hty7 hk8.kb;generalize W7.setCell _ _=W8 at *;clear d0 d1 d2 d3 d4 q7 hR7 hb7 hrl7 hal7 hk8 hrd7 hty7;have hrz:W8.heap[w.heap.size]?=some aA.box:=(hb8.block _ (by omega)).trans k0f;have hbel:=hb0.trans (hb8.mono (by omega));have f1:(W8.setRow w.heap.size aA.cells).heap[w.heap.size]?=some (.cells aA.cells 39):=aT hrz;have f2:=below_setRow hbel (Nat.le_refl _) aA.cells;go_wp2_with fail;refine (qM B g s4 W8 hR8).mono ?_;rintro e w9 ⟨rfl,rfl⟩;by_cases he:s4.bad=false/\s4.l=[]
 case neg=>
  have f0:decide (s4.bad=false/\s4.l=[])=false:=decide_eq_false he;have hno:=hid (nR HT1.out HT2.out HT3.out HT4.out (.inl (by
   cases hb:s4.bad with
   | true=>exact .inl rfl
   | false=>exact .inr (List.length_pos_iff.2 (fun h=>he ⟨hb,h⟩)))))
  clear he;go_wp2_with (refine zSr rfl hrz ?_;go_simp);exact bodyPost_ret (w:=W8.setRow w.heap.size aA.cells) (aI (i:=2) (j:=3) (t:=39) rfl rfl rfl (by kernel_rfl) (by kernel_rfl) f1) rfl ⟨f2,.inr ⟨rfl,hno.out⟩⟩
 have f0:decide (s4.bad=false/\s4.l=[])=true:=decide_eq_true he;by_cases h14:14<n1
 case pos=>
  have f3:decide ((14:Int)<(n1:Int))=true:=decide_eq_true (by omega);have hno:=hid (nR HT1.out HT2.out HT3.out HT4.out (.inr (fun W v c ho hm g1 _ _ _=>by
   have F:=FitQ.of ho hm;have:=F.c14;omega)))
  clear he h14;go_wp2_with (refine zSr rfl hrz ?_;go_simp);exact bodyPost_ret (w:=W8.setRow w.heap.size aA.cells) (aI (i:=2) (j:=3) (t:=39) rfl rfl rfl (by kernel_rfl) (by kernel_rfl) f1) rfl ⟨f2,.inr ⟨rfl,hno.out⟩⟩
 have f3:decide ((14:Int)<(n1:Int))=false:=decide_eq_false (by omega);have HE:=hid he;have H14:=hid h14;have hw1:IntKind.i64.wrap (n1:Int)=(n1:Int):=gB _ (by omega) (by omega);have hs3:s3.bad=false:=(HT4.out.yes he.1).1;have hsh:(aP 1 (elB xs)).length<=4194304:=(HT3L.out.yes hs3).2.2;have HSh:=hid hsh;have hdone:=Cb HT1.out HT2.out HT3.out HT4.out he.1 he.2;have HD:=hid hdone.1;have HN:=hid (fun h=>nR HT1.out HT2.out HT3.out HT4.out (Or.inr h));clear he h14 hs3 hsh hdone f1 f2 HT1 HT2 HT3 HT3L HT4 hsm6 hR8;obtain⟨d0,d1,d2,d3,d4⟩:=aj q8;dsimp only at d0 d1 d2 d3;go_upto_region 10 with fail;have q9:(W8.setCell ⟨ob,0,none⟩ (.int .i64 (n1:Int))).heap[ob]?=some (QV.box ⟨(n1:Int),y2,none,0,0,a7,cur.length,c7⟩):=(at_set q8).trans (by kernel_rfl);have hb9:=hb8.setCell (p:=⟨ob,0,none⟩) hob (.int .i64 (n1:Int));have hk9:KeepN B W8 (W8.setCell ⟨ob,0,none⟩ (.int .i64 (n1:Int))):=KeepN.set q8 iW hBo;have hrl9:Rd (W8.setCell ⟨ob,0,none⟩ (.int .i64 (n1:Int))) 1 a6 xs.length c6 (lsV xs):=eU hrl8 (ai _ _ _ _) (fun _ a ha e=>(hne6 a ha).2 (Option.some.inj e));have hal9:allIn B (W8.setCell ⟨ob,0,none⟩ (.int .i64 (n1:Int))) xs (W8.setCell ⟨ob,0,none⟩ (.int .i64 (n1:Int))):=fun x hx=>⟨jZ (hal8 x hx).1 (hal8 x hx).2 hk9.kb,TyB.kpb (hal8 x hx).2 hk9.kb⟩
 have hrd9:=jZ hrd8 hty8 hk9.kb;have hty9:=TyB.kpb hty8 hk9.kb;generalize W8.setCell _ _=W9 at *;clear d0 d1 d2 d3 d4 q8 hb8 hrl8 hal8 hk9 hrd8 hty8 hw1 hrz hbel;obtain⟨V,hV⟩:∃V:QV,V=⟨(n1:Int),y2,none,0,0,a7,cur.length,c7⟩:=⟨_,rfl⟩
 have hV0:V.ents none 0 0=V:=by rw[hV];rfl
 rw[<-hV,<-hV0] at q9;have HV:=hid hV;clear hV hV0;have hst0:StE ob V W9.heap.size [] W9:=⟨⟨none,0,q9,World.ownsRow_nil _ _ _ _⟩,fun p hp=>by cases hp⟩
 have hbel9:=hb0.trans (hb9.mono (show w.heap.size<=W0.heap.size by omega));have zo9:ob<W9.heap.size:=(Array.getElem?_eq_some_iff.1 q9).1;go_wp2_with fail;go_loopw [8] (fun p wr=>∃k:Nat,k<=xs.length/\p=.int .i64 (k:Int)/\RoLoop ob w W9 V xs k wr) (fun p _=>xs.length-(intOf p).toNat)
 case atStart=>exact⟨0,Nat.zero_le _,rfl,hbel9,BelX.refl _ _ _,[],rfl,hst0,rfl,fun p hp=>by cases hp⟩
 case round=>
  obtain⟨k,hk,rfl,hL⟩:=hrel;obtain⟨l,hlk,⟨⟨a,kc,ho,hown⟩,hE⟩,hel,hml⟩:=hL.ex;have hX:=hL.X;have hbelr:=hL.bel;have Hel:=hid hel;have Hml:=hid hml;subst hlk;clear hL hel hml hst0;have hkn9:KeepN B W9 wr:=KeepN.of_belX hX q9 iW hBo;have hrz:wr.heap[w.heap.size]?=some aA.box:=(hX.at_ ((hb9.block _ (by omega)).trans k0f) (by omega) (by simp;omega))
  have hrlr:Rd wr 1 a6 xs.length c6 (lsV xs):=yt hrl9 hX (fun h0 x hx=>⟨hrl9.lt h0 x hx,by simpa using (hne6 x hx).2⟩);by_cases hkn:l.length<xs.length
  ·obtain⟨b1,o1,hao,hl1,hc1⟩:=hrlr.some (by have:=hrlr.le;omega);obtain⟨u,hue⟩:∃u,xs[l.length]?=some u:=⟨_,List.getElem?_eq_getElem hkn⟩
   have hum:=List.mem_of_getElem? hue;have c1:=hc1 _ _ (wX xs l.length u hue);have c2:wr.cell? ⟨b1,o1+l.length*1,none⟩=some (.slice u.ao u.it.2.length u.cap):=by rw[Nat.mul_one];exact c1
   have hru:=jZ (hal9 u hum).1 (hal9 u hum).2 hkn9.kb;have htu:=TyB.kpb (hal9 u hum).2 hkn9.kb;have hul:u.it.2.length<=4194304:=by have:=F6 hum;have:=HSh.out;omega
   have HU:=hid hue;have i0:(0:Int)<=(l.length:Int):=by omega
   have i1:(l.length:Int)<(xs.length:Int):=by omega
   have hBr:B<=wr.heap.size:=Nat.le_trans hB hbelr.size;subst hao;clear hc1 hue hum;go_wp2_with fail;refine (FT B u.it.2 u.ao _ u.cap wr hru hBr htu (by omega)).mono ?_;rintro e W1 hO;obtain⟨ok,Y,xY,rfl,eY,tY,hb1,hans⟩:=KC hO;have HA:=hid hans;clear hO hans hru htu c1 c2;unfold EV.val EV.cells;go_upto_region 14 with (refine zNr rfl ?_;go_simp);generalize hg:W1.alloc _=W3;have e3:W1.alloc Y.box=W3:=hg;have hb3':Below W1.heap.size W1 W3:=by rw[<-e3];exact (Below.refl _ _).alloc (Nat.le_refl _) _
   have hb3:=hb1.trans (hb3'.mono hb1.size);have q3:W3.heap[W1.heap.size]?=some Y.box:=by rw[<-e3];show (W1.heap.push _)[W1.heap.size]?=some _;exact Array.getElem?_push_size
   have hzr:=hX.size;have ho3:=(hb3.block _ (by omega)).trans ho;have own3:=aF hown hb3;have hE3:=(hE.kpr (KeepR.of_below hb3)).snoc (p:=(Y,xY)) (eY.later hb3') (tY.kpr (.inr (.inr rfl)) (KeepR.of_below hb3'));have X3:BelX W9.heap.size [ob] W9 W3:=hX.trans ((BelX.of_below hb3 [ob]).mono (by omega) (fun _ hk _=>hk));have bel3:=hbelr.trans (hb3.mono hbelr.size);have z3:W9.heap.size<=W3.heap.size:=Nat.le_trans hzr hb3.size;have hrz3:=(hb3.block _ (by omega)).trans hrz;clear hg e3 hb3' hb3 hb1 ho hown hE eY tY hX hbelr hrz hrlr hl1;generalize W1.heap.size=yb at *;rcases HA.out with ⟨rfl,mY,lY⟩ | ⟨rfl,nY⟩
   ·have HM:=hid (And.intro mY lY);clear mY lY;obtain⟨c0,c1,c2,c3,c4⟩:=aj ho3;dsimp only[QV.ents] at c0 c1 c2 c3;obtain⟨g0,g1,-⟩:=dF q3;go_wp2_with (at_builtin;refine fD _ rfl (.tmp 56) (.tmp 58) 37 rfl W9.heap.size 124 zeroE.val 2 40 ru (by decide) (.slice a l.length kc) l.length (enV l) rfl own3 1 [.string Y.name,.slice Y.ao Y.an Y.ac] rfl rfl (fun x hx=>by simp at hx;rcases hx with rfl|rfl<;>rfl) z3 (by omega) ?_;intro a4 k4 W4 own4 hg4 hb4 _;have ho4:W4.heap[ob]?=some (V.ents a l.length kc).box:=(hb4.block _ zo9).trans ho3;obtain⟨d0,d1,d2,d3,d4⟩:=aj ho4;dsimp only[QV.ents] at d0 d1 d2 d3);have hba:Below W3.heap.size W3 (W3.alloc (.cells #[.string Y.name,.slice Y.ao Y.an Y.ac] 124)):=(Below.refl _ _).alloc (Nat.le_refl _) _;have owna:=aF own3 hba;have hE4:=hE3.kpr ((KeepR.of_below hba).trans (uT hg4 owna (fun t ht e=>by rcases ht with rfl|rfl|rfl<;>exact absurd e (by decide))));have X4:BelX W9.heap.size [ob] W9 W4:=X3.trans (BelX.of_below hb4 [ob]);have ho5:(W4.setCell ⟨ob,2,none⟩ (.slice a4 (l.length+1) k4)).heap[ob]?=some (V.ents a4 (l.length+1) k4).box:=(at_set ho4).trans (by kernel_rfl);have hE5:=hE4.kpr (qg (i:=2) (x:=.slice a4 (l.length+1) k4) ho4 (fun t ht e=>by rcases ht with rfl|rfl|rfl<;>exact absurd e (by decide)));have X5:BelX W9.heap.size [ob] W9 (W4.setCell ⟨ob,2,none⟩ (.slice a4 (l.length+1) k4)):=X4.set _ _ _ (.inl (by simp));have own5:(W4.setCell ⟨ob,2,none⟩ (.slice a4 (l.length+1) k4)).ownsRow W9.heap.size 124 2 (.slice a4 (l.length+1) k4) (l.length+1) (enV (l++[(Y,xY)])):=by
     rw[wG];exact dO own4 (fun k hk=>Below.heap_setCell _ _ _ _ (by have:=(bz own4 hk).1;show k≠ob;omega))
    have bel5:Below w.heap.size w (W4.setCell ⟨ob,2,none⟩ (.slice a4 (l.length+1) k4)):=(bel3.trans (hb4.mono (by have:=hbel9.size;omega))).setCell (p:=⟨ob,2,none⟩) (show w.heap.size<=ob by omega) _;have eln:(l++[(Y,xY)]).length=l.length+1:=by simp
    have hst5:StE ob V W9.heap.size (l++[(Y,xY)]) (W4.setCell ⟨ob,2,none⟩ (.slice a4 (l.length+1) k4)):=⟨⟨a4,k4,by rw[eln];exact ho5,by rw[eln];exact own5⟩,hE5⟩
    have HEL:=hid eln;clear hba owna hE4 X4 ho4 hE3 X3 ho3 own3 own4 hg4 c0 c1 c2 c3 c4 d0 d1 d2 d3 d4 q3 z3 g0 g1 hE5 own5 ho5 eln hb4;go_roundw
    case rel=>
     refine⟨l.length+1,by omega,by go_num,bel5,X5,l++[(Y,xY)],HEL.out,hst5,?_,fun p hp=>?_⟩
     ·rw[List.take_add_one,HU.out];simp only[Option.toList_some];rw[BD,<-Hel.out,<-HM.out.2];simp[kF]
     rcases List.mem_append.1 hp with hp | hp
     ·exact Hml.out p hp
     rw[List.mem_singleton] at hp;subst hp;exact HM.out.1
    case measure=>simp[intOf];omega
   have hno:=hid (HN.out (fun W v c ho hm _ _ g3 _=>by
    have F:=FitQ.of ho hm;rw[<-kQ] at g3;have hL:=zk (by decide) (by rw[kQ];exact F.len) g3;have h1:(kF c.ents)[l.length]?=some u.it.2:=by rw[hL];simp[HU.out]
    simp only[kF,List.getElem?_map,Option.map_eq_some_iff] at h1;obtain⟨p,hp,h1⟩:=h1;exact nY p.1 p.2 (F.all p (List.mem_of_getElem? hp)) h1))
   have f1:(W3.setRow w.heap.size aA.cells).heap[w.heap.size]?=some (.cells aA.cells 39):=aT hrz3;have f2:=below_setRow bel3 (Nat.le_refl _) aA.cells;clear nY;go_wp2_with (refine zSr rfl hrz3 ?_;go_simp);exact bodyPost_ret (w:=W3.setRow w.heap.size aA.cells) (aI (i:=2) (j:=3) (t:=39) rfl rfl rfl (by kernel_rfl) (by kernel_rfl) f1) rfl ⟨f2,.inr ⟨rfl,hno.out⟩⟩
  have hke:l.length=xs.length:=by omega
  have htake:kF l=elB xs:=by rw[Hel.out,hke,List.take_of_length_le (Nat.le_refl _)]
  have hents:dm l=aP 1 (elB xs):=by rw[<-kQ,htake]
  have hsh:(dm l).length<=4194304:=by rw[hents];exact HSh.out
  have HEn:=hid hents;have hll:l.length<=100000000:=by omega
  have HK:=hid hke;have hob2:∀W:World,W.heap[ob]?=some (V.ents a l.length kc).box->W.heap[ob]?=some (QV.box ⟨(n1:Int),y2,a,l.length,kc,a7,cur.length,c7⟩):=fun W h=>by rw[HV.out] at h;exact h
  have qr:=hob2 wr ho;have hty:QTyB B wr ⟨(n1:Int),y2,a,l.length,kc,a7,cur.length,c7⟩ ⟨l,cur⟩:=⟨TyX.of_own hown,fun p hp=>(hE p hp).2,TyB.kpb hty9 hkn9.kb⟩
  have hQ:QAt wr ⟨(n1:Int),y2,a,l.length,kc,a7,cur.length,c7⟩ ⟨l,cur⟩:=⟨⟨Rd.of_own_slice hown,fun p hp=>(hE p hp).1⟩,jZ hrd9 hty9 hkn9.kb,by dsimp only;omega⟩
  have HR:Hid (dG ⟨(n1:Int),y2,a,l.length,kc,a7,cur.length,c7⟩ ⟨l,cur⟩=b):=hid (by rw[HD.out];unfold dG;dsimp only;rw[hents];rfl);have HNo:Hid (bf ⟨(n1:Int),y2,a,l.length,kc,a7,cur.length,c7⟩ ⟨l,cur⟩=false->rC b):=hid (fun hf=>HN.out (fun W v c ho hm g1 g2 g3 g4=>by
   have F:=FitQ.of ho hm;have:=vW ho hQ (rG g1 g2 (qO _ _ F.all Hml.out (by rw[g3];exact hents.symm)) g4);rw[hm,hf] at this;cases this))
  have hrb:=rZ ⟨(n1:Int),y2,a,l.length,kc,a7,cur.length,c7⟩ ⟨l,cur⟩ wr hQ (fun _=>hsh);unfold QV.val QV.cells at hrb;clear hke htake hents hsh hob2 ho hown hE hrlr hX HEn;go_wp2_with (refine wpList_load_row (ty:=39) qr rfl rfl rfl (by kernel_rfl) (by kernel_rfl) ?_;go_simp);refine hrb.mono ?_;rintro e W1 ⟨lx,ax,cx,ok,rfl,-,hb1,hx1,hx2⟩;have hrz1:=(hb1.block _ (Array.getElem?_eq_some_iff.1 hrz).1).trans hrz;have q1:=(hb1.block _ (Array.getElem?_eq_some_iff.1 qr).1).trans qr;have bel1:=hbelr.trans (hb1.mono hbelr.size);have hQ1:=hQ.later hb1;have hty1:=hty.kpn (KeepN.of_below hb1);have HX1:=hid hx1;have HX2:=hid hx2;clear hrb hQ hty hrz qr hbelr hb1 hx1 hx2;cases hm:bf ⟨(n1:Int),y2,a,l.length,kc,a7,cur.length,c7⟩ ⟨l,cur⟩ with
  | false=>
   have hno:=HNo.out hm;obtain⟨rfl,-⟩:=HX2.out hm;have f1:(W1.setRow w.heap.size aA.cells).heap[w.heap.size]?=some (.cells aA.cells 39):=aT hrz1;have f2:=below_setRow bel1 (Nat.le_refl _) aA.cells;clear hm;go_wp2_with (refine zSr rfl hrz1 ?_;go_simp);exact bodyPost_ret (w:=W1.setRow w.heap.size aA.cells) (aI (i:=2) (j:=3) (t:=39) rfl rfl rfl (by kernel_rfl) (by kernel_rfl) f1) rfl ⟨f2,.inr ⟨rfl,hno⟩⟩
  | true=>
   obtain⟨-,rfl⟩:=HX1.out hm;have HM:=hid hm;have f1:(W1.setRow w.heap.size (QV.cells ⟨(n1:Int),y2,a,l.length,kc,a7,cur.length,c7⟩)).heap[w.heap.size]?=some (.cells (QV.cells ⟨(n1:Int),y2,a,l.length,kc,a7,cur.length,c7⟩) 39):=aT hrz1;have f2:=below_setRow bel1 (Nat.le_refl _) (QV.cells ⟨(n1:Int),y2,a,l.length,kc,a7,cur.length,c7⟩);have hK:=KeepN.box (B:=B) (b:=W1.setRow w.heap.size (QV.cells ⟨(n1:Int),y2,a,l.length,kc,a7,cur.length,c7⟩)) hrz1 iW hB (below_setRow (Below.refl w.heap.size W1) (Nat.le_refl _) (QV.cells ⟨(n1:Int),y2,a,l.length,kc,a7,cur.length,c7⟩)).size (fun k hk=>setRow_other W1 w.heap.size k (QV.cells ⟨(n1:Int),y2,a,l.length,kc,a7,cur.length,c7⟩) hk);have hQF:=hQ1.kpn hty1 hK;have hTF:=hty1.kpn hK;clear hm;go_wp2_with (first | (refine wpList_load_row (ty:=39) q1 rfl rfl rfl (by kernel_rfl) (by kernel_rfl) ?_;go_simp) | (refine zSr rfl hrz1 ?_;go_simp));exact bodyPost_ret (w:=W1.setRow w.heap.size (QV.cells ⟨(n1:Int),y2,a,l.length,kc,a7,cur.length,c7⟩)) (aI (i:=2) (j:=3) (t:=39) rfl rfl rfl (by kernel_rfl) (by kernel_rfl) f1) rfl ⟨f2,.inl ⟨_,⟨l,cur⟩,rfl,hQF,hTF,HM.out,HR.out⟩⟩
end Go.Proofs.YtfmmandlmbcncaaGreatDoor.Msg
