/-
  A part of the proof.
-/
import Derived.Test.YtfmmandlmbcncaaGreatDoorKcbn
set_option maxHeartbeats 40000000
set_option maxRecDepth 100000
namespace Go.Proofs.YtfmmandlmbcncaaGreatDoor.Msg
open Go.RowKit Go.Lib Mem Tlv
theorem I4 (l m:List Nat):cu (l++m)=cu l++cu m:=by simp[cu]
theorem vT:∀(l l':List Nat) (r:List UInt8),(∀n∈l,n<18446744073709551616)->(∀n∈l',n<18446744073709551616)->cu l'=cu l++r->∃m:List Nat,(∀n∈m,n<18446744073709551616)/\r=cu m
 | [],l',r,_,hl',h=>⟨l',hl',by rw[h];rfl⟩
 | n::l,[],r,_,_,h=>by
  have:=congrArg List.length h;rw[iL,List.length_append,List.length_append,af] at this;simp[cu] at this;omega
 | n::l,n'::l',r,hl,hl',h=>by
  rw[iL,iL,List.append_assoc] at h;obtain⟨-,h2⟩:=ay (by decide) (by rw[ah];omega) (by rw[ah];omega) h;exact vT l l' r (fun k hk=>hl k (by simp[hk])) (fun k hk=>hl' k (by simp[hk])) h2
structure SnR (y:List UInt8)(l:List Nat)(q:RS):Prop where
 u:∀n∈l,n<18446744073709551616
 yes:q.bad=false->y=cu l++q.l
 no:q.bad=true->∀l':List Nat,(∀n∈l',n<18446744073709551616)->cu l'≠y
 le:q.l.length<=y.length
 len:13*l.length<=y.length+13
theorem SnR.next {y:List UInt8}{l:List Nat}{q q':RS}{n:Nat}(h:SnR y l q)(T:Took (fun n:Nat=>val 1 (aA n)) (fun n=>n<18446744073709551616) (fun n=>n<18446744073709551616) q n q')(hn:n<18446744073709551616)(hb:q.bad=false)(h0:0<q.l.length):SnR y (l++[n]) q' where
 u:=fun k hk=>by
  rcases List.mem_append.1 hk with hk | hk
  ·exact h.u k hk
  rw[List.mem_singleton] at hk;rw[hk];exact hn
 yes:=fun hq=>by
  obtain⟨-,e,-⟩:=T.yes hq;rw[I4,h.yes hb,e,List.append_assoc];simp[cu]
 no:=fun hq l' hl' e=>by
  rw[h.yes hb] at e;obtain⟨m,hm,em⟩:=vT l l' q.l h.u hl' e;cases m with
  | nil=>rw[em] at h0;simp[cu] at h0
  | cons k m=>
   rcases T.no hq with h1 | h1
   ·rw[hb] at h1;cases h1
   exact h1 k (cu m) (hm k (by simp)) (by rw[em,iL])
 le:=Nat.le_trans T.le h.le
 len:=by
  have h2:=congrArg List.length (h.yes hb);rw[List.length_append,jB] at h2;rw[List.length_append,List.length_singleton];omega
theorem Om:SliceT Tryz.prog 57 22 (.int .u64 0) 1 8:=⟨Tryz.underlying57,by kernel_rfl,rfl,by decide⟩
structure SnL (B M ob sb:Nat)(o:MV)(W1:World)(y:List UInt8)(l:List Nat)(a:Option Addr)(kc:Nat)(q:RS)(W:World):Prop where
 X:BelX M [ob,sb] W1 W
 R:SnR y l q
 qo:W.heap[ob]?=some (gz { o with ho:=a,hn:=l.length,hc:=kc }).box
 own:W.ownsRow M 22 1 (.slice a l.length kc) l.length (iT l)
 rf:RfS B sb q W
 hM:ob<M/\sb<M/\M<=W.heap.size/\B<=M/\sb≠ob/\B<=ob
section
variable {B M ob sb:Nat} {o:MV} {W1:World} {y:List UInt8} {l:List Nat} {a:Option Addr} {kc:Nat} {q:RS} {W W':World}
theorem SnL.later (h:SnL B M ob sb o W1 y l a kc q W)(hb:Below W.heap.size W W'):SnL B M ob sb o W1 y l a kc q W':=
 ⟨h.X.trans ((BelX.of_below hb [ob,sb]).mono h.hM.2.2.1 (fun _ hk _=>hk)),h.R,ae h.qo hb,ag h.own hb,h.rf.later hb,h.hM.1,h.hM.2.1,Nat.le_trans h.hM.2.2.1 hb.size,h.hM.2.2.2⟩
structure SnN (B M ob sb:Nat)(o:MV)(W1:World)(l:List Nat)(a:Option Addr)(kc:Nat)(q:RS)(W:World):Prop where
 X:BelX M [ob,sb] W1 W
 qo:W.heap[ob]?=some (gz { o with ho:=a,hn:=l.length,hc:=kc }).box
 own:W.ownsRow M 22 1 (.slice a l.length kc) l.length (iT l)
 rf:RfS B sb q W
 hM:ob<M/\sb<M/\M<=W.heap.size/\B<=M/\sb≠ob/\B<=ob
theorem SnN.later (h:SnN B M ob sb o W1 l a kc q W)(hb:Below W.heap.size W W'):SnN B M ob sb o W1 l a kc q W':=
 ⟨h.X.trans ((BelX.of_below hb [ob,sb]).mono h.hM.2.2.1 (fun _ hk _=>hk)),ae h.qo hb,ag h.own hb,h.rf.later hb,h.hM.1,h.hM.2.1,Nat.le_trans h.hM.2.2.1 hb.size,h.hM.2.2.2⟩
theorem SnL.num {q':RS}(h:SnL B M ob sb o W1 y l a kc q W)(hg:W.grownBy W' (some sb))(hr:RfS B sb q' W'):SnN B M ob sb o W1 l a kc q' W':=by
 obtain⟨m1,m2,m3,m4,m5,m6⟩:=h.hM;have hX:BelX W.heap.size [sb] W W':=BelX.of_grown hg;exact⟨h.X.trans (hX.mono m3 (fun k hk _=>by simp only[List.mem_singleton] at hk;simp[hk])),hX.at_ h.qo (by omega) (by simpa using fun e=>m5 e.symm),dE h.own (fun k hk=>by
  have h1:=aY h.own hk;exact hX.block k h1.2.1 (by simp only[List.mem_singleton];omega)),hr,m1,m2,Nat.le_trans m3 hX.size,m4,m5,m6⟩
theorem SnN.c26 (h:SnN B M ob sb o W1 l a kc q W):W.cell? ⟨ob,26,none⟩=some (.slice a l.length kc):=(McAt.of h.qo).c26
theorem SnN.app {a4:Option Addr}{k4 n:Nat}(h:SnN B M ob sb o W1 l a kc q W)(h4:W'.ownsRow M 22 1 (.slice a4 (l.length+1) k4) (l.length+1) (iT l++[.int .u64 (n:Int)]))(hg:W.grownBy W' (Value.slice a l.length kc).ownBlock)(hb:Below M W W')(R:SnR y (l++[n]) q) :
  W'.cell? ⟨ob,26,none⟩=some (.slice a l.length kc)/\W'.frozen? ⟨ob,26,none⟩=false/\SnL B M ob sb o W1 y (l++[n]) a4 k4 q (W'.setCell ⟨ob,26,none⟩ (.slice a4 (l.length+1) k4)):=by
 obtain⟨m1,m2,m3,m4,m5,m6⟩:=h.hM;have q1:=(hb.block _ m1).trans h.qo;have rf1:RfS B sb q W':=RfS.grownRow h.rf hg (fun k hk=>by
  obtain⟨k1,k2,cur,k3⟩:=aY h.own hk;exact⟨by omega,by omega,cur,_,_,k3,by decide⟩)
 have eln:(l++[n]).length=l.length+1:=by simp
 have e8:iT (l++[n])=iT l++[.int .u64 (n:Int)]:=by simp[iT]
 refine⟨(McAt.of q1).c26,bV q1 26,(h.X.trans (BelX.of_below hb [ob,sb])).set _ _ _ (.inl (by simp)),R,by rw[eln];exact (at_set q1).trans (by kernel_rfl),?_,rf1.grown (ak _ _ _ _) q1 (TkM.not_u8 bD) m5 m6,m1,m2,by rw[World.size_setCell];exact Nat.le_trans m3 hg.size,m4,m5,m6⟩;rw[eln,e8];exact dE h4 (fun k hk=>Below.heap_setCell _ _ _ _ (by have:=(aY h4 hk).1;show k≠ob;omega))
end
theorem LV:wJ (.int .u8 16) 101 (fun o=>o.ho=none/\o.hn=0/\o.hc=0):=by
 intro K J Q' B g ob nb rb w T l8 tc o c s V0 hz h hl;intros;rename_i h2 hQP hJ;conv=>arg 2;whnf
 have hmo:Tryz.prog.follows .mixedOrders=true:=by kernel_rfl
 have HZ:=hid hz;have T3:=bi s 16 (by decide);have hl3:=fC s 16;have hby:=fK B g s 16 V0 h.rf hl;unfold gm at hby;generalize RS.bytes s 16=y at *;obtain⟨y,s3⟩:=y;dsimp only at T3 hby hl3;have HT:=hid T3;have HL3:=hid hl3;have H:=hid h;clear T3 h hz;go_wp2_with fail;refine hby.mono ?_;rintro e W1 ⟨hR1,hg1,a1,k1,rfl,hrd1,hty1⟩;have h1:=H.out.grown hg1 hR1;have hBo:B<=ob:=by have:=h1.Bg;have:=h1.gw;have:=h1.wo;omega
 have hlt:=h1.lt.1;have hBW:B<=W1.heap.size:=by omega
 have H1:=hid h1;clear hby hR1 hg1 H h1;go_upto_region 34 with fail;generalize hg:W1.alloc _=W2;have e2:W1.alloc (.cells #[.slice a1 y.length k1,.bool false] 119)=W2:=hg;have hb2:Below W1.heap.size W1 W2:=by rw[<-e2];exact (Below.refl _ _).alloc (Nat.le_refl _) _
 have hrS:RfS B W1.heap.size ⟨y,false⟩ W2:=by rw[<-e2];exact nI hrd1 hBW hty1
 have h2':=H1.out.later hb2;have hz2:W2.heap.size=W1.heap.size+1:=by rw[<-e2];simp
 have hso:W1.heap.size≠ob:=by omega
 obtain⟨cs,hcs⟩:=hrS.at_;have q0:=h2'.q;obtain⟨M,hMM⟩:∃M,W2.heap.size=M:=⟨_,rfl⟩
 have hs0:SnL B M ob W1.heap.size o W2 y [] none 0 ⟨y,false⟩ W2:=⟨BelX.refl _ _ _,⟨fun n hn=>(by cases hn),fun _=>rfl,fun e=>(by cases e),Nat.le_refl _,Nat.zero_le _⟩,by
   have e:({ o with ho:=none,hn:=([]:List Nat).length,hc:=0 }:MV)=o:=by
    obtain⟨z1,z2,z3⟩:=HZ.out;cases o;dsimp only at z1 z2 z3;subst z1 z2 z3;rfl
   rw[e];exact q0,World.ownsRow_nil _ _ _ _,hrS,by omega,by omega,by omega,by omega,hso,hBo⟩
 have hW2s:W1.heap.size≠nb/\W1.heap.size≠rb/\w.heap.size<=W1.heap.size:=by
  have l1:=H1.out.lt;have l2:=H1.out.X.size;omega
 have H2:=hid h2';have HM:=hid hMM;have hBs:B<=W1.heap.size:=hBW;have hgs:g<W1.heap.size:=by have:=h2'.gw;have:=H1.out.X.size;omega
 clear hg e2 hb2 hrS h2' hz2 hMM hrd1 hty1 hBW H1;generalize W1.heap.size=sb at *;go_loopw [] (fun wr=>∃(l:List Nat) (a:Option Addr) (kc:Nat) (q:RS),SnL B M ob sb o W2 y l a kc q wr) (fun wr=>match wr.cell? ⟨sb,0,none⟩,wr.cell? ⟨sb,1,none⟩ with | some (.slice _ n _),some (.bool b)=>if b=true then 0 else n+1 | _,_=>0)
 case atStart=>exact⟨[],none,0,⟨y,false⟩,hs0⟩
 case round=>
  obtain⟨l,a,kc,q,hL⟩:=hrel;clear hs0;obtain⟨ax,cx,hc0⟩:=hL.rf.cell0;have hc1:=hL.rf.cell1;have HL:=hid hL;have hql:q.l.length<=y.length:=hL.R.le;by_cases hgo:0<q.l.length/\q.bad=false
  ·have f0:decide ((0:Int)<(q.l.length:Int))=true:=decide_eq_true (by omega);have f0n:decide (0<q.l.length)=true:=decide_eq_true hgo.1;have f0p:=hgo.1;have HG:=hid hgo;have hc1':=hc1;rw[hgo.2] at hc1;have HC0:=hid hc0;have HC1:=hid hc1';clear hgo hL hc1';go_upto_region 35 with fail;refine fB (k:=7) (S:=fun W=>W.cell? ⟨ob,26,none⟩=some (.slice a l.length kc)) hmo ?_;change dm _ _ _ _ _ _ _ _ _ (World.drew wr);have hd:Below wr.heap.size wr wr.drew:=(Below.refl _ _).drew;have s0:=HL.out.later hd;generalize World.drew wr=X0 at *;have t0:X0.cell? ⟨ob,26,none⟩=some (.slice a l.length kc):=(McAt.of s0.qo).c26;have hnum:=jD B sb q 1 X0 s0.rf (by omega);have TT:=iC q 1 (by decide);have hn:=Ib q 1;generalize RS.num q 1=nm at *;obtain⟨n,q'⟩:=nm;dsimp only at hnum TT hn;have HR:=hid (s0.R.next TT hn HG.out.2 HG.out.1);have HTT:=hid TT;have HS0:=hid s0;have hll:l.length<=100000000:=by
    have h1:=s0.R.yes HG.out.2;have h2:=congrArg List.length h1;rw[List.length_append] at h2;have h3:l.length<=(cu l).length:=by
     rw[jB];omega
    omega
   clear hd s0 TT hc0 hc1 f0 f0n f0p;refine zTq 0 (.pointer (some ⟨ob,26,none⟩)) rfl (fun a b c h=>hQP a b _ _ c h) t0 ?_;go_simp;refine bH (i:=1) (v:=.slice a l.length kc) rfl (by kernel_rfl) (by kernel_rfl) (by kernel_rfl) (by kernel_rfl) (by decide) (by kernel_rfl) (by kernel_rfl) (fun ch a1 w1 h=>hQP ch a1 _ _ w1 h) (Or.inl ⟨by kernel_rfl,by rintro w2 h2;go_simp⟩) t0 ?_;go_simp;refine zTq 2 (.pointer (some ⟨sb,0,none⟩)) rfl (fun a b c h=>hQP a b _ _ c h) t0 ?_;go_simp;refine zT1 3 rfl (fun K hK=>?_);go_simp;refine hnum.mono ?_;rintro e X1 ⟨rfl,hR1,hg1⟩;have s1:=HS0.out.num hg1 hR1;have t1:=s1.c26;clear hnum hR1 hg1;go_simp;refine hK _ _ ⟨.inr t1,?_⟩;clear hK K t0;refine zT1 4 rfl (fun K hK=>?_);go_simp;obtain⟨V,hV⟩:∃V,X1.alloc (.cells #[.int .u64 (n:Int)] 22)=V:=⟨_,rfl⟩
   have hbV:Below X1.heap.size X1 V:=by rw[<-hV];exact (Below.refl _ _).alloc (Nat.le_refl _) _
   have rV:Rd V 1 (some ⟨X1.heap.size,0,none⟩) 1 1 [.int .u64 (n:Int)]:=by rw[<-hV];exact Rd.new X1 [.int .u64 (n:Int)] 22 (0,0) 1 1 rfl (by unfold maxLen;omega)
   have sV:=s1.later hbV;have t2:=sV.c26;rw[hV];refine hK _ _ ⟨.inr t2,?_⟩;clear hK K hV hbV s1 t1;refine zT1 5 rfl (fun K hK=>?_);refine nC rfl (.tmp 165) (.tmp 168) 57 rfl M 22 (.int .u64 0) 1 8 Om (.slice a l.length kc) l.length (iT l) rfl sV.own (some ⟨X1.heap.size,0,none⟩) 1 1 [.int .u64 (n:Int)] rfl rV (fun v hv=>by rw[List.mem_singleton.1 hv];rfl) (by unfold maxLen;omega) (by omega) sV.hM.2.2.1 ?_;intro a4 k4 V4 own4 hg4 hb4 _;obtain⟨p1,p2,p3⟩:=sV.app own4 hg4 hb4 HR.out;refine hK _ _ ⟨.inr p1,?_⟩;clear hK K own4 hg4 hb4 rV sV t2;refine zTq 6 (.pointer (some ⟨ob,26,none⟩)) rfl (fun a b c h=>hQP a b _ _ c h) p1 ?_;go_simp;refine dQ (by kernel_rfl) (by kernel_rfl) ?_;refine zA1 7 rfl (fun K hK=>?_);go_simp;refine hK _ _ ?_;clear hK K;refine wpAny_done (by kernel_rfl) ?_ _;have HP:=hid p3;clear p1 p2 p3;generalize World.setCell _ ⟨ob,26,none⟩ _=X9 at *;go_wp2_with fail;go_roundw
   case rel=>exact⟨l++[n],a4,k4,q',HP.out⟩
   case measure=>
    obtain⟨ax',cx',d0⟩:=HP.out.rf.cell0;have d1:=HP.out.rf.cell1;rw[HC0.out,HC1.out,d0,d1,HG.out.2];dsimp only;cases hqb:q'.bad with
    | true=>simp
    | false=>
     obtain⟨-,e,-⟩:=HTT.out.yes hqb;have h2:=congrArg List.length e;rw[List.length_append,af,ah] at h2;simp;omega
  have hkn:KeepN B W2 wr:=KeepN.of_belX' (HM.out▸hL.X) (fun j hj=>by
   simp only[List.mem_cons,List.not_mem_nil,or_false] at hj;rcases hj with rfl|rfl
   ·exact⟨hBo,_,_,_,q0,bD⟩
   exact⟨hBs,_,_,_,hcs,mZ⟩)
  have aX:=H2.out.at_.kpn H2.out.ty hkn;have yX:=H2.out.ty.kpn hkn;have hu:=H2.out.u;have hrg:RfS B g s3 wr:=H2.out.rf.belX (HM.out▸hL.X) (fun hm=>by
    simp only[List.mem_cons,List.not_mem_nil,or_false] at hm;have:=H2.out.gw;have:=H2.out.wo;omega) (fun j hj=>by
    simp only[List.mem_cons,List.not_mem_nil,or_false] at hj;rcases hj with rfl|rfl
    ·exact hBo
    ·exact hBs) (fun j hj=>by
    simp only[List.mem_cons,List.not_mem_nil,or_false] at hj;rcases hj with rfl|rfl
    ·exact⟨_,q0,TkM.not_u8 bD⟩
    exact⟨_,hcs,TkM.not_u8 mZ⟩)
  have lu:l.length<=1000000000:=by
   have:=hL.R.len;omega
  have hT:TkM B g ob nb rb w T l8 tc (aI 101 o { o with ho:=a,hn:=l.length,hc:=kc }) (dh 101 c { c with seen:=l }) s3 wr:=
   H2.out.turn hkn (HM.out▸hL.X) (fun j hj=>by simp only[List.mem_cons,List.not_mem_nil,or_false] at hj;rcases hj with rfl|rfl;exact .inl rfl;exact .inr (.inr hW2s)) hrg hL.qo rfl rfl
    ⟨aX.rq,aX.rs,aX.sn,aX.lg,Rd.of_own_slice hL.own,aX.ls,lu⟩ ⟨hu.vi,hu.no,hu.cl,hu.nu,hu.at_,hu.cm,hu.bs,hu.nc,hu.rq,hu.log,hL.R.u⟩ ⟨yX.rq,yX.rs,yX.sn,yX.lo,yX.log,TyX.of_own hL.own⟩ (by
     have h1:=H2.out.ft;exact⟨h1.rs,h1.rl,h1.lg,h1.sn,(show l.length<=322639 by have:=hL.R.len;have:=HL3.out;omega),h1.ln⟩)
  have hS:StepX 101 s (aI 101 o { o with ho:=a,hn:=l.length,hc:=kc }) (dh 101 c { c with seen:=l }) ⟨s3.l,s3.bad||!(!q.bad)⟩:=step_seen HT.out (fun h=>by
    have hb:q.bad=false:=by simpa using h
    have h0:q.l=[]:=List.eq_nil_of_length_eq_zero (by
     by_cases e:0<q.l.length
     ·exact absurd ⟨e,hb⟩ hgo
     omega)
    have h1:=hL.R.yes hb;rw[h0,List.append_nil] at h1;exact h1.symm) (fun h=>hL.R.no (by simpa using h))
  have d0:=hT.rf.cell1;have dz:=hT.rf.fz1;have HTM:=hid hT;have HSS:=hid hS;have HG:=hid hgo;clear hT hS aX yX hu hrg hkn hL hgo lu;obtain⟨l3,bad⟩:=s3;dsimp only at d0 HTM HSS;by_cases h0:0<q.l.length
  ·have hqb:q.bad=true:=by
    cases e:q.bad with
    | true=>rfl
    | false=>exact absurd ⟨h0,e⟩ HG.out
   have f0:decide ((0:Int)<(q.l.length:Int))=true:=decide_eq_true (by omega);have f0n:decide (0<q.l.length)=true:=decide_eq_true h0;rw[hqb] at hc1;have HQ:=hid hqb;clear hqb;cases bad with
   | true=>
    have h5:=hid (HTM.out.flag true);go_wp2_with fail;refine Met.intro ?_;apply hJ;exact⟨_,_,_,h5.out,HSS.out⟩
   | false=>
    have h5:=hid (HTM.out.flag true);have hs5:=HSS.out;rw[HQ.out] at hs5;have HS5:=hid hs5;clear hs5;go_wp2_with fail;refine Met.intro ?_;apply hJ;exact⟨_,_,_,h5.out,HS5.out⟩
  have f0:decide ((0:Int)<(q.l.length:Int))=false:=decide_eq_false (by omega);have f0n:decide (0<q.l.length)=false:=decide_eq_false h0;cases bad with
  | true=>
   have h5:=hid (HTM.out.flag true);go_wp2_with fail;refine Met.intro ?_;apply hJ;exact⟨_,_,_,h5.out,HSS.out⟩
  | false=>
   have h5:=hid (HTM.out.flag q.bad);have hs5:=HSS.out;rw[Bool.not_not] at hs5;have HS5:=hid hs5;clear hs5;obtain⟨qb,hqb⟩:∃qb,q.bad=qb:=⟨_,rfl⟩
   rw[hqb] at hc1 h5 HS5;clear hqb;go_wp2_with fail;refine Met.intro ?_;apply hJ;exact⟨_,_,_,h5.out,HS5.out⟩
structure StN (ob pb:Nat)(o:MV)(q:Nat)(l:List Nat)(W:World):Prop where
 ex:∃a k,W.heap[ob]?=some (MV.box { o with ho:=a,hn:=l.length,hc:=k })/\W.ownsRow q 22 1 (.slice a l.length k) l.length (iT l)
 pb:W.heap[pb]?=some (dX ob)
 u:∀n∈l,n<18446744073709551616
theorem StN.set {ob pb g q i:Nat}{o:MV}{l:List Nat}{W:World}{cs:Array Value}{x:Value}(h:StN ob pb o q l W)(hg:W.heap[g]?=some (.cells cs 237)):StN ob pb o q l (W.setCell ⟨g,i,none⟩ x):=by
 obtain⟨⟨a,k,h1,h2⟩,h3,h4⟩:=h;refine⟨⟨a,k,ai h1 (fun e=>?_),dE h2 (fun j hj=>Below.heap_setCell _ _ _ _ (fun e=>?_))⟩,ai h3 (fun e=>?_),h4⟩
 ·rw[e,hg] at h1;cases h1
 ·obtain⟨-,-,cur,h5⟩:=aY h2 hj;have e:j=g:=e;rw[e,hg] at h5;cases h5
 rw[e,hg] at h3;cases h3
structure NpS (q ob pb:Nat)(o:MV)(s':RS)(wr:World)(l:List Nat)(a:Option Addr)(kc:Nat)(W:World):Prop where
 X:BelX q [ob] wr W
 qo:W.heap[ob]?=some (MV.box { o with ho:=a,hn:=l.length,hc:=kc })
 own:W.ownsRow q 22 1 (.slice a l.length kc) l.length (iT l)
 u:∀n∈l,n<18446744073709551616
 rd:RdS q q s' W
 qp:W.heap[pb]?=some (dX ob)
 hM:ob<q/\pb<q/\q<=W.heap.size
section
variable {q ob pb:Nat} {o:MV} {s':RS} {wr:World} {l:List Nat} {a:Option Addr} {kc:Nat} {W W':World}
theorem NpS.later (h:NpS q ob pb o s' wr l a kc W)(hb:Below W.heap.size W W'):NpS q ob pb o s' wr l a kc W':=
 ⟨h.X.trans ((BelX.of_below hb [ob]).mono h.hM.2.2 (fun _ hk _=>hk)),ae h.qo hb,ag h.own hb,h.u,h.rd.later hb,(hb.block _ (Array.getElem?_eq_some_iff.1 h.qp).1).trans h.qp,⟨h.hM.1,h.hM.2.1,Nat.le_trans h.hM.2.2 hb.size⟩⟩
theorem NpS.num {s2:RS}(h:NpS q ob pb o s' wr l a kc W)(hg:W.grownBy W' (some q))(hr:RdS q q s2 W'):NpS q ob pb o s2 wr l a kc W':=by
 obtain⟨m1,m2,m3⟩:=h.hM;refine⟨h.X.trans ((iY hg (M:=q) m3).mono (Nat.le_refl _) (fun k hk e=>by rw[List.mem_singleton.1 hk] at e;omega)),(hg.block _ (by omega) (fun e=>by have:=Option.some.inj e;omega)).trans h.qo,dE h.own (fun k hk=>hg.block k (aY h.own hk).2.1 (fun e=>?_)),h.u,hr,(hg.block _ (by omega) (fun e=>by have:=Option.some.inj e;omega)).trans h.qp,m1,m2,Nat.le_trans m3 hg.size⟩;obtain⟨_,_,cur,h3⟩:=aY h.own hk;obtain⟨_,_,h5⟩:=h.rd;have h4:=h5.at_;rw[<-Option.some.inj e,h3] at h4;cases h4
def NpC (pb ob:Nat)(v:Value)(W:World):Prop:=W.cell? ⟨pb,0,none⟩=some (.pointer (some ⟨ob,0,none⟩))/\W.cell? ⟨ob,26,none⟩=some v
theorem NpC.cell {v:Value}(h:NpC pb ob v W):W.cell? ⟨pb,0,none⟩=some (.pointer (some ⟨ob,0,none⟩))/\W.cell? ⟨ob,26,none⟩=some v:=h
theorem NpS.cells (h:NpS q ob pb o s' wr l a kc W):NpC pb ob (.slice a l.length kc) W:=⟨by have:=h.qp;simp[World.cell?,this,dX],(McAt.of h.qo).c26⟩
theorem NpS.app {a4:Option Addr}{k4 n:Nat}(h:NpS q ob pb o s' wr l a kc W)(h4:W'.ownsRow q 22 1 (.slice a4 (l.length+1) k4) (l.length+1) (iT l++[.int .u64 (n:Int)]))(hg:W.grownBy W' (Value.slice a l.length kc).ownBlock)(hb:Below q W W') :
  NpC pb ob (.slice a l.length kc) W'/\W'.frozen? ⟨ob,26,none⟩=false/\(n<18446744073709551616->StN ob pb o q (l++[n]) (W'.setCell ⟨ob,26,none⟩ (.slice a4 (l.length+1) k4)))/\RdS q q s' (W'.setCell ⟨ob,26,none⟩ (.slice a4 (l.length+1) k4))/\BelX q [ob] wr (W'.setCell ⟨ob,26,none⟩ (.slice a4 (l.length+1) k4)) /\
  (W'.setCell ⟨ob,26,none⟩ (.slice a4 (l.length+1) k4)).cell? ⟨pb,0,none⟩=some (.pointer (some ⟨ob,0,none⟩))/\(W'.setCell ⟨ob,26,none⟩ (.slice a4 (l.length+1) k4)).cell? ⟨ob,26,none⟩=some (.slice a4 (l.length+1) k4):=by
 obtain⟨m1,m2,m3⟩:=h.hM;have q1:W'.heap[ob]?=some (MV.box { o with ho:=a,hn:=l.length,hc:=kc }):=(hb.block _ m1).trans h.qo;have p1:W'.heap[pb]?=some (dX ob):=(hb.block _ m2).trans h.qp;have r1:RdS q q s' W':=uV h.rd hg h.own (by decide) (by decide);have hpo:pb≠ob:=fun e=>by rw[e,q1] at p1;cases p1
 have q2:(W'.setCell ⟨ob,26,none⟩ (.slice a4 (l.length+1) k4)).heap[ob]?=some (MV.box { o with ho:=a4,hn:=l.length+1,hc:=k4 }):=(at_set q1).trans (by kernel_rfl);have p2:=ai (b:=ob) (i:=26) (x:=.slice a4 (l.length+1) k4) p1 hpo;have eln:(l++[n]).length=l.length+1:=by simp
 have e8:iT (l++[n])=iT l++[.int .u64 (n:Int)]:=by simp[iT]
 refine⟨⟨by simp[World.cell?,p1,dX],(McAt.of q1).c26⟩,bV q1 26,fun hn=>⟨⟨a4,k4,by rw[eln];exact q2,?_⟩,p2,fun m hm=>?_⟩,r1.grown (ak _ _ _ _) q1 (RdM.not_u8 bD) (by omega),(h.X.trans (BelX.of_below hb [ob])).set _ _ _ (.inl (by simp)),by simp[World.cell?,p2,dX],(McAt.of q2).c26⟩
 ·rw[eln,e8];exact dE h4 (fun j hj=>Below.heap_setCell _ _ _ _ (by have:=(aY h4 hj).1;show j≠ob;omega))
 rcases List.mem_append.1 hm with hm | hm
 ·exact h.u m hm
 rw[List.mem_singleton.1 hm];exact hn
end
theorem GV (ob pb q:Nat)(o:MV)(l:List Nat)(b:List UInt8)(wr:World)(hob:ob<q)(hpb:pb<q)(hst:StN ob pb o q l wr)(hr:RdS q q ⟨b,false⟩ wr)(hb:b.length<=4194304)(hl:l.length<=4194304) :
  Calls Tryz.prog 217 #[.pointer (some ⟨q,0,none⟩),.pointer (some ⟨pb,0,none⟩)] wr (rH q [ob] elN uA 7 (StN ob pb o) l b wr):=by
 have hmo:Tryz.prog.follows .mixedOrders=true:=by kernel_rfl
 obtain⟨⟨a,k,ho,hown⟩,hp,hu⟩:=hst;have hqs:q<wr.heap.size:=by obtain⟨_,_,h⟩:=hr;exact h.lt
 have hd:Below wr.heap.size wr wr.drew:=(Below.refl _ _).drew;have s0:NpS q ob pb o ⟨b,false⟩ wr l a k wr.drew:=NpS.later (⟨BelX.refl _ _ _,ho,hown,hu,hr,hp,hob,hpb,by omega⟩:NpS q ob pb o ⟨b,false⟩ wr l a k wr) hd;clear ho hown hp hu hr hd;go_in;go_upto_region 1 with fail;refine fB (k:=11) (S:=NpC pb ob (.slice a l.length k)) hmo ?_;change dm _ _ _ _ _ _ _ _ _ (World.drew wr);generalize World.drew wr=X0 at *;have t0:=s0.cells;have hnum:=oZ q q ⟨b,false⟩ 1 X0 s0.rd (by dsimp only;omega);unfold jS at hnum;have TT:=iC ⟨b,false⟩ 1 (by decide);have hn:=DD ⟨b,false⟩ 1;generalize RS.num ⟨b,false⟩ 1=nm at *;obtain⟨n,s'⟩:=nm;dsimp only at hnum TT hn;have HT:=hid TT;have HN:=hid hn;clear TT hn;refine zTa 0 (.pointer (some ⟨ob,0,none⟩)) rfl (by rintro w2 h2;obtain⟨cd,ce⟩:=h2.cell;go_simp) t0 ?_;go_simp;refine zTa 1 (.pointer (some ⟨ob,0,none⟩)) rfl (by rintro w2 h2;obtain⟨cd,ce⟩:=h2.cell;go_simp) t0 ?_;go_simp;refine zTp 2 (.pointer (some ⟨ob,0,none⟩)) rfl t0 ?_;go_simp;refine zTp 3 (.pointer (some ⟨ob,26,none⟩)) rfl t0 ?_;go_simp;refine zTa 4 (.slice a l.length k) rfl (by rintro w2 h2;obtain⟨cd,ce⟩:=h2.cell;go_simp) t0 ?_;go_simp;refine zTp 5 (.pointer (some ⟨q,0,none⟩)) rfl t0 ?_;go_simp;refine zT1 6 rfl (fun K hK=>?_);go_simp;refine hnum.mono ?_;rintro e X1 ⟨rfl,hR1,hg1⟩;have s1:=s0.num hg1 hR1;have t1:=s1.cells;clear hnum hR1 hg1 s0;go_simp;refine hK _ _ ⟨.inr t1,?_⟩;clear hK K t0;refine zT1 7 rfl (fun K hK=>?_);go_simp;obtain⟨V,hV⟩:∃V,X1.alloc (.cells #[.int .u64 (n:Int)] 22)=V:=⟨_,rfl⟩
 have hbV:Below X1.heap.size X1 V:=by rw[<-hV];exact (Below.refl _ _).alloc (Nat.le_refl _) _
 have rV:Rd V 1 (some ⟨X1.heap.size,0,none⟩) 1 1 [.int .u64 (n:Int)]:=by rw[<-hV];exact Rd.new X1 [.int .u64 (n:Int)] 22 (0,0) 1 1 rfl (by unfold maxLen;omega)
 have sV:=s1.later hbV;have t2:=sV.cells;rw[hV];refine hK _ _ ⟨.inr t2,?_⟩;clear hK K hV hbV s1 t1;refine zT1 8 rfl (fun K hK=>?_);refine nC rfl (.tmp 8) (.tmp 11) 57 rfl q 22 (.int .u64 0) 1 8 Om (.slice a l.length k) l.length (iT l) rfl sV.own (some ⟨X1.heap.size,0,none⟩) 1 1 [.int .u64 (n:Int)] rfl rV (fun v hv=>by rw[List.mem_singleton.1 hv];rfl) (by unfold maxLen;omega) (by omega) sV.hM.2.2 ?_;intro a4 k4 V4 own4 hg4 hb4 _;obtain⟨p1,p2,p3,p4,p5,c8,c9⟩:=sV.app own4 hg4 hb4;refine hK _ _ ⟨.inr p1,?_⟩;clear hK K own4 hg4 hb4 rV sV t2;refine zTp 9 (.pointer (some ⟨ob,0,none⟩)) rfl p1 ?_;go_simp;refine zTp 10 (.pointer (some ⟨ob,26,none⟩)) rfl p1 ?_;go_simp;have cO:=p1.cell.2;refine dQ (by kernel_rfl) (by kernel_rfl) ?_;refine zA1 11 rfl (fun K hK=>?_);go_simp;refine hK _ _ ?_;clear hK K cO;refine wpAny_done (by kernel_rfl) ?_ _;have P:=hid (And.intro (p3 HN.out) (And.intro p4 p5));clear p1 p2 p3 p4 p5;generalize World.setCell _ ⟨ob,26,none⟩ _=W5 at *;have hG:Hid (∀bb:Bool,(bb=true->l.length<7)->(bb=false->7<=l.length)->rH q [ob] elN uA 7 (StN ob pb o) l b wr (.returned (.bool bb)) W5):=hid (by
  intro bb h1 h2;refine⟨bb,s',n,rfl,P.out.2.1,P.out.1,P.out.2.2,HT.out.le,fun hb hs=>?_,fun h=>?_⟩
  ·obtain⟨-,k4,k5⟩:=HT.out.yes hs;exact⟨h1 hb,k4,k5⟩
  have hno:s'.bad=true->∀z rest,uA z->b≠elN z++rest:=fun hs z rest hz=>by
   rcases HT.out.no hs with h | h
   ·cases h
   exact h z rest hz
  rcases h with rfl | h
  ·exact .inl (h2 rfl)
  exact .inr (hno h))
 clear P HT HN;by_cases h8:l.length<7
 ·have f0:decide ((l.length:Int)+1<=7)=true:=decide_eq_true (by omega);go_wp2_with fail;go_ret;exact hG.out true (fun _=>h8) (fun h=>by cases h)
 have f0:decide ((l.length:Int)+1<=7)=false:=decide_eq_false (by omega);go_wp2_with fail;go_ret;exact hG.out false (fun h=>by cases h) (fun _=>by omega)
theorem Na (B g ob:Nat)(w:World)(o:MV)(c:MC)(s:RS)(W:World)(h:RdM B g ob w o c s W)(hl:s.l.length<=100000000)(hz:o.ho=none/\o.hn=0/\o.hc=0):Calls Tryz.prog 216 #[.pointer (some ⟨g,0,none⟩),.pointer (some ⟨ob,0,none⟩)] W (lX B g ob w 101 o c s W):=by
 have hb:Below W.heap.size W (W.alloc (dX ob)):=(Below.refl _ _).alloc (Nat.le_refl _) _;have hp:(W.alloc (dX ob)).heap[W.heap.size]?=some (dX ob):=at_new _ _;have h1:=h.later hb;obtain⟨l1,l2⟩:=h.lt;have hgb:W.heap.size≠g:=by omega
 unfold dX at hb hp h1;go_in;go_upto_region 1 with fail;generalize hg:W.alloc _=W1 at *;have hp1:W1.heap[W.heap.size]?=some (dX ob):=hp;clear hg hp;have hno:∀q w1,W1.grownBy w1 (some g)->StN ob W.heap.size o q [] w1:=fun q w1 hgw=>by
  have q1:=(hgw.block _ h1.lt.2 (fun e=>h.ne (Option.some.inj e).symm)).trans h1.q;refine⟨⟨none,0,?_,World.ownsRow_nil _ _ _ _⟩,(hgw.block _ (Array.getElem?_eq_some_iff.1 hp1).1 (fun e=>hgb (Option.some.inj e))).trans hp1,fun p hp=>by cases hp⟩;have e:({ o with ho:=none,hn:=([]:List Nat).length,hc:=0 }:MV)=o:=by
   obtain⟨z1,z2,z3⟩:=hz;cases o;dsimp only at z1 z2 z3;subst z1 z2 z3;rfl
  rw[e];exact q1
 have hli:=uK B g s 16 217 #[.pointer (some ⟨W.heap.size,0,none⟩)] W1 (by decide) h1.rd hl (enters_of Tryz.func217 (by kernel_rfl) rfl) [ob] (fun k hk=>by
  rw[List.mem_singleton.1 hk];exact⟨fun e=>h.ne e.symm,_,h1.q,RdM.not_u8 bD⟩) elN uA 7 Ls MS (StN ob W.heap.size o) hno (fun q l wx cs v _ k1 k2=>k1.set k2) (fun q l b wr hq k1 k2 k3 k4 _=>GV ob W.heap.size q o l b wr (Nat.lt_of_lt_of_le h1.lt.2 hq) (Nat.lt_of_lt_of_le (Array.getElem?_eq_some_iff.1 hp1).1 hq) k1 k2 k3 k4)
 have H1:=hid h1;clear h h1 hno hz hp1 hgb;go_wp2_with fail;refine hli.mono ?_;rintro e W2 ⟨⟨r9,rfl⟩,s',q,l,hr2,hq,hst,hX,hln,T⟩;have HH:Hid (lX B g ob w 101 o c s W (.returned (.tuple #[])) W2):=hid (by
  obtain⟨⟨a,k,qo,own⟩,-,hu⟩:=hst;have h1:=H1.out;have hk:KeepM W1 W2:=KeepM.of_belX hX (fun k hk=>by
   simp only[List.mem_cons,List.not_mem_nil,or_false] at hk;rcases hk with rfl|rfl
   ·obtain⟨_,_,hr⟩:=h1.rd;exact⟨_,hr.at_,fun c t fr ht e=>by cases e;exact oQ ht⟩
   exact⟨_,h1.q,fun c t fr ht e=>by cases e;exact bD ht⟩)
  have A:=h1.at_.kpm h1.ty hk;have Y:=h1.ty.kpm hk;have S:StepX 101 s (aI 101 o { o with ho:=a,hn:=l.length,hc:=k }) (dh 101 c { c with seen:=l }) s':=FU T rfl;refine⟨rfl,(BelX.of_below hb [g,ob]).trans (hX.mono hb.size (fun _ hk _=>hk)),{ o with ho:=a,hn:=l.length,hc:=k },{ c with seen:=l },s',h1.turn hX hr2 qo ⟨A.rq,A.rs,A.sn,A.lg,Rd.of_own_slice own,A.ls,by show l.length<=1000000000;omega⟩ ⟨h1.u.vi,h1.u.no,h1.u.cl,h1.u.nu,h1.u.at_,h1.u.cm,h1.u.bs,h1.u.nc,h1.u.rq,h1.u.log,hu⟩ ⟨Y.rq,Y.rs,Y.sn,Y.lo,Y.log,TyX.of_own own⟩ h1.fr (fun e=>⟨(h1.cnt (T.yes e).1).1,(T.yes e).2.2.2.1⟩),S⟩)
 clear hst hr2 hq hX hln T H1 hb hli;go_wp2_with fail;refine bodyPost_end (results_none rfl _ _ _) rfl ?_;exact HH.out
theorem KC {t0 t1 t2 t3 t4 t5 t6 t7:Nat}:∀f∈allL t0 t1 t2 t3 t4 t5 t6 t7,∃tf tc,TakeOk t0 t1 t2 t3 t4 t5 t6 t7 f tf tc:=by
 intro f hf;simp only[allL,List.mem_cons,List.not_mem_nil,or_false] at hf;rcases hf with rfl|rfl|rfl|rfl|rfl|rfl|rfl|rfl|rfl|rfl|rfl|rfl|rfl|rfl|rfl
 ·refine⟨220,#[.pointer (some ⟨t0,0,none⟩),.pointer (some ⟨t0+1,0,none⟩)],rfl,enters_of Tryz.func220 (by kernel_rfl) rfl,fun B g ob w o c s W ha h hl _ _=>takeN (x:=118) (ff:=164) (ix:=1) (t:=2) (fv:=fun n o=>{ o with vi:=n }) (fld:=MV.vi) (by decide) xO.calls (enters_of Tryz.func164 (by kernel_rfl) rfl) (by decide) h hl ha.a0 ⟨_,rfl⟩ (fun _ _=>rfl) (fun m d u=>u.vi) (fun _=>rfl) (fun n=>by kernel_rfl) (fun n X a=>⟨a.rq,a.rs,a.sn,a.lg,a.se,a.ls,a.lh⟩) (fun n h0 h1=>⟨⟨h0,h1⟩,h.u.no,h.u.cl,h.u.nu,h.u.at_,h.u.cm,h.u.bs,h.u.nc,h.u.rq,h.u.log,h.u.seen⟩) (fun n X a=>⟨a.rq,a.rs,a.sn,a.lo,a.log,a.ho⟩) (fun n=>⟨rfl,rfl,rfl⟩)⟩
 ·refine⟨220,#[.pointer (some ⟨t1,0,none⟩),.pointer (some ⟨t1+1,0,none⟩)],rfl,enters_of Tryz.func220 (by kernel_rfl) rfl,fun B g ob w o c s W ha h hl _ _=>takeN (x:=110) (ff:=165) (ix:=2) (t:=3) (fv:=fun n o=>{ o with no:=n }) (fld:=MV.no) (by decide) G5.calls (enters_of Tryz.func165 (by kernel_rfl) rfl) (by decide) h hl ha.a1 ⟨_,rfl⟩ (fun _ _=>rfl) (fun m d u=>u.no) (fun _=>rfl) (fun n=>by kernel_rfl) (fun n X a=>⟨a.rq,a.rs,a.sn,a.lg,a.se,a.ls,a.lh⟩) (fun n h0 h1=>⟨h.u.vi,⟨h0,h1⟩,h.u.cl,h.u.nu,h.u.at_,h.u.cm,h.u.bs,h.u.nc,h.u.rq,h.u.log,h.u.seen⟩) (fun n X a=>⟨a.rq,a.rs,a.sn,a.lo,a.log,a.ho⟩) (fun n=>⟨rfl,rfl,rfl⟩)⟩
 ·exact⟨188,#[],rfl,enters_of Tryz.func188 (by kernel_rfl) rfl,fun B g ob w o c s W _ h hl _ _=>MG B g ob w o c s W h hl⟩
 ·refine⟨220,#[.pointer (some ⟨t2,0,none⟩),.pointer (some ⟨t2+1,0,none⟩)],rfl,enters_of Tryz.func220 (by kernel_rfl) rfl,fun B g ob w o c s W ha h hl _ _=>takeN (x:=99) (ff:=166) (ix:=4) (t:=5) (fv:=fun n o=>{ o with cl:=n }) (fld:=MV.cl) (by decide) Eo.calls (enters_of Tryz.func166 (by kernel_rfl) rfl) (by decide) h hl ha.a2 ⟨_,rfl⟩ (fun _ _=>rfl) (fun m d u=>u.cl) (fun _=>rfl) (fun n=>by kernel_rfl) (fun n X a=>⟨a.rq,a.rs,a.sn,a.lg,a.se,a.ls,a.lh⟩) (fun n h0 h1=>⟨h.u.vi,h.u.no,⟨h0,h1⟩,h.u.nu,h.u.at_,h.u.cm,h.u.bs,h.u.nc,h.u.rq,h.u.log,h.u.seen⟩) (fun n X a=>⟨a.rq,a.rs,a.sn,a.lo,a.log,a.ho⟩) (fun n=>⟨rfl,rfl,rfl⟩)⟩
 ·refine⟨220,#[.pointer (some ⟨t3,0,none⟩),.pointer (some ⟨t3+1,0,none⟩)],rfl,enters_of Tryz.func220 (by kernel_rfl) rfl,fun B g ob w o c s W ha h hl _ _=>takeN (x:=117) (ff:=167) (ix:=5) (t:=6) (fv:=fun n o=>{ o with nu:=n }) (fld:=MV.nu) (by decide) Ea.calls (enters_of Tryz.func167 (by kernel_rfl) rfl) (by decide) h hl ha.a3 ⟨_,rfl⟩ (fun _ _=>rfl) (fun m d u=>u.nu) (fun _=>rfl) (fun n=>by kernel_rfl) (fun n X a=>⟨a.rq,a.rs,a.sn,a.lg,a.se,a.ls,a.lh⟩) (fun n h0 h1=>⟨h.u.vi,h.u.no,h.u.cl,⟨h0,h1⟩,h.u.at_,h.u.cm,h.u.bs,h.u.nc,h.u.rq,h.u.log,h.u.seen⟩) (fun n X a=>⟨a.rq,a.rs,a.sn,a.lo,a.log,a.ho⟩) (fun n=>⟨rfl,rfl,rfl⟩)⟩
 ·exact⟨192,#[],rfl,enters_of Tryz.func192 (by kernel_rfl) rfl,fun B g ob w o c s W _ h hl _ _=>MR B g ob w o c s W h hl⟩
 ·exact⟨198,#[],rfl,enters_of Tryz.func198 (by kernel_rfl) rfl,fun B g ob w o c s W _ h hl _ _=>Nh B g ob w o c s W h hl⟩
 ·refine⟨220,#[.pointer (some ⟨t4,0,none⟩),.pointer (some ⟨t4+1,0,none⟩)],rfl,enters_of Tryz.func220 (by kernel_rfl) rfl,fun B g ob w o c s W ha h hl _ _=>takeN (x:=97) (ff:=168) (ix:=19) (t:=9) (fv:=fun n o=>{ o with at_:=n }) (fld:=MV.at_) (by decide) Ew.calls (enters_of Tryz.func168 (by kernel_rfl) rfl) (by decide) h hl ha.a4 ⟨_,rfl⟩ (fun _ _=>rfl) (fun m d u=>u.at_) (fun _=>rfl) (fun n=>by kernel_rfl) (fun n X a=>⟨a.rq,a.rs,a.sn,a.lg,a.se,a.ls,a.lh⟩) (fun n h0 h1=>⟨h.u.vi,h.u.no,h.u.cl,h.u.nu,⟨h0,h1⟩,h.u.cm,h.u.bs,h.u.nc,h.u.rq,h.u.log,h.u.seen⟩) (fun n X a=>⟨a.rq,a.rs,a.sn,a.lo,a.log,a.ho⟩) (fun n=>⟨rfl,rfl,rfl⟩)⟩
 ·refine⟨220,#[.pointer (some ⟨t5,0,none⟩),.pointer (some ⟨t5+1,0,none⟩)],rfl,enters_of Tryz.func220 (by kernel_rfl) rfl,fun B g ob w o c s W ha h hl _ _=>takeN (x:=109) (ff:=169) (ix:=20) (t:=10) (fv:=fun n o=>{ o with cm:=n }) (fld:=MV.cm) (by decide) xB.calls (enters_of Tryz.func169 (by kernel_rfl) rfl) (by decide) h hl ha.a5 ⟨_,rfl⟩ (fun _ _=>rfl) (fun m d u=>u.cm) (fun _=>rfl) (fun n=>by kernel_rfl) (fun n X a=>⟨a.rq,a.rs,a.sn,a.lg,a.se,a.ls,a.lh⟩) (fun n h0 h1=>⟨h.u.vi,h.u.no,h.u.cl,h.u.nu,h.u.at_,⟨h0,h1⟩,h.u.bs,h.u.nc,h.u.rq,h.u.log,h.u.seen⟩) (fun n X a=>⟨a.rq,a.rs,a.sn,a.lo,a.log,a.ho⟩) (fun n=>⟨rfl,rfl,rfl⟩)⟩
 ·refine⟨220,#[.pointer (some ⟨t6,0,none⟩),.pointer (some ⟨t6+1,0,none⟩)],rfl,enters_of Tryz.func220 (by kernel_rfl) rfl,fun B g ob w o c s W ha h hl _ _=>takeN (x:=98) (ff:=170) (ix:=21) (t:=11) (fv:=fun n o=>{ o with bs:=n }) (fld:=MV.bs) (by decide) EX.calls (enters_of Tryz.func170 (by kernel_rfl) rfl) (by decide) h hl ha.a6 ⟨_,rfl⟩ (fun _ _=>rfl) (fun m d u=>u.bs) (fun _=>rfl) (fun n=>by kernel_rfl) (fun n X a=>⟨a.rq,a.rs,a.sn,a.lg,a.se,a.ls,a.lh⟩) (fun n h0 h1=>⟨h.u.vi,h.u.no,h.u.cl,h.u.nu,h.u.at_,h.u.cm,⟨h0,h1⟩,h.u.nc,h.u.rq,h.u.log,h.u.seen⟩) (fun n X a=>⟨a.rq,a.rs,a.sn,a.lo,a.log,a.ho⟩) (fun n=>⟨rfl,rfl,rfl⟩)⟩
 ·exact⟨202,#[],rfl,enters_of Tryz.func202 (by kernel_rfl) rfl,fun B g ob w o c s W _ h hl _ _=>ND B g ob w o c s W h hl⟩
 ·exact⟨206,#[],rfl,enters_of Tryz.func206 (by kernel_rfl) rfl,fun B g ob w o c s W _ h hl hz _=>Nk B g ob w o c s W h hl (hz rfl)⟩
 ·refine⟨220,#[.pointer (some ⟨t7,0,none⟩),.pointer (some ⟨t7+1,0,none⟩)],rfl,enters_of Tryz.func220 (by kernel_rfl) rfl,fun B g ob w o c s W ha h hl _ _=>takeN (x:=111) (ff:=171) (ix:=24) (t:=14) (fv:=fun n o=>{ o with nc:=n }) (fld:=MV.nc) (by decide) Ey.calls (enters_of Tryz.func171 (by kernel_rfl) rfl) (by decide) h hl ha.a7 ⟨_,rfl⟩ (fun _ _=>rfl) (fun m d u=>u.nc) (fun _=>rfl) (fun n=>by kernel_rfl) (fun n X a=>⟨a.rq,a.rs,a.sn,a.lg,a.se,a.ls,a.lh⟩) (fun n h0 h1=>⟨h.u.vi,h.u.no,h.u.cl,h.u.nu,h.u.at_,h.u.cm,h.u.bs,⟨h0,h1⟩,h.u.rq,h.u.log,h.u.seen⟩) (fun n X a=>⟨a.rq,a.rs,a.sn,a.lo,a.log,a.ho⟩) (fun n=>⟨rfl,rfl,rfl⟩)⟩
 ·exact⟨211,#[],rfl,enters_of Tryz.func211 (by kernel_rfl) rfl,fun B g ob w o c s W _ h hl _ _=>NQ B g ob w o c s W h hl⟩
 exact⟨216,#[],rfl,enters_of Tryz.func216 (by kernel_rfl) rfl,fun B g ob w o c s W _ h hl _ hz=>Na B g ob w o c s W h hl (hz rfl)⟩
end Go.Proofs.YtfmmandlmbcncaaGreatDoor.Msg
