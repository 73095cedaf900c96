/-
  A part of the proof.
-/
import Derived.Test.YtfmmandlmbcncaaGreatDoorKdbr
set_option maxHeartbeats 40000000
set_option maxRecDepth 100000
namespace Go.Proofs.YtfmmandlmbcncaaGreatDoor.Msg
open Go.RowKit Go.Lib Mem Tlv
def IL (d:List UInt8->Option (Int×Int×Int×Int))(B sb:Nat)(cl:Int)(p:PS)(b:List UInt8)(w:World)(e:Ending)(w':World):Prop:=
 ∃(q:QV) (uo to_:Option Addr),e=.returned (.tuple #[q.val,.bool (lD d cl b p).2])/\SAt w' B sb cl (lD d cl b p).1 uo to_/\Oth B sb w w'
theorem Ii (a:Addr)(w:World):Sem.run Tryz.prog (binOp BinOp.eql 95 (.pointer (some a)) (.pointer none)) w=.ok (.bool false) w:=by kernel_rfl
theorem eqlNil (w:World):Sem.run Tryz.prog (binOp BinOp.eql 95 (.pointer none) (.pointer none)) w=.ok (.bool true) w:=by kernel_rfl
structure TkC (B sb rb mb:Nat)(S:SV)(m:MV)(c:MC)(w W:World):Prop where
 s:W.heap[sb]?=some S.box
 z:W.heap[rb]?=some aA.box
 q:W.heap[mb]?=some m.box
 at_:QAt W m.rs c.rs
 o:Oth B sb w W
 hm:sb≠mb
 hz:sb≠rb
 lo:w.heap.size<=rb
 le:B<=sb
theorem TkC.later {B sb rb mb:Nat}{S:SV}{m:MV}{c:MC}{w W W':World}(h:TkC B sb rb mb S m c w W)(hb:Below W.heap.size W W'):TkC B sb rb mb S m c w W':=
 ⟨(hb.block _ (Array.getElem?_eq_some_iff.1 h.s).1).trans h.s,(hb.block _ (Array.getElem?_eq_some_iff.1 h.z).1).trans h.z,ag h.q hb,h.at_.later hb,h.o.later (by have:=(Array.getElem?_eq_some_iff.1 h.s).1;have:=h.le;omega) hb,h.hm,h.hz,h.lo,h.le⟩
def SesC (sb mb:Nat)(S:SV)(m:MV)(W:World):Prop:=W.heap[sb]?=some S.box/\W.heap[mb]?=some m.box
theorem SesC.cells {sb mb:Nat}{S:SV}{m:MV}{W:World}(h:SesC sb mb S m W):W.cell? ⟨sb,4,none⟩=some (.int .u64 S.vi)/\W.cell? ⟨mb,1,none⟩=some (.int .u64 m.vi)/\W.cell? ⟨mb,5,none⟩=some (.int .u64 m.nu):=by
 obtain⟨-,-,-,-,h4,-⟩:=bG h.1;exact⟨h4,(McAt.of h.2).c1,(McAt.of h.2).c5⟩
def PH (mb:Nat)(m:MV)(W:World):Prop:=W.heap[mb]?=some m.box
theorem take_any (d:List UInt8->Option (Int×Int×Int×Int))(hd:yM d)(B sb:Nat)(cl:Int)(p:PS)(K:Int)(uo to_:Option Addr)(b:List UInt8)(ao:Option Addr)(n cap:Nat)(w:World)(hS:SAt w B sb cl p uo to_)(hp:p.Ok K)(hK:K<=1000)(hr:Rd w 1 ao n cap (byV b))(hn:n<=8388608)(hE:ErrG w) :
  Calls Tryz.prog 50 #[.pointer (some ⟨sb,0,none⟩),.slice ao n cap] w (IL d B sb cl p b w):=by
 have hmo:Tryz.prog.follows .mixedOrders=true:=by kernel_rfl
 have hlt:=(Array.getElem?_eq_some_iff.1 hS.box).1;have hle:=hS.le;have hb0:Below w.heap.size w (w.alloc aA.box):=(Below.refl _ _).alloc (Nat.le_refl _) _;have k0:(w.alloc aA.box).heap[w.heap.size]?=some aA.box:=at_new _ _;have hS0:=hS.later hb0;have hr0:=hr.later hb0;have hE0:=hE.below hb0;unfold aA QV.box QV.cells at hb0 k0 hS0 hr0 hE0;dsimp only at hb0 k0 hS0 hr0 hE0;have HS:=hid hS;clear hS hr hE;go_in;go_upto_region 1 with fail;generalize hg:w.alloc _=W0 at *;have k0f:W0.heap[w.heap.size]?=some aA.box:=k0;have HZ:=hid hb0.size;have HLT:=hid (And.intro hlt hle);clear hg k0 hlt hle;go_wp2_with fail;refine (jc _ sb W0 hS0.box).mono ?_;rintro e w1 ⟨rfl,rfl⟩;have h5:decide ((0:Int)<5)=true:=rfl;go_wp2_with fail;refine (OD b ao n cap w1 hr0 hn hE0).mono ?_;rintro e W1 ⟨hb1,hA1⟩;obtain⟨m,c,x,rfl,at1,hx⟩:∃(m:MV) (c:MC) (x:Int),e=.returned (.tuple #[m.val,.int .i64 x])/\MAt W1 m c/\((x=0/\IsMsg b (m.k,m.vi,m.cl,m.nu)/\(m.k=2->m.rs.en<=1000/\SmallE c.rs.ents)/\U64M m c)\/(x=4/\mQ b)):=by
  rcases hA1 with ⟨m,c,rfl,a1,a2,-,a4,a5,a6⟩ | ⟨rfl,a1⟩
  ·exact⟨m,c,0,rfl,a1,.inl ⟨rfl,⟨_,m,c,a1,a2,a4,a5,a6,rfl⟩,fun hk=>Kz a1 a2 a4 a5 hk,a2⟩⟩
  exact⟨ay 0,dI,4,rfl,jh _ _,.inr ⟨rfl,a1⟩⟩
 have s1:=(hb1.block _ (Array.getElem?_eq_some_iff.1 hS0.box).1).trans hS0.box;have k1:=(hb1.block _ (Array.getElem?_eq_some_iff.1 k0f).1).trans k0f;have bel1:=hb0.trans (hb1.mono hb0.size);have HX:=hid hx;clear hS0 hr0 hE0 hb0 hb1 k0f hA1 hx;unfold MV.val MV.cells;go_upto_region 4 with (refine zNr rfl ?_;go_simp);generalize hg:W1.alloc _=W2;have e2:W1.alloc m.box=W2:=hg;have hb2:Below W1.heap.size W1 W2:=by rw[<-e2];exact (Below.refl _ _).alloc (Nat.le_refl _) _
 have q2:W2.heap[W1.heap.size]?=some m.box:=by rw[<-e2];exact at_new _ _
 have T2:TkC B sb w.heap.size W1.heap.size (SV.mk cl 5 p.num uo p.vi p.la to_ p.dr) m c w W2:=
  ⟨(hb2.block _ (Array.getElem?_eq_some_iff.1 s1).1).trans s1,(hb2.block _ (Array.getElem?_eq_some_iff.1 k1).1).trans k1,q2,at1.rs.later hb2,(Oth.refl B sb w).later (by have:=HLT.out;omega) (bel1.trans (hb2.mono bel1.size)),by have:=HLT.out;have:=HZ.out;have:=bel1.size;omega,by have:=HLT.out;omega,Nat.le_refl _,HLT.out.2⟩
 clear hg e2 hb2 q2 s1 k1 at1 bel1 HZ;generalize W1.heap.size=mb at *;obtain⟨rb,hrb⟩:∃rb,w.heap.size=rb:=⟨_,rfl⟩
 rw[hrb] at T2 ⊢;have HRB:=hid hrb;clear hrb;obtain⟨d1,hd1⟩:∃d,(x != 0)=d:=⟨_,rfl⟩
 obtain⟨d2,hd2⟩:∃d,(m.k != 2)=d:=⟨_,rfl⟩
 obtain⟨d3,hd3⟩:∃d,(m.cl != cl)=d:=⟨_,rfl⟩
 have c0:=(McAt.of T2.q).c0;have c4:=(McAt.of T2.q).c4;obtain⟨s0,-⟩:=bG T2.s;have HT2:=hid T2;clear T2;go_cut [33] from 9 (fun v wk=>v=.bool (d1||d2||d3)/\TkC B sb rb mb (SV.mk cl 5 p.num uo p.vi p.la to_ p.dr) m c w wk)
 case first=>
  cases d1<;>cases d2<;>cases d3
  all_goals
   go_quiet (fail)
   go_wp2_with fail;go_meet
   case rel=>exact⟨rfl,HT2.out.later (below_drewN (Below.refl _ _) _)⟩
 obtain⟨rfl,T3⟩:=hcut;clear c0 c4 s0 HT2;generalize hD:(d1||d2||d3)=D;have HB:=hid (And.intro T3.o T3.lo);cases D with
 | true=>
  have HP:Hid (lD d cl b p=(⟨p.num,p.vi,p.la,p.dr+1,p.un,p.told⟩,false)):=hid (by
   unfold lD;rcases HX.out with ⟨rfl,h1,-⟩ | ⟨rfl,h1⟩
   ·rw[(hd b).1 _ h1];dsimp only;rw[if_neg];rintro⟨e1,e2⟩;rw[e1] at hd2;rw[e2] at hd3;subst hd1 hd2 hd3;simp at hD
   rw[(hd b).2.1 h1])
  clear hd1 hd2 hd3 hD HX;obtain⟨-,-,-,-,-,-,-,s7,sf⟩:=bG T3.s;have hw:IntKind.wrap .i64 (p.dr+1)=p.dr+1:=by have:=hp.dr;rw[IntKind.wrap_i64];omega
  go_upto_region 6 with fail;generalize hg:World.setCell _ _ _=W4;have b4:W4.heap[sb]?=some (SV.box ⟨cl,5,p.num,uo,p.vi,p.la,to_,p.dr+1⟩):=by rw[<-hg];have:=T3.s;unfold SV.box SV.cells at this ⊢;exact at_set this
  have z4:W4.heap[rb]?=some aA.box:=by rw[<-hg];exact af T3.z (Ne.symm T3.hz)
  have o4:Oth B sb w (W4.setRow rb aA.cells):=by rw[<-hg];exact (HB.out.1.set T3.le 7 _).set2 (by have:=T3.le;have:=HB.out.2;have:=HLT.out;omega) HB.out.2 _
  have f1:(W4.setRow rb aA.cells).heap[rb]?=some (.cells aA.cells 39):=aT z4;have b5:(W4.setRow rb aA.cells).heap[sb]?=some (SV.box ⟨cl,5,p.num,uo,p.vi,p.la,to_,p.dr+1⟩):=(setRow_other _ _ _ _ T3.hz).trans b4;have S5:SAt (W4.setRow rb aA.cells) B sb cl ⟨p.num,p.vi,p.la,p.dr+1,p.un,p.told⟩ uo to_:=HS.out.own o4 rfl rfl rfl b5;have HF:=hid (And.intro S5 o4);clear S5 o4 b5 b4 hg s7 sf T3 hw;go_wp2_with (refine zSr rfl z4 ?_;go_simp;(repeat go_step);exact bodyPost_ret (w:=W4.setRow rb aA.cells) (aI (i:=4) (j:=5) (t:=39) rfl rfl rfl (by kernel_rfl) (by kernel_rfl) f1) rfl ⟨aA,uo,to_,by rw[HP.out];rfl,by rw[HP.out];exact HF.out.1,HF.out.2⟩)
 | false=>
  obtain⟨rfl,rfl,rfl⟩:d1=false/\d2=false/\d3=false:=by cases d1<;>cases d2<;>cases d3<;>simp at hD<;>exact⟨rfl,rfl,rfl⟩
  have hx0:x=0:=by simpa using hd1
  have hk2:m.k=2:=by simpa using hd2
  have hcl:m.cl=cl:=by simpa using hd3
  obtain⟨hI,hen,hU⟩:IsMsg b (m.k,m.vi,m.cl,m.nu)/\(m.rs.en<=1000/\SmallE c.rs.ents)/\U64M m c:=by
   rcases HX.out with ⟨-,h1,h2,h3⟩ | ⟨h,-⟩
   ·exact⟨h1,h2 hk2,h3⟩
   rw[hx0] at h;cases h
  have HP:Hid (lD d cl b p=if p.un=true/\p.num=m.nu then (⟨p.num,max p.vi m.vi,m.nu,p.dr,false,true⟩,true) else (⟨p.num,max p.vi m.vi,p.la,p.dr,p.un,p.told⟩,false)):=hid (by
   unfold lD;rw[(hd b).1 _ hI];dsimp only;rw[if_pos ⟨hk2,hcl⟩])
  clear hd1 hd2 hd3 hD HX hx0 hk2 hcl hI hU;go_wp2_with fail;have b3:(World.drew wc).heap[sb]?=some (SV.box ⟨cl,5,p.num,uo,p.vi,p.la,to_,p.dr⟩):=T3.s;have s0:SesC sb mb (SV.mk cl 5 p.num uo p.vi p.la to_ p.dr) m (World.drew wc):=⟨T3.s,T3.q⟩
  have T4:=T3.later (Below.refl _ _).drew;refine ed (k:=10) (S:=SesC sb mb (SV.mk cl 5 p.num uo p.vi p.la to_ p.dr) m) hmo ?_;change dh _ _ _ _ _ _ _ _ _ (World.drew _);clear T3 b3 HB;generalize World.drew wc=V0 at *;obtain⟨-,-,-,-,s4,-,-,-,sf⟩:=bG T4.s;refine zTp 0 (.pointer (some ⟨sb,0,none⟩)) rfl s0 ?_;go_simp;refine zTp 1 (.pointer (some ⟨sb,0,none⟩)) rfl s0 ?_;go_simp;refine zTp 2 (.pointer (some ⟨sb,0,none⟩)) rfl s0 ?_;go_simp;refine zTp 3 (.pointer (some ⟨sb,4,none⟩)) rfl s0 ?_;go_simp;refine zTa 4 (.int .u64 p.vi) rfl (by rintro w h;obtain⟨h1,h2,h3⟩:=h.cells;go_simp) s0 ?_;go_simp;refine zTp 5 (.pointer (some ⟨mb,1,none⟩)) rfl s0 ?_;go_simp;refine zTa 6 (.int .u64 m.vi) rfl (by rintro w h;obtain⟨h1,h2,h3⟩:=h.cells;go_simp) s0 ?_;go_simp;refine zTa 7 (.int .u64 (max p.vi m.vi)) rfl (by rintro w h;obtain⟨h1,h2,h3⟩:=h.cells;go_simp;rw[Int.max_def];split<;>split<;>omega) s0 ?_;go_simp;refine zTp 8 (.pointer (some ⟨sb,0,none⟩)) rfl s0 ?_;go_simp;refine zTp 9 (.pointer (some ⟨sb,4,none⟩)) rfl s0 ?_;go_simp;refine dH (by kernel_rfl) (by kernel_rfl) ?_;refine zA1 10 rfl (fun K hK=>?_);go_simp;refine hK _ _ ?_;clear hK K;refine wpAny_done (by kernel_rfl) ?_ _;clear s0 s4 sf;go_upto_region 8 with fail;generalize hg:World.setCell _ _ _=V1;have T5:TkC B sb rb mb (SV.mk cl 5 p.num uo (max p.vi m.vi) p.la to_ p.dr) m c w V1:=by
   have hq:=T4.o.set T4.le 4 (.int .u64 (max p.vi m.vi));have hs:=(Oth.refl B sb V0).set T4.le 4 (.int .u64 (max p.vi m.vi));rw[hg] at hq hs;refine⟨?_,?_,?_,?_,hq,T4.hm,T4.hz,T4.lo,T4.le⟩
   ·rw[<-hg];have:=T4.s;unfold SV.box SV.cells at this ⊢;exact at_set this
   ·rw[<-hg];exact af T4.z (Ne.symm T4.hz)
   ·rw[<-hg];exact af T4.q (Ne.symm T4.hm)
   exact T4.at_.sess T4.s hs
  clear T4 hg;generalize hQ:decide (p.un=true/\p.num=m.nu)=Q;have HT5:=hid T5;have HQ:=hid hQ;clear hQ;go_cut [68] from 9 (fun v wk=>v=.bool (!Q)/\TkC B sb rb mb (SV.mk cl 5 p.num uo (max p.vi m.vi) p.la to_ p.dr) m c w wk)
  case first=>
   obtain⟨-,-,-,s3,-⟩:=bG T5.s;have c5:=(McAt.of T5.q).c5;obtain⟨hu1,-⟩:=HS.out.held HS.out.box T5.o;obtain⟨bu,hbu⟩:∃bu,p.un=bu:=⟨_,rfl⟩
   clear T5;cases bu with
   | false=>
    obtain rfl:=HS.out.un0 hbu;have hq:=HQ.out;rw[decide_eq_false (by rw[hbu];rintro⟨h,-⟩;cases h)] at hq;subst hq;have pe:=eqlNil;clear hu1 hbu
    go_quiet (fail)
    go_wp2_with fail;go_meet
    case rel=>exact⟨rfl,HT5.out.later (below_drewN (Below.refl _ _) _)⟩
   | true=>
    obtain⟨ub,u,cc,rfl,hub,-⟩:=hu1 hbu;obtain⟨-,r1,-⟩:=gq hub;dsimp only at r1 s3;have pe:=Ii ⟨ub,0,none⟩;obtain⟨dn,hdn⟩:∃dn,(p.num != m.nu)=dn:=⟨_,rfl⟩
    have hq:Q=!dn:=by
     rw[<-HQ.out,<-hdn,hbu,Bool.eq_iff_iff];simp
    subst hq;clear hu1 hbu hub;cases dn
    all_goals
     go_quiet (fail)
     go_wp2_with fail;go_meet
     case rel=>exact⟨rfl,HT5.out.later (below_drewN (Below.refl _ _) _)⟩
  obtain⟨rfl,T6⟩:=hcut;clear T5 HT5;have hlo:=T6.lo;cases Q with
  | false=>
   have z4:=T6.z;have o4:=T6.o.set2 (by have:=T6.le;have:=HLT.out;omega) hlo aA.cells;have f1:(wc.setRow rb aA.cells).heap[rb]?=some (.cells aA.cells 39):=aT z4;have S5:SAt (wc.setRow rb aA.cells) B sb cl ⟨p.num,max p.vi m.vi,p.la,p.dr,p.un,p.told⟩ uo to_:=HS.out.own o4 rfl rfl rfl ((setRow_other _ _ _ _ T6.hz).trans T6.s);have HF:=hid (And.intro S5 o4);have HR:Hid (lD d cl b p=(⟨p.num,max p.vi m.vi,p.la,p.dr,p.un,p.told⟩,false)):=hid (by rw[HP.out,if_neg (of_decide_eq_false HQ.out)]);clear S5 o4 T6 HP;go_wp2_with (refine zSr rfl z4 ?_;go_simp;(repeat go_step);exact bodyPost_ret (w:=wc.setRow rb aA.cells) (aI (i:=4) (j:=5) (t:=39) rfl rfl rfl (by kernel_rfl) (by kernel_rfl) f1) rfl ⟨aA,uo,to_,by rw[HR.out];rfl,by rw[HR.out];exact HF.out.1,HF.out.2⟩)
  | true=>
   have HR:Hid (lD d cl b p=(⟨p.num,max p.vi m.vi,m.nu,p.dr,false,true⟩,true)):=hid (by rw[HP.out,if_pos (of_decide_eq_true HQ.out)]);have c15:=(McAt.of T6.q).c15;have c16:=(McAt.of T6.q).c16;have c17:=(McAt.of T6.q).c17;have c18:=(McAt.of T6.q).c18;have hc:=pG m.rs c.rs wc T6.at_ (by have:=hen.1;omega) hen.2;unfold QV.val QV.cells at hc;have HT6:=hid T6;clear T6 HP;go_wp2_with fail;refine hc.mono ?_;rintro e W7 ⟨u,l,rfl,hu7,hsr,hue,-,hfr,hb7⟩;have T7:=HT6.out.later hb7;have HW:=hid (And.intro (Array.getElem?_eq_some_iff.1 HT6.out.s).1 (And.intro (Array.getElem?_eq_some_iff.1 HT6.out.z).1 hb7.size));have hse:SmallE l:=(by
    unfold aN at hsr;simp only[Bool.and_eq_true] at hsr;exact hen.2.same hsr.2.2.1)
   have HFR:=hid (And.intro hfr (And.intro (show u.en<=1000000 by have:=hen.1;omega) hse));clear hsr hse hc hb7 c15 c16 c17 c18 hfr hue HT6;unfold QV.val QV.cells;go_upto_region 11 with (refine zNr rfl ?_;go_simp);generalize hg:W7.alloc _=W8;have e8:W7.alloc u.box=W8:=hg;have hb8:Below W7.heap.size W7 W8:=by rw[<-e8];exact (Below.refl _ _).alloc (Nat.le_refl _) _
   have q8:W8.heap[W7.heap.size]?=some u.box:=by rw[<-e8];exact at_new _ _
   have hu8:=hu7.later hb8;have T8:=T7.later hb8;have HZ8:=hid (And.intro (Array.getElem?_eq_some_iff.1 q8).1 hb8.size);clear hg e8 hb8 hu7 T7;obtain⟨tb,htb⟩:∃tb,W7.heap.size=tb:=⟨_,rfl⟩
   rw[htb] at q8 ⊢;have HTB:=hid htb;clear htb;go_wp2_with fail;have s0:PH mb m (World.drew W8):=T8.q;have T9:=T8.later (Below.refl _ _).drew;have hX9:BelX W8.heap.size [rb,sb] W8 (World.drew W8):=BelX.of_below (Below.refl _ _).drew _;have q9:(World.drew W8).heap[tb]?=some u.box:=q8;refine wp_region_held (S:=PH mb m) hmo ?_;change wpAnyH _ _ _ _ _ _ _ _ (World.drew _);clear T8;generalize World.drew W8=V0 at *;obtain⟨-,-,-,s3,-,s5,s6,-,sf⟩:=bG T9.s;have hm:=T9.hm;refine zHp 0 (.pointer (some ⟨sb,0,none⟩)) rfl s0 ?_;go_simp;refine zHp 1 (.pointer (some ⟨sb,0,none⟩)) rfl s0 ?_;go_simp;refine zHp 2 (.pointer (some ⟨sb,0,none⟩)) rfl s0 ?_;go_simp;refine zHp 3 (.pointer (some ⟨mb,5,none⟩)) rfl s0 ?_;go_simp;refine zHa 4 (.int .u64 m.nu) rfl (by rintro w h;have h5:=(McAt.of h).c5;go_simp) s0 ?_;go_simp;refine zHp 5 (.pointer (some ⟨sb,0,none⟩)) rfl s0 ?_;go_simp;refine zHp 6 (.pointer (some ⟨sb,3,none⟩)) rfl s0 ?_;go_simp;refine zH1 7 rfl (fun K hK=>?_);go_simp;have s1:=af (i:=3) (x:=.pointer none) s0 hm.symm;refine hK _ _ ⟨s1,?_⟩;clear hK K;refine zHp 8 (.pointer (some ⟨sb,0,none⟩)) rfl s1 ?_;go_simp;refine zHp 9 (.pointer (some ⟨sb,5,none⟩)) rfl s1 ?_;go_simp;refine zH1 10 rfl (fun K hK=>?_);go_simp;have s2:=af (i:=5) (x:=.int .u64 m.nu) s1 hm.symm;refine hK _ _ ⟨s2,?_⟩;clear hK K;refine zHp 11 (.pointer (some ⟨sb,0,none⟩)) rfl s2 ?_;go_simp;refine zHp 12 (.pointer (some ⟨sb,6,none⟩)) rfl s2 ?_;go_simp;refine zH1 13 rfl (fun K hK=>?_);go_simp;have s3':=af (i:=6) (x:=.pointer (some ⟨tb,0,none⟩)) s2 hm.symm;refine hK _ _ ⟨s3',?_⟩;clear hK K;refine wpAnyH_done (by kernel_rfl) ?_ _;have HH:=hid s3';clear s3 s5 s6 sf s0 s1 s2 s3' q8;have o10:=((T9.o.set T9.le 3 (.pointer none)).set T9.le 5 (.int .u64 m.nu)).set T9.le 6 (.pointer (some ⟨tb,0,none⟩));have X10:=((hX9.set sb 3 (.pointer none) (.inl (by simp))).set sb 5 (.int .u64 m.nu) (.inl (by simp))).set sb 6 (.pointer (some ⟨tb,0,none⟩)) (.inl (by simp));have hts:tb≠sb:=by have:=HTB.out;have:=HW.out;omega
   have htr:tb≠rb:=by have:=HTB.out;have:=HW.out;omega
   have b10:(((V0.setCell ⟨sb,3,none⟩ (.pointer none)).setCell ⟨sb,5,none⟩ (.int .u64 m.nu)).setCell ⟨sb,6,none⟩ (.pointer (some ⟨tb,0,none⟩))).heap[sb]?=some (SV.box ⟨cl,5,p.num,none,max p.vi m.vi,m.nu,some ⟨tb,0,none⟩,p.dr⟩):=(at_set (i:=6) (x:=.pointer (some ⟨tb,0,none⟩)) (at_set (i:=5) (x:=.int .u64 m.nu) (at_set (i:=3) (x:=.pointer none) T9.s))).trans (by kernel_rfl);have z10:=af (i:=6) (x:=.pointer (some ⟨tb,0,none⟩)) (af (i:=5) (x:=.int .u64 m.nu) (af (i:=3) (x:=.pointer none) T9.z (Ne.symm T9.hz)) (Ne.symm T9.hz)) (Ne.symm T9.hz);have q10:=af (i:=6) (x:=.pointer (some ⟨tb,0,none⟩)) (af (i:=5) (x:=.int .u64 m.nu) (af (i:=3) (x:=.pointer none) q9 hts) hts) hts;have hle:=T9.le;have hzr:=T9.hz;clear T9 q9 hX9;generalize ((V0.setCell ⟨sb,3,none⟩ (.pointer none)).setCell ⟨sb,5,none⟩ (.int .u64 m.nu)).setCell ⟨sb,6,none⟩ (.pointer (some ⟨tb,0,none⟩))=W10 at *;have hu10:QAt W10 u ⟨l,c.rs.cursor⟩:=hu8.freshX HFR.out.1 X10 (Nat.le_refl _) (by have:=HW.out;intro k hk;simp only[List.mem_cons,List.not_mem_nil,or_false] at hk;rcases hk with rfl|rfl<;>omega);have hc:=pG u _ W10 hu10 HFR.out.2.1 HFR.out.2.2;unfold QV.val QV.cells at hc;go_wp2_with (refine zLr rfl q10 ?_;go_simp);refine hc.mono ?_;rintro e W11 ⟨u2,l2,rfl,-,-,-,-,-,hb11⟩;have hz10:=X10.size;have z11:=(hb11.block _ (Array.getElem?_eq_some_iff.1 z10).1).trans z10;have q11:=(hb11.block _ (Array.getElem?_eq_some_iff.1 q10).1).trans q10;have b11:=(hb11.block _ (Array.getElem?_eq_some_iff.1 b10).1).trans b10;have o11:=(o10.later (by have:=(Array.getElem?_eq_some_iff.1 b10).1;omega) hb11).set2 (by have:=HLT.out;omega) hlo u2.cells;have X11:=vY (X10.trans ((BelX.of_below hb11 [rb,sb]).mono hz10 (fun _ hk _=>hk))) rb u2.cells (by simp);have f1:(W11.setRow rb u2.cells).heap[rb]?=some (.cells u2.cells 39):=aT z11;have hu11:QAt (W11.setRow rb u2.cells) u ⟨l,c.rs.cursor⟩:=hu8.freshX HFR.out.1 X11 (Nat.le_refl _) (by have:=HW.out;intro k hk;simp only[List.mem_cons,List.not_mem_nil,or_false] at hk;rcases hk with rfl|rfl<;>omega);have S5:SAt (W11.setRow rb u2.cells) B sb cl ⟨p.num,max p.vi m.vi,m.nu,p.dr,false,true⟩ none (some ⟨tb,0,none⟩):=
    ⟨(setRow_other _ _ _ _ hzr).trans b11,hle,(fun h=>by cases h),fun _=>rfl,fun _=>⟨tb,u,_,rfl,(setRow_other _ _ _ _ htr).trans q11,hu11,HFR.out.2⟩,(fun h=>by cases h)⟩
   have HF:=hid (And.intro S5 o11);clear S5 o11 X11 hu11 b11 q11 X10 hu10 hu8 b10 q10 z10 hc hb11;unfold QV.val QV.cells;go_wp2_with (refine zSr rfl z11 ?_;go_simp;(repeat go_step);exact bodyPost_ret (w:=W11.setRow rb u2.cells) (aI (i:=4) (j:=5) (t:=39) rfl rfl rfl (by kernel_rfl) (by kernel_rfl) f1) rfl ⟨u2,none,some ⟨tb,0,none⟩,by rw[HR.out];rfl,by rw[HR.out];exact HF.out.1,HF.out.2⟩)
theorem sD {f:Func}{i j k:Nat}{t:TypeId}{tmps:Array Value}{W:World}{b:Nat}{cs:Array Value}{u v:Value}(hr:f.results=#[.tmp k,.cell i t,.tmp j])(hp:tmps.getD i undef=.pointer (some ⟨b,0,none⟩))(hk:tmps.getD k undef=u)(hv:tmps.getD j undef=v)
  (hu:ku Tryz.prog t=true) (hi:(Tryz.prog.info? t).map (·.size)=some cs.size) (h:W.heap[b]?=some (.cells cs t)):(results f tmps).run Tryz.prog W=.ok (.tuple #[u,.agg cs,v]) W:=by
 obtain⟨d,h1,h2⟩:=lN hu;have hl:(loadVar t ⟨b,0,none⟩).run Tryz.prog W=.ok (.agg cs) W:=by
  cases d<;>first | exact run_loadVar_row W b t t cs _ _ h h1 rfl hi | cases h2
 have hp':tmps[i]?.getD undef=.pointer (some ⟨b,0,none⟩):=by simpa using hp
 have hv':tmps[j]?.getD undef=v:=by simpa using hv
 have hk':tmps[k]?.getD undef=u:=by simpa using hk
 simp only[results,hr];simp[hp',hv',hk',asAddr,hl,Result.andThen]
theorem Fp (a:Addr)(w:World):Sem.run Tryz.prog (binOp BinOp.eql 26 (.pointer (some a)) (.pointer none)) w=.ok (.bool false) w:=by kernel_rfl
theorem rQ (S:SV)(g:Nat)(w:World)(h:w.heap[g]?=some S.box):Calls Tryz.prog 21 #[.pointer (some ⟨g,0,none⟩)] w fun e w'=>e=.returned (.int .u64 S.vi)/\w'=w:=by
 obtain⟨c0,c1,c2,c3,c4,c5,c6,c7,-⟩:=bG h;have hpe:=Fp ⟨g,0,none⟩;go_in;go_wp2_with fail;go_ret;exact⟨rfl,rfl⟩
theorem qx (S:SV)(g:Nat)(w:World)(h:w.heap[g]?=some S.box):Calls Tryz.prog 22 #[.pointer (some ⟨g,0,none⟩)] w fun e w'=>e=.returned (.int .u64 S.num)/\w'=w:=by
 obtain⟨c0,c1,c2,c3,c4,c5,c6,c7,-⟩:=bG h;have hpe:=Fp ⟨g,0,none⟩;go_in;go_wp2_with fail;go_ret;exact⟨rfl,rfl⟩
theorem lZ (S:SV)(g:Nat)(w:World)(h:w.heap[g]?=some S.box):Calls Tryz.prog 23 #[.pointer (some ⟨g,0,none⟩)] w fun e w'=>e=.returned (.int .i64 S.dr)/\w'=w:=by
 obtain⟨c0,c1,c2,c3,c4,c5,c6,c7,-⟩:=bG h;have hpe:=Fp ⟨g,0,none⟩;go_in;go_wp2_with fail;go_ret;exact⟨rfl,rfl⟩
def Gj (p:PS)(w:World)(e:Ending)(w':World):Prop:=∃q:QV,e=.returned (.tuple #[.int .u64 p.la,q.val,.bool p.told])/\Below w.heap.size w w'
theorem Pq (a:Addr)(w:World):Sem.run Tryz.prog (binOp BinOp.eql 96 (.pointer (some a)) (.pointer none)) w=.ok (.bool false) w:=by kernel_rfl
theorem Nq (w:World):Sem.run Tryz.prog (binOp BinOp.eql 96 (.pointer none) (.pointer none)) w=.ok (.bool true) w:=by kernel_rfl
def LsC (sb tb rb:Nat)(S:SV)(v:QV)(W:World):Prop:=W.heap[sb]?=some S.box/\W.heap[tb]?=some v.box/\W.heap[rb]?=some aA.box
theorem LsC.step {sb tb rb:Nat}{S:SV}{v:QV}{W W':World}(h:LsC sb tb rb S v W)(hb:Below W.heap.size W W'):LsC sb tb rb S v W':=
 ⟨(hb.block _ (Array.getElem?_eq_some_iff.1 h.1).1).trans h.1,(hb.block _ (Array.getElem?_eq_some_iff.1 h.2.1).1).trans h.2.1,(hb.block _ (Array.getElem?_eq_some_iff.1 h.2.2).1).trans h.2.2⟩
theorem last_any (B sb:Nat)(cl:Int)(p:PS)(K:Int)(uo to_:Option Addr)(w:World)(hS:SAt w B sb cl p uo to_)(hp:p.Ok K):Calls Tryz.prog 18 #[.pointer (some ⟨sb,0,none⟩)] w (Gj p w):=by
 have hmo:Tryz.prog.follows .mixedOrders=true:=by kernel_rfl
 have hb0:Below w.heap.size w (w.alloc aA.box):=(Below.refl _ _).alloc (Nat.le_refl _) _;have k0:(w.alloc aA.box).heap[w.heap.size]?=some aA.box:=at_new _ _;have hS0:=hS.later hb0;unfold aA QV.box QV.cells at hb0 k0 hS0;dsimp only at hb0 k0 hS0;clear hS;go_in;go_upto_region 1 with fail;generalize hg:w.alloc _=W0 at *;have k0f:W0.heap[w.heap.size]?=some aA.box:=k0;clear hg k0;go_wp2_with fail;refine (jc _ sb W0 hS0.box).mono ?_;rintro e w1 ⟨rfl,rfl⟩;have h5:decide ((0:Int)<5)=true:=rfl;obtain⟨-,-,-,-,-,s5,s6,-,sf⟩:=bG hS0.box;obtain⟨bt,hbt⟩:∃bt,p.told=bt:=⟨_,rfl⟩
 have HBT:=hid hbt;cases bt with
 | false=>
  obtain rfl:=hS0.to0 hbt;have HLA:=hid (hp.to0 hbt);have f1:(w1.setRow w.heap.size aA.cells).heap[w.heap.size]?=some (.cells aA.cells 39):=aT k0f;have hb1:=below_setRow hb0 (Nat.le_refl _) aA.cells;have pe:=Nq;clear hb0 hS0 hbt;go_wp2_with (refine zSr rfl k0f ?_;go_simp;(repeat go_step);exact bodyPost_ret (w:=w1.setRow w.heap.size aA.cells) (sD (k:=2) (i:=3) (j:=4) (t:=39) rfl rfl rfl rfl (by kernel_rfl) (by kernel_rfl) f1) rfl ⟨aA,by rw[HBT.out,HLA.out];rfl,hb1⟩)
 | true=>
  obtain⟨tb,v,c,rfl,q0,hv,hen⟩:=hS0.to1 hbt;have pe:=Pq ⟨tb,0,none⟩;have s0:LsC sb tb w.heap.size (SV.mk cl 5 p.num uo p.vi p.la (some ⟨tb,0,none⟩) p.dr) v (World.drew w1):=⟨hS0.box,q0,k0f⟩
  have hvD:QAt (World.drew w1) v c:=hv.later (Below.refl _ _).drew;have bD:Below w.heap.size w (World.drew w1):=hb0.drew;have hzD:w.heap.size<=(World.drew w1).heap.size:=hb0.size;clear hS0 q0 hv hbt;go_wp2_with fail;refine ed (k:=12) (S:=LsC sb tb w.heap.size (SV.mk cl 5 p.num uo p.vi p.la (some ⟨tb,0,none⟩) p.dr) v) hmo ?_;change dh _ _ _ _ _ _ _ _ _ (World.drew _);clear s5 s6 sf pe hb0 k0f;generalize World.drew w1=V0 at *;refine zTp 0 (.pointer (some ⟨sb,0,none⟩)) rfl s0 ?_;go_simp;refine zTp 1 (.pointer (some ⟨sb,0,none⟩)) rfl s0 ?_;go_simp;refine zTp 2 (.pointer (some ⟨sb,5,none⟩)) rfl s0 ?_;go_simp;refine zTa 3 (.int .u64 p.la) rfl (by rintro w h;obtain⟨-,-,-,-,-,h5,h6,-⟩:=bG h.1;obtain⟨h7,h8,h9,h10,-⟩:=aj h.2.1;go_simp) s0 ?_;go_simp;refine zTp 4 (.pointer (some ⟨sb,0,none⟩)) rfl s0 ?_;go_simp;refine zTp 5 (.pointer (some ⟨sb,0,none⟩)) rfl s0 ?_;go_simp;refine zTp 6 (.pointer (some ⟨sb,6,none⟩)) rfl s0 ?_;go_simp;refine zTa 7 (.pointer (some ⟨tb,0,none⟩)) rfl (by rintro w h;obtain⟨-,-,-,-,-,h5,h6,-⟩:=bG h.1;obtain⟨h7,h8,h9,h10,-⟩:=aj h.2.1;go_simp) s0 ?_;go_simp;refine zTp 8 (.pointer (some ⟨tb,0,none⟩)) rfl s0 ?_;go_simp;refine zTa 9 (.agg #[.int .i64 v.code,.bool v.yes,.slice v.eo v.en v.ec,.slice v.co v.cn v.cc]) rfl (by rintro w h;obtain⟨-,-,-,-,-,h5,h6,-⟩:=bG h.1;obtain⟨h7,h8,h9,h10,-⟩:=aj h.2.1;go_simp) s0 ?_;go_simp;refine zT1 10 rfl (fun K hK=>?_);go_simp;have hc:=pG v c _ hvD hen.1 hen.2;unfold QV.val QV.cells at hc;refine hc.mono ?_;rintro e VA ⟨u,l,rfl,-,-,-,-,-,hbA⟩;have sA:=s0.step hbA;have bF:=below_setRow (bD.trans (hbA.mono hzD)) (Nat.le_refl _) u.cells;clear hc hbA;go_simp;refine hK _ _ ⟨.inr sA,?_⟩;clear hK K;refine zTp 11 (.int .u64 p.la) rfl sA ?_;go_simp;refine dH (by kernel_rfl) (by kernel_rfl) ?_;refine zA1 12 rfl (fun K hK=>?_);refine lL (cells:=u.cells) rfl rfl sA.2.2 rfl rfl (by kernel_rfl) rfl (by kernel_rfl) ?_;refine hK _ _ ?_;clear hK K;refine zA1 13 rfl (fun K hK=>?_);go_simp;refine hK _ _ ?_;clear hK K;refine wpAny_done (by kernel_rfl) ?_ _;have HF:=hid bF;have f1:(VA.setRow w.heap.size u.cells).heap[w.heap.size]?=some (.cells u.cells 39):=aT sA.2.2;clear bF sA;go_wp2_with fail;exact bodyPost_ret (w:=VA.setRow w.heap.size u.cells) (sD (k:=2) (i:=3) (j:=4) (t:=39) rfl rfl rfl rfl (by kernel_rfl) (by kernel_rfl) f1) rfl ⟨u,by rw[HBT.out];rfl,HF.out⟩
def wZ (B:Nat)(cl:Int)(p:PS)(uo to_:Option Addr)(w:World)(e:Ending)(w':World):Prop:=
 ∃ob:Nat,e=.returned (.pointer (some ⟨ob,0,none⟩))/\w.heap.size<=ob/\SAt w' B ob cl p uo to_/\Below w.heap.size w w'
theorem Iq (B sb:Nat)(cl:Int)(p:PS)(uo to_:Option Addr)(w:World)(hS:SAt w B sb cl p uo to_):Calls Tryz.prog 42 #[.pointer (some ⟨sb,0,none⟩)] w (wZ B cl p uo to_ w):=by
 have q0:=hS.box;have hlt:=(Array.getElem?_eq_some_iff.1 q0).1;have hle:=hS.le;have hb:Below w.heap.size w (w.alloc (SV.box ⟨cl,5,p.num,uo,p.vi,p.la,to_,p.dr⟩)):=(Below.refl _ _).alloc (Nat.le_refl _) _;have hn:=at_new w (SV.box ⟨cl,5,p.num,uo,p.vi,p.la,to_,p.dr⟩);have hS1:=hS.later hb;have HF:Hid (wZ B cl p uo to_ w (.returned (.pointer (some ⟨w.heap.size,0,none⟩))) (w.alloc (SV.box ⟨cl,5,p.num,uo,p.vi,p.la,to_,p.dr⟩))):=hid ⟨_,rfl,Nat.le_refl _,⟨hn,by omega,hS1.un1,hS1.un0,hS1.to1,hS1.to0⟩,hb⟩;clear hS hS1 hb hn hlt hle;unfold SV.box SV.cells at HF;dsimp only at HF;go_in;go_wp2_with fail;refine (jc _ sb w q0).mono ?_;rintro e w1 ⟨rfl,rfl⟩;have h5:decide ((0:Int)<5)=true:=rfl;unfold SV.box SV.cells at q0;dsimp only at q0;go_wp2_with (first | (refine zLr rfl q0 ?_;go_simp) | (refine zNr rfl ?_;go_simp));go_ret;exact HF.out
theorem KA (B sb:Nat)(cl:Int)(p:PS)(K:Int)(uo to_:Option Addr)(w:World)(hS:SAt w B sb cl p uo to_)(hp:p.Ok K)(hc0:0<=cl)(hc1:cl<18446744073709551616)(hK:K<=1000):Calls Tryz.prog 15 #[.pointer (some ⟨sb,0,none⟩)] w fun e w'=>(∃v,e=.returned v)/\Below w.heap.size w w':=by
 obtain⟨bu,hbu⟩:∃bu,p.un=bu:=⟨_,rfl⟩
 obtain⟨-,s1,-,s3,-⟩:=bG hS.box;have h5:decide ((0:Int)<5)=true:=rfl;go_in;go_wp2_with fail;refine (jc _ sb w hS.box).mono ?_;rintro e w1 ⟨rfl,rfl⟩;cases bu with
 | false=>
  obtain rfl:=hS.un0 hbu;have pe:=eqlNil;clear hS hp hbu;go_wp2_with fail;go_ret;exact⟨⟨_,rfl⟩,Below.refl _ _⟩
 | true=>
  obtain⟨rb,u,c,rfl,hr,ho,hm⟩:=hS.un1 hbu;have pe:=Ii ⟨rb,0,none⟩;have ht:=EY (SV.mk cl 5 p.num (some ⟨rb,0,none⟩) p.vi p.la to_ p.dr) sb rb ⟨cl,p.num,u⟩ c 0 5 w1 hS.box rfl hr ho hm ⟨hc0,hc1,hp.num.1,by have:=hp.num.2;show p.num<18446744073709551616;omega⟩ (by decide) (by decide) (by decide);clear hS hp hbu hr ho hm;go_wp2_with fail;refine ht.mono ?_;rintro e w2 ⟨l,ov,rfl,-,-,hb⟩;go_wp2_with fail;go_ret;exact⟨⟨_,rfl⟩,hb⟩
end Go.Proofs.YtfmmandlmbcncaaGreatDoor.Msg
