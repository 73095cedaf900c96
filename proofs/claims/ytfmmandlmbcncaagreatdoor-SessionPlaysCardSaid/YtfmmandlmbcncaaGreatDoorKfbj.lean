/-A part of the proof.-/
import Derived.Test.YtfmmandlmbcncaaGreatDoorKfbi
set_option maxHeartbeats 40000000
set_option maxRecDepth 100000
set_option linter.all false
namespace Go.Proofs.YtfmmandlmbcncaaGreatDoor
namespace Msg
open Go.RowKit Go.Lib Mem Tlv
variable{S:SV}{W W' w:World}{m:MV}{mb rb sb:Nat}
def uk (b:List UInt8)(m:MV)(c:MC):Prop:=∃W:World,MAt W m c/\U64M m c/\FitsM m c/\bY m c=true/\dL m c=b
def Jd (d:List UInt8->Option (Int×Int×Int×Int))(B sb:Nat)(cl nd:Int)(p:PS)(K:Kn)(b:List UInt8)(w:World)(e:Ending)(w':World):Prop:=
 ∃(q:QV) (qc:QC) (uo to_:Option Addr),e=.returned (.tuple #[q.val,.bool (fQ d cl b p).2])/\Oth B sb w w'/\QAt w' q qc/\FreshQ w.heap.size q qc.ents /\
  ((fQ d cl b p).2=false->SAt w' B sb cl nd (fQ d cl b p).1 K uo to_) /\
  ((fQ d cl b p).2=true->∃(m:MV) (c:MC),uk b m c/\aF q qc m.rs c.rs=true/\SAt w' B sb cl nd (fQ d cl b p).1 ⟨K.ov,K.oc,m.rs,c.rs,K.M⟩ uo to_)
theorem D5(a:Addr)(w:World):Sem.run Tryz.prog (binOp BinOp.eql 95 (.pointer (some a)) (.pointer none)) w=.ok (.bool false) w:=by kernel_rfl
theorem eqlNil(w:World):Sem.run Tryz.prog (binOp BinOp.eql 95 (.pointer none) (.pointer none)) w=.ok (.bool true) w:=by kernel_rfl
structure TkC (B sb rb mb:Nat)(S:SV)(m:MV)(c:MC)(w W:World):Prop where
 s:W.heap[sb]?=some S.box
 z:W.heap[rb]?=some aG.box
 q:W.heap[mb]?=some m.box
 at_:QAt W m.rs c.rs
 o:Oth B sb w W
 hm:sb≠mb
 hz:sb≠rb
 lo:w.heap.size<=rb
 le:B<=sb
theorem TkC.later{B:Nat}{c:MC}(h:TkC B sb rb mb S m c w W)(hb:Below W.heap.size W W'):TkC B sb rb mb S m c w W':=
 ⟨(hb.q h.s),(hb.q h.z),af h.q hb,h.at_.later hb,h.o.later (by have:=lA h.s;have:=h.le;omega) hb,h.hm,h.hz,h.lo,h.le⟩
def SesC (sb mb:Nat)(S:SV)(m:MV)(W:World):Prop:=W.heap[sb]?=some S.box/\W.heap[mb]?=some m.box
theorem SesC.cells(h:SesC sb mb S m W):W.cell? ⟨sb,4,none⟩=some (.int .u64 S.vi)/\W.cell? ⟨mb,1,none⟩=some (.int .u64 m.vi)/\W.cell? ⟨mb,5,none⟩=some (.int .u64 m.nu):=by
 obtain⟨-,-,-,-,h4,-⟩:=dD h.1;exact⟨h4,(McAt.of h.2).c1,(McAt.of h.2).c5⟩
def uj (mb:Nat)(m:MV)(W:World):Prop:=W.heap[mb]?=some m.box
theorem take_any(d:List UInt8->Option (Int×Int×Int×Int))(hd:En d)(B sb:Nat)(cl:Int)(nd:Int)(hnd:0<nd)(p:PS)(N:Int)(K:Kn)(uo to_:Option Addr)(b:List UInt8)(ao:Option Addr)(n cap:Nat)(w:World)(hS:SAt w B sb cl nd p K uo to_)(hM:K.M<=w.heap.size)(hp:p.Ok N)(hK:N<=1000)(hr:Rd w 1 ao n cap (byV b))(hn:n<=8388608)(hE:ErrG w) :
  Calls Tryz.prog 50 #[.pointer (some ⟨sb,0,none⟩),.slice ao n cap] w (Jd d B sb cl nd p K b w):=by
 have hmo:=hmO
 have hlt:=lA hS.box;have hle:=hS.le;have hb0:=bN w aG.box;have k0:=aN w aG.box;have hS0:=hS.later hb0;have hr0:=hr.later hb0;have hE0:=hE.below hb0;unfold aG QV.box QV.cells at hb0 k0 hS0 hr0 hE0;dsimp only at hb0 k0 hS0 hr0 hE0;have HS:=hid hS;have HMM:=hid hM;clear hS hr hE;go_in;go_upto_region 1 with fail;generalize hg:w.alloc _=W0 at *;have k0f:W0.heap[w.heap.size]?=some aG.box:=k0;have HZ:=hid hb0.size;have HLT:=hid (yax hlt hle);clear hg k0 hlt hle;go_wp2_with fail;refine (jU _ sb W0 hS0.box).mono ?_;rintro e w1 ⟨rfl,rfl⟩;have h5:decide ((0:Int)<nd)=true:=yaa hnd;go_wp2_with fail;refine (QG b ao n cap w1 hr0 hn hE0).mono ?_;rintro e W1 ⟨hb1,hA1⟩;obtain⟨m,c,x,rfl,at1,hx⟩:∃(m:MV) (c:MC) (x:Int),e=.returned (.tuple #[m.val,.int .i64 x])/\MAt W1 m c/\((x=0/\IsMsg b (m.k,m.vi,m.cl,m.nu)/\(m.k=2->m.rs.en<=1000/\SmallE c.rs.ents)/\uk b m c)\/(x=4/\lm b)):=by
  rcases hA1 with ⟨m,c,rfl,a1,a2,-,a4,a5,a6⟩ | ⟨rfl,a1⟩
  ·exact⟨m,c,0,rfl,a1,.inl ⟨rfl,⟨_,m,c,a1,a2,a4,a5,a6,rfl⟩,fun hk=>NQ a1 a2 a4 a5 hk,⟨_,a1,a2,a4,a5,a6⟩⟩⟩
  exact⟨ay 0,dO,4,rfl,fE _ _,.inr ⟨rfl,a1⟩⟩
 have s1:=hb1.q hS0.box;have k1:=hb1.q k0f;have bel1:=hb0.trans (hb1.mono hb0.size);have HX:=hid hx;clear hS0 hr0 hE0 hb0 hb1 k0f hA1 hx;unfold MV.val MV.cells;go_upto_region 4 with (refine zNr rfl ?_;go_simp);generalize hg:W1.alloc _=W2;have e2:W1.alloc m.box=W2:=hg;have hb2:=bE e2
 have q2:W2.heap[W1.heap.size]?=some m.box:=aE e2
 have T2:TkC B sb w.heap.size W1.heap.size (SV.mk cl nd p.num uo p.vi p.la to_ p.dr) m c w W2:=
  ⟨(hb2.q s1),(hb2.q k1),q2,at1.rs.later hb2,(Oth.refl B sb w).later (by have:=HLT.out;omega) (bel1.trans (hb2.mono bel1.size)),by have:=HLT.out;have:=HZ.out;have:=bel1.size;omega,by have:=HLT.out;omega,yag _,HLT.out.2⟩
 clear hg e2 hb2 q2 s1 k1 at1 bel1 HZ;generalize W1.heap.size=mb at *;obtain⟨rb,hrb⟩:∃rb,w.heap.size=rb:=⟨_,rfl⟩
 rw[hrb] at T2 ⊢;have HRB:=hid hrb;clear hrb;obtain⟨d1,hd1⟩:∃d,(x != 0)=d:=⟨_,rfl⟩
 obtain⟨d2,hd2⟩:∃d,(m.k != 2)=d:=⟨_,rfl⟩
 obtain⟨d3,hd3⟩:∃d,(m.cl != cl)=d:=⟨_,rfl⟩
 have c0:=(McAt.of T2.q).c0;have c4:=(McAt.of T2.q).c4;obtain⟨s0,-⟩:=dD T2.s;have HT2:=hid T2;clear T2;go_cut [33] from 9 (fun v wk=>v=.bool (d1||d2||d3)/\TkC B sb rb mb (SV.mk cl nd p.num uo p.vi p.la to_ p.dr) m c w wk)
 case first=>
  cases d1<;>cases d2<;>cases d3
  all_goals
   go_quiet (fail)
   go_wp2_with fail;go_meet
   case rel=>exact⟨rfl,HT2.out.later (below_drewN (yaj _ _) _)⟩
 obtain⟨rfl,T3⟩:=hcut;clear c0 c4 s0 HT2;generalize hD:(d1||d2||d3)=D;have HB:=hid (yax T3.o T3.lo);cases D with
 | true=>
  have HP:Hid (fQ d cl b p=(⟨p.num,p.vi,p.la,p.dr+1,p.un,p.told⟩,false)):=hid (by
   unfold fQ;rcases HX.out with ⟨rfl,h1,-⟩ | ⟨rfl,h1⟩
   ·rw[(hd b).1 _ h1];dsimp only;rw[if_neg];rintro⟨e1,e2⟩;rw[e1] at hd2;rw[e2] at hd3;subst hd1 hd2 hd3;simp at hD
   rw[(hd b).2.1 h1])
  clear hd1 hd2 hd3 hD HX;obtain⟨-,-,-,-,-,-,-,s7,sf⟩:=dD T3.s;have hw:IntKind.wrap .i64 (p.dr+1)=p.dr+1:=by have:=hp.dr;rw[yaP];omega
  go_upto_region 6 with fail;generalize hg:World.setCell _ _ _=W4;have b4:W4.heap[sb]?=some (SV.box ⟨cl,nd,p.num,uo,p.vi,p.la,to_,p.dr+1⟩):=by rw[<-hg];have:=T3.s;unfold SV.box SV.cells at this ⊢;exact at_set this
  have z4:W4.heap[rb]?=some aG.box:=by rw[<-hg];exact ah T3.z (Ne.symm T3.hz)
  have o4:Oth B sb w (W4.setRow rb aG.cells):=by rw[<-hg];exact (HB.out.1.set T3.le 7 _).set2 (by have:=T3.le;have:=HB.out.2;have:=HLT.out;omega) HB.out.2 _
  have f1:(W4.setRow rb aG.cells).heap[rb]?=some (.cells aG.cells 39):=aO z4;have b5:(W4.setRow rb aG.cells).heap[sb]?=some (SV.box ⟨cl,nd,p.num,uo,p.vi,p.la,to_,p.dr+1⟩):=(yba _ _ _ _ T3.hz).trans b4;have S5:SAt (W4.setRow rb aG.cells) B sb cl nd ⟨p.num,p.vi,p.la,p.dr+1,p.un,p.told⟩ K uo to_:=HS.out.own o4 rfl rfl rfl b5;have HF:=hid (yax S5 o4);clear S5 o4 b5 b4 hg s7 sf T3 hw;go_wp2_with (refine zSr rfl z4 ?_;go_simp;(repeat go_step);exact yay (w:=W4.setRow rb aG.cells) (aj (i:=4) (j:=5) (t:=39) rfl rfl rfl (by kernel_rfl) (by kernel_rfl) f1) rfl ⟨aG,⟨[],[]⟩,uo,to_,by rw[HP.out];rfl,HF.out.2,(fE _ 0).rs,⟨fun _ h=>(by cases h),fun _ h=>(by cases h),fun _ h=>(by cases h)⟩,fun _=>by rw[HP.out];exact HF.out.1,fun h=>(by rw[HP.out] at h;cases h)⟩)
 | false=>
  obtain⟨rfl,rfl,rfl⟩:d1=false/\d2=false/\d3=false:=by cases d1<;>cases d2<;>cases d3<;>simp at hD<;>exact⟨rfl,rfl,rfl⟩
  have hx0:x=0:=by simpa using hd1
  have hk2:m.k=2:=by simpa using hd2
  have hcl:m.cl=cl:=by simpa using hd3
  obtain⟨hI,hen,hU⟩:IsMsg b (m.k,m.vi,m.cl,m.nu)/\(m.rs.en<=1000/\SmallE c.rs.ents)/\uk b m c:=by
   rcases HX.out with ⟨-,h1,h2,h3⟩ | ⟨h,-⟩
   ·exact⟨h1,h2 hk2,h3⟩
   rw[hx0] at h;cases h
  have HP:Hid (fQ d cl b p=if p.un=true/\p.num=m.nu then (⟨p.num,max p.vi m.vi,m.nu,p.dr,false,true⟩,true) else (⟨p.num,max p.vi m.vi,p.la,p.dr,p.un,p.told⟩,false)):=hid (by
   unfold fQ;rw[(hd b).1 _ hI];dsimp only;rw[if_pos ⟨hk2,hcl⟩])
  have HMO:=hid hU;clear hd1 hd2 hd3 hD HX hx0 hk2 hcl hI hU;go_wp2_with fail;have b3:(World.drew wc).heap[sb]?=some (SV.box ⟨cl,nd,p.num,uo,p.vi,p.la,to_,p.dr⟩):=T3.s;have s0:SesC sb mb (SV.mk cl nd p.num uo p.vi p.la to_ p.dr) m (World.drew wc):=⟨T3.s,T3.q⟩
  have T4:=T3.later (yaj _ _).drew;refine dN (k:=10) (S:=SesC sb mb (SV.mk cl nd p.num uo p.vi p.la to_ p.dr) m) hmo ?_;change bV _ _ _ _ _ _ _ _ _ (World.drew _);clear T3 b3 HB;generalize World.drew wc=V0 at *;obtain⟨-,-,-,-,s4,-,-,-,sf⟩:=dD T4.s;have zf0 w0 (h:SesC sb mb (SV.mk cl nd p.num uo p.vi p.la to_ p.dr) m w0):=h.cells;refine ztp 0 (pp sb 0) rfl (ztp 1 (pp sb 0) rfl (ztp 2 (pp sb 0) rfl (ztp 3 (pp sb 4) rfl ?_)));go_simp;refine ztv 4 (.int .u64 p.vi) rfl ?_;go_simp;refine ztp 5 (pp mb 1) rfl ?_;go_simp;refine ztv 6 (.int .u64 m.vi) rfl ?_;go_simp;refine zTa 7 (.int .u64 (max p.vi m.vi)) rfl (by intro w h;go_simp;rw[Int.max_def];split<;>split<;>omega) s0 ?_;go_simp;refine ztp 8 (pp sb 0) rfl (ztp 9 (pp sb 4) rfl ?_);go_simp;refine nM (by kernel_rfl) (by kernel_rfl) ?_;refine zA1 10 rfl (fun K hK=>?_);go_simp;refine hK _ _ ?_;clear hK K;refine yby (by kernel_rfl) ?_ _;clear s0 s4 sf;go_upto_region 8 with fail;generalize hg:World.setCell _ _ _=V1;have T5:TkC B sb rb mb (SV.mk cl nd p.num uo (max p.vi m.vi) p.la to_ p.dr) m c w V1:=by
   have hq:=T4.o.set T4.le 4 (.int .u64 (max p.vi m.vi));have hs:=(Oth.refl B sb V0).set T4.le 4 (.int .u64 (max p.vi m.vi));rw[hg] at hq hs;refine⟨?_,?_,?_,?_,hq,T4.hm,T4.hz,T4.lo,T4.le⟩
   ·rw[<-hg];have:=T4.s;unfold SV.box SV.cells at this ⊢;exact at_set this
   ·rw[<-hg];exact ah T4.z (Ne.symm T4.hz)
   ·rw[<-hg];exact ah T4.q (Ne.symm T4.hm)
   exact T4.at_.sess T4.s hs
  clear T4 hg;generalize hQ:decide (p.un=true/\p.num=m.nu)=Q;have HT5:=hid T5;have HQ:=hid hQ;clear hQ;go_cut [68] from 9 (fun v wk=>v=.bool (!Q)/\TkC B sb rb mb (SV.mk cl nd p.num uo (max p.vi m.vi) p.la to_ p.dr) m c w wk)
  case first=>
   obtain⟨-,-,-,s3,-⟩:=dD T5.s;have c5:=(McAt.of T5.q).c5;obtain⟨hu1,-⟩:=HS.out.held HS.out.box T5.o;obtain⟨bu,hbu⟩:∃bu,p.un=bu:=⟨_,rfl⟩
   clear T5;cases bu with
   | false=>
    obtain rfl:=HS.out.un0 hbu;have hq:=HQ.out;rw[yad (by rw[hbu];rintro⟨h,-⟩;cases h)] at hq;subst hq;have pe:=eqlNil;clear hu1 hbu
    go_quiet (fail)
    go_wp2_with fail;go_meet
    case rel=>exact⟨rfl,HT5.out.later (below_drewN (yaj _ _) _)⟩
   | true=>
    obtain⟨ub,u,cc,rfl,hub,-⟩:=hu1 hbu;obtain⟨-,r1,-⟩:=gY hub;dsimp only at r1 s3;have pe:=D5 ⟨ub,0,none⟩;obtain⟨dn,hdn⟩:∃dn,(p.num != m.nu)=dn:=⟨_,rfl⟩
    have hq:Q=!dn:=by
     rw[<-HQ.out,<-hdn,hbu,ybk];simp
    subst hq;clear hu1 hbu hub;cases dn
    all_goals
     go_quiet (fail)
     go_wp2_with fail;go_meet
     case rel=>exact⟨rfl,HT5.out.later (below_drewN (yaj _ _) _)⟩
  obtain⟨rfl,T6⟩:=hcut;clear T5 HT5;have hlo:=T6.lo;cases Q with
  | false=>
   have z4:=T6.z;have o4:=T6.o.set2 (by have:=T6.le;have:=HLT.out;omega) hlo aG.cells;have f1:(wc.setRow rb aG.cells).heap[rb]?=some (.cells aG.cells 39):=aO z4;have S5:SAt (wc.setRow rb aG.cells) B sb cl nd ⟨p.num,max p.vi m.vi,p.la,p.dr,p.un,p.told⟩ K uo to_:=HS.out.own o4 rfl rfl rfl ((yba _ _ _ _ T6.hz).trans T6.s);have HF:=hid (yax S5 o4);have HR:Hid (fQ d cl b p=(⟨p.num,max p.vi m.vi,p.la,p.dr,p.un,p.told⟩,false)):=hid (by rw[HP.out,if_neg (ybQ HQ.out)]);clear S5 o4 T6 HP;go_wp2_with (refine zSr rfl z4 ?_;go_simp;(repeat go_step);exact yay (w:=wc.setRow rb aG.cells) (aj (i:=4) (j:=5) (t:=39) rfl rfl rfl (by kernel_rfl) (by kernel_rfl) f1) rfl ⟨aG,⟨[],[]⟩,uo,to_,by rw[HR.out];rfl,HF.out.2,(fE _ 0).rs,⟨fun _ h=>(by cases h),fun _ h=>(by cases h),fun _ h=>(by cases h)⟩,fun _=>by rw[HR.out];exact HF.out.1,fun h=>(by rw[HR.out] at h;cases h)⟩)
  | true=>
   have HR:Hid (fQ d cl b p=(⟨p.num,max p.vi m.vi,m.nu,p.dr,false,true⟩,true)):=hid (by rw[HP.out,if_pos (yar HQ.out)]);have c15:=(McAt.of T6.q).c15;have c16:=(McAt.of T6.q).c16;have c17:=(McAt.of T6.q).c17;have c18:=(McAt.of T6.q).c18;have hc:=rY m.rs c.rs wc T6.at_ (by have:=hen.1;omega) hen.2;unfold QV.val QV.cells at hc;have HT6:=hid T6;clear T6 HP;go_wp2_with fail;refine hc.mono ?_;rintro e W7 ⟨u,l,rfl,hu7,hsr,hue,-,hfr,hb7⟩;have T7:=HT6.out.later hb7;have HW:=hid (yax (lA HT6.out.s) (yax (lA HT6.out.z) hb7.size));have hse:SmallE l:=(by
    unfold aF at hsr;simp only[yaq] at hsr;exact hen.2.same hsr.2.2.1)
   have HSR:=hid hsr;have HFR:=hid (yax hfr (yax (show u.en<=1000000 by have:=hen.1;omega) hse));clear hsr hse hc hb7 c15 c16 c17 c18 hfr hue HT6;unfold QV.val QV.cells;go_upto_region 11 with (refine zNr rfl ?_;go_simp);generalize hg:W7.alloc _=W8;have e8:W7.alloc u.box=W8:=hg;have hb8:=bE e8
   have q8:W8.heap[W7.heap.size]?=some u.box:=aE e8
   have hu8:=hu7.later hb8;have T8:=T7.later hb8;have HZ8:=hid (yax (lA q8) hb8.size);clear hg e8 hb8 hu7 T7;obtain⟨tb,htb⟩:∃tb,W7.heap.size=tb:=⟨_,rfl⟩
   rw[htb] at q8 ⊢;have HTB:=hid htb;clear htb;go_wp2_with fail;have s0:uj mb m (World.drew W8):=T8.q;have T9:=T8.later (yaj _ _).drew;have hX9:BelX W8.heap.size [rb,sb] W8 (World.drew W8):=BelX.of_below (yaj _ _).drew _;have q9:(World.drew W8).heap[tb]?=some u.box:=q8;refine yaB (S:=uj mb m) hmo ?_;change wpAnyH _ _ _ _ _ _ _ _ (World.drew _);clear T8;generalize World.drew W8=V0 at *;obtain⟨-,-,-,s3,-,s5,s6,-,sf⟩:=dD T9.s;have hm:=T9.hm;refine zp 0 (pp sb 0) rfl (zp 1 (pp sb 0) rfl (zp 2 (pp sb 0) rfl (zp 3 (pp mb 5) rfl ?_)));go_simp;refine zHa 4 (.int .u64 m.nu) rfl (by rintro w h;have h5:=(McAt.of h).c5;go_simp) s0 ?_;go_simp;refine zp 5 (pp sb 0) rfl (zp 6 (pp sb 3) rfl ?_);go_simp;refine zH1 7 rfl (fun K hK=>?_);go_simp;have s1:=ah (i:=3) (x:=.pointer none) s0 hm.symm;refine hK _ _ ⟨s1,?_⟩;clear hK K;refine zp 8 (pp sb 0) rfl (zp 9 (pp sb 5) rfl ?_);go_simp;refine zH1 10 rfl (fun K hK=>?_);go_simp;have s2:=ah (i:=5) (x:=.int .u64 m.nu) s1 hm.symm;refine hK _ _ ⟨s2,?_⟩;clear hK K;refine zp 11 (pp sb 0) rfl (zp 12 (pp sb 6) rfl ?_);go_simp;refine zH1 13 rfl (fun K hK=>?_);go_simp;have s3':=ah (i:=6) (x:=.pointer (some ⟨tb,0,none⟩)) s2 hm.symm;refine hK _ _ ⟨s3',?_⟩;clear hK K;refine zd ?_;have HH:=hid s3';clear s3 s5 s6 sf s0 s1 s2 s3' q8;have o10:=((T9.o.set T9.le 3 (.pointer none)).set T9.le 5 (.int .u64 m.nu)).set T9.le 6 (.pointer (some ⟨tb,0,none⟩));have X10:=((hX9.set sb 3 (.pointer none) (.inl (by simp))).set sb 5 (.int .u64 m.nu) (.inl (by simp))).set sb 6 (.pointer (some ⟨tb,0,none⟩)) (.inl (by simp));have hts:tb≠sb:=by have:=HTB.out;have:=HW.out;omega
   have htr:tb≠rb:=by have:=HTB.out;have:=HW.out;omega
   have b10:(((V0.setCell ⟨sb,3,none⟩ (.pointer none)).setCell ⟨sb,5,none⟩ (.int .u64 m.nu)).setCell ⟨sb,6,none⟩ (.pointer (some ⟨tb,0,none⟩))).heap[sb]?=some (SV.box ⟨cl,nd,p.num,none,max p.vi m.vi,m.nu,some ⟨tb,0,none⟩,p.dr⟩):=(at_set (i:=6) (x:=.pointer (some ⟨tb,0,none⟩)) (at_set (i:=5) (x:=.int .u64 m.nu) (at_set (i:=3) (x:=.pointer none) T9.s))).trans (by kernel_rfl);have z10:=ah (i:=6) (x:=.pointer (some ⟨tb,0,none⟩)) (ah (i:=5) (x:=.int .u64 m.nu) (ah (i:=3) (x:=.pointer none) T9.z (Ne.symm T9.hz)) (Ne.symm T9.hz)) (Ne.symm T9.hz);have q10:=ah (i:=6) (x:=.pointer (some ⟨tb,0,none⟩)) (ah (i:=5) (x:=.int .u64 m.nu) (ah (i:=3) (x:=.pointer none) q9 hts) hts) hts;have hle:=T9.le;have hzr:=T9.hz;clear T9 q9 hX9;generalize ((V0.setCell ⟨sb,3,none⟩ (.pointer none)).setCell ⟨sb,5,none⟩ (.int .u64 m.nu)).setCell ⟨sb,6,none⟩ (.pointer (some ⟨tb,0,none⟩))=W10 at *;have hu10:QAt W10 u ⟨l,c.rs.cursor⟩:=hu8.freshX HFR.out.1 X10 (yag _) (by have:=HW.out;intro k hk;simp only[yas,yal,or_false] at hk;rcases hk with rfl|rfl<;>omega);have hc:=rY u _ W10 hu10 HFR.out.2.1 HFR.out.2.2;unfold QV.val QV.cells at hc;go_wp2_with (refine zLr rfl q10 ?_;go_simp);refine hc.mono ?_;rintro e W11 ⟨u2,l2,rfl,hu2,hs2,-,-,hf2,hb11⟩;have hz10:=X10.size;have z11:=hb11.q z10;have q11:=hb11.q q10;have b11:=hb11.q b10;have o11:=(o10.later (by have:=lA b10;omega) hb11).set2 (by have:=HLT.out;omega) hlo u2.cells;have X11:=lX (X10.trans ((BelX.of_below hb11 [rb,sb]).mono hz10 (fun _ hk _=>hk))) rb u2.cells (by simp);have f1:(W11.setRow rb u2.cells).heap[rb]?=some (.cells u2.cells 39):=aO z11;have hu11:QAt (W11.setRow rb u2.cells) u ⟨l,c.rs.cursor⟩:=hu8.freshX HFR.out.1 X11 (yag _) (by have:=HW.out;intro k hk;simp only[yas,yal,or_false] at hk;rcases hk with rfl|rfl<;>omega);have hq11:QAt (W11.setRow rb u2.cells) u2 ⟨l2,c.rs.cursor⟩:=hu2.freshX hf2 (lX (BelX.refl W11.heap.size [rb] W11) rb u2.cells (by simp)) (yag _) (by have:=HW.out;intro k hk;simp only[yas,yal,or_false] at hk;rcases hk with rfl;have:=lA z10;omega);have hf2':FreshQ w.heap.size u2 l2:=hf2.mono (by have:=HRB.out;have:=lA z10;omega);have hs2':aF u2 ⟨l2,c.rs.cursor⟩ m.rs c.rs=true:=kF hs2 HSR.out;have S5:SAt (W11.setRow rb u2.cells) B sb cl nd ⟨p.num,max p.vi m.vi,m.nu,p.dr,false,true⟩ ⟨K.ov,K.oc,m.rs,c.rs,K.M⟩ none (some ⟨tb,0,none⟩):=
    ⟨(yba _ _ _ _ hzr).trans b11,hle,(fun h=>by cases h),fun _=>rfl,fun _=>⟨tb,u,_,rfl,(yba _ _ _ _ htr).trans q11,hu11,HFR.out.2,HSR.out,(show K.M<=tb by have:=HTB.out;have:=HW.out;have:=HRB.out;have:=HMM.out;omega),HFR.out.1.mono (show K.M<=_ by have:=HW.out;have:=HRB.out;have:=HMM.out;omega)⟩,(fun h=>by cases h),(fun h=>by cases h)⟩
   have HF:=hid (yax S5 (yax o11 (yax hq11 (yax hf2' hs2'))));clear S5 o11 X11 hu11 hq11 hf2' hs2' hu2 hs2 hf2 b11 q11 X10 hu10 hu8 b10 q10 z10 hc hb11;unfold QV.val QV.cells;go_wp2_with (refine zSr rfl z11 ?_;go_simp;(repeat go_step);exact yay (w:=W11.setRow rb u2.cells) (aj (i:=4) (j:=5) (t:=39) rfl rfl rfl (by kernel_rfl) (by kernel_rfl) f1) rfl ⟨u2,⟨l2,c.rs.cursor⟩,none,some ⟨tb,0,none⟩,by rw[HR.out];rfl,HF.out.2.1,HF.out.2.2.1,HF.out.2.2.2.1,fun h=>(by rw[HR.out] at h;cases h),fun _=>⟨m,c,HMO.out,HF.out.2.2.2.2,by rw[HR.out];exact HF.out.1⟩⟩)
theorem uT{f:Func}{i j k:Nat}{t:TypeId}{tmps:Array Value}{b:Nat}{cs:Array Value}{u v:Value}(hr:f.results=#[.tmp k,.cell i t,.tmp j])(hp:tmps.getD i undef=.pointer (some ⟨b,0,none⟩))(hk:tmps.getD k undef=u)(hv:tmps.getD j undef=v)
  (hu:lG Tryz.prog t=true) (hi:(Tryz.prog.info? t).map (·.size)=some cs.size) (h:W.heap[b]?=some (.cells cs t)):(results f tmps).run Tryz.prog W=.ok (.tuple #[u,.agg cs,v]) W:=by
 obtain⟨d,h1,h2⟩:=nO hu;have hl:(loadVar t ⟨b,0,none⟩).run Tryz.prog W=.ok (.agg cs) W:=by
  cases d<;>first | exact run_loadVar_row W b t t cs _ _ h h1 rfl hi | cases h2
 have hp':tmps[i]?.getD undef=.pointer (some ⟨b,0,none⟩):=by simpa using hp
 have hv':tmps[j]?.getD undef=v:=by simpa using hv
 have hk':tmps[k]?.getD undef=u:=by simpa using hk
 simp only[results,hr];simp[hp',hv',hk',asAddr,hl,Result.andThen]
theorem BV(a:Addr)(w:World):Sem.run Tryz.prog (binOp BinOp.eql 26 (.pointer (some a)) (.pointer none)) w=.ok (.bool false) w:=by kernel_rfl
theorem NP(S:SV)(g:Nat)(w:World)(h:w.heap[g]?=some S.box):Calls Tryz.prog 21 #[.pointer (some ⟨g,0,none⟩)] w fun e w'=>e=.returned (.int .u64 S.vi)/\w'=w:=by
 obtain⟨c0,c1,c2,c3,c4,c5,c6,c7,-⟩:=dD h;have hpe:=BV ⟨g,0,none⟩;go_in;go_wp2_with fail;go_ret;exact⟨rfl,rfl⟩
theorem Gj(S:SV)(g:Nat)(w:World)(h:w.heap[g]?=some S.box):Calls Tryz.prog 24 #[.pointer (some ⟨g,0,none⟩)] w fun e w'=>e=.returned (.int .u64 S.cl)/\w'=w:=by
 obtain⟨c0,c1,c2,c3,c4,c5,c6,c7,-⟩:=dD h;have hpe:=BV ⟨g,0,none⟩;go_in;go_wp2_with fail;go_ret;exact⟨rfl,rfl⟩
theorem Oc(S:SV)(g:Nat)(w:World)(h:w.heap[g]?=some S.box):Calls Tryz.prog 22 #[.pointer (some ⟨g,0,none⟩)] w fun e w'=>e=.returned (.int .u64 S.num)/\w'=w:=by
 obtain⟨c0,c1,c2,c3,c4,c5,c6,c7,-⟩:=dD h;have hpe:=BV ⟨g,0,none⟩;go_in;go_wp2_with fail;go_ret;exact⟨rfl,rfl⟩
theorem EN(S:SV)(g:Nat)(w:World)(h:w.heap[g]?=some S.box):Calls Tryz.prog 23 #[.pointer (some ⟨g,0,none⟩)] w fun e w'=>e=.returned (.int .i64 S.dr)/\w'=w:=by
 obtain⟨c0,c1,c2,c3,c4,c5,c6,c7,-⟩:=dD h;have hpe:=BV ⟨g,0,none⟩;go_in;go_wp2_with fail;go_ret;exact⟨rfl,rfl⟩
def JS (p:PS)(K:Kn)(w:World)(e:Ending)(w':World):Prop:=∃(q:QV) (qc:QC),e=.returned (.tuple #[.int .u64 p.la,q.val,.bool p.told])/\QAt w' q qc/\aF q qc K.rv K.rc=true/\Below w.heap.size w w'
theorem Sm(a:Addr)(w:World):Sem.run Tryz.prog (binOp BinOp.eql 96 (.pointer (some a)) (.pointer none)) w=.ok (.bool false) w:=by kernel_rfl
theorem Rj(w:World):Sem.run Tryz.prog (binOp BinOp.eql 96 (.pointer none) (.pointer none)) w=.ok (.bool true) w:=by kernel_rfl
def LsC (sb tb rb:Nat)(S:SV)(v:QV)(W:World):Prop:=W.heap[sb]?=some S.box/\W.heap[tb]?=some v.box/\W.heap[rb]?=some aG.box
theorem LsC.step{tb:Nat}{v:QV}(h:LsC sb tb rb S v W)(hb:Below W.heap.size W W'):LsC sb tb rb S v W':=
 ⟨(hb.q h.1),(hb.q h.2.1),(hb.q h.2.2)⟩
theorem last_any(B sb:Nat)(cl nd:Int)(hnd:0<nd)(p:PS)(N:Int)(K:Kn)(uo to_:Option Addr)(w:World)(hS:SAt w B sb cl nd p K uo to_)(hp:p.Ok N):Calls Tryz.prog 18 #[.pointer (some ⟨sb,0,none⟩)] w (JS p K w):=by
 have hmo:=hmO
 have hb0:=bN w aG.box;have k0:=aN w aG.box;have hS0:=hS.later hb0;unfold aG QV.box QV.cells at hb0 k0 hS0;dsimp only at hb0 k0 hS0;clear hS;go_in;go_upto_region 1 with fail;generalize hg:w.alloc _=W0 at *;have k0f:W0.heap[w.heap.size]?=some aG.box:=k0;clear hg k0;go_wp2_with fail;refine (jU _ sb W0 hS0.box).mono ?_;rintro e w1 ⟨rfl,rfl⟩;have h5:decide ((0:Int)<nd)=true:=yaa hnd;obtain⟨-,-,-,-,-,s5,s6,-,sf⟩:=dD hS0.box;obtain⟨bt,hbt⟩:∃bt,p.told=bt:=⟨_,rfl⟩
 have HBT:=hid hbt;cases bt with
 | false=>
  obtain rfl:=hS0.to0 hbt;have HLA:=hid (hp.to0 hbt);have HSM:=hid (hS0.to2 hbt);have f1:(w1.setRow w.heap.size aG.cells).heap[w.heap.size]?=some (.cells aG.cells 39):=aO k0f;have hb1:=below_setRow hb0 (yag _) aG.cells;have pe:=Rj;clear hb0 hS0 hbt;go_wp2_with (refine zSr rfl k0f ?_;go_simp;(repeat go_step);exact yay (w:=w1.setRow w.heap.size aG.cells) (uT (k:=2) (i:=3) (j:=4) (t:=39) rfl rfl rfl rfl (by kernel_rfl) (by kernel_rfl) f1) rfl ⟨aG,⟨[],[]⟩,by rw[HBT.out,HLA.out];rfl,(fE _ 0).rs,HSM.out,hb1⟩)
 | true=>
  obtain⟨tb,v,c,rfl,q0,hv,hen,hsr⟩:=hS0.to1 hbt;have HSR:=hid hsr.1;have pe:=Sm ⟨tb,0,none⟩;have s0:LsC sb tb w.heap.size (SV.mk cl nd p.num uo p.vi p.la (some ⟨tb,0,none⟩) p.dr) v (World.drew w1):=⟨hS0.box,q0,k0f⟩
  have hvD:QAt (World.drew w1) v c:=hv.later (yaj _ _).drew;have bD:Below w.heap.size w (World.drew w1):=hb0.drew;have hzD:w.heap.size<=(World.drew w1).heap.size:=hb0.size;clear hS0 q0 hv hbt hsr;go_wp2_with fail;refine dN (k:=12) (S:=LsC sb tb w.heap.size (SV.mk cl nd p.num uo p.vi p.la (some ⟨tb,0,none⟩) p.dr) v) hmo ?_;change bV _ _ _ _ _ _ _ _ _ (World.drew _);clear s5 s6 sf pe hb0 k0f;generalize World.drew w1=V0 at *;have zf0 w0 (h:(LsC sb tb w.heap.size (SV.mk cl nd p.num uo p.vi p.la (some ⟨tb,0,none⟩) p.dr) v) w0):=dD h.1;have zf1 w0 (h:(LsC sb tb w.heap.size (SV.mk cl nd p.num uo p.vi p.la (some ⟨tb,0,none⟩) p.dr) v) w0):=bf h.2.1;refine ztp 0 (pp sb 0) rfl (ztp 1 (pp sb 0) rfl (ztp 2 (pp sb 5) rfl ?_));go_simp;refine ztv 3 (.int .u64 p.la) rfl ?_;go_simp;refine ztp 4 (pp sb 0) rfl (ztp 5 (pp sb 0) rfl (ztp 6 (pp sb 6) rfl ?_));go_simp;refine ztv 7 (pp tb 0) rfl ?_;go_simp;refine ztp 8 (pp tb 0) rfl ?_;go_simp;refine ztv 9 (.agg #[.int .i64 v.code,.bool v.yes,.slice v.eo v.en v.ec,.slice v.co v.cn v.cc]) rfl ?_;go_simp;refine zT1 10 rfl (fun K hK=>?_);go_simp;have hc:=rY v c _ hvD hen.1 hen.2;unfold QV.val QV.cells at hc;refine hc.mono ?_;rintro e VA ⟨u,l,rfl,huA,hsA,-,-,hfA,hbA⟩;have sA:=s0.step hbA;have bF:=below_setRow (bD.trans (hbA.mono hzD)) (yag _) u.cells;have hqF:QAt (VA.setRow w.heap.size u.cells) u ⟨l,c.cursor⟩:=huA.freshX hfA (lX (BelX.refl VA.heap.size [w.heap.size] VA) w.heap.size u.cells (by simp)) (yag _) (by intro k hk;rw[yah.1 hk];have:=lA s0.2.2;omega);have HQF:=hid (yax hqF (kF hsA HSR.out));clear hqF huA hsA hfA;clear hc hbA;go_simp;refine hK _ _ ⟨.inr sA,?_⟩;clear hK K;refine ztp 11 (.int .u64 p.la) rfl ?_;go_simp;refine nM (by kernel_rfl) (by kernel_rfl) ?_;refine zA1 12 rfl (fun K hK=>?_);refine nU (cells:=u.cells) rfl rfl sA.2.2 rfl rfl (by kernel_rfl) rfl (by kernel_rfl) ?_;refine hK _ _ ?_;clear hK K;refine zA1 13 rfl (fun K hK=>?_);go_simp;refine hK _ _ ?_;clear hK K;refine yby (by kernel_rfl) ?_ _;have HF:=hid bF;have f1:(VA.setRow w.heap.size u.cells).heap[w.heap.size]?=some (.cells u.cells 39):=aO sA.2.2;clear bF sA;go_wp2_with fail;exact yay (w:=VA.setRow w.heap.size u.cells) (uT (k:=2) (i:=3) (j:=4) (t:=39) rfl rfl rfl rfl (by kernel_rfl) (by kernel_rfl) f1) rfl ⟨u,_,by rw[HBT.out];rfl,HQF.out.1,HQF.out.2,HF.out⟩
def KW (nd:Nat)(cl:Int)(p:PS)(K:Kn)(w:World)(e:Ending)(w':World):Prop:=
 (p.un=false->e=.returned (.slice none 0 0)/\w'=w)/\(p.un=true->∃(u:OV) (c:OC),bg u c K.ov K.oc=true/\aA u c=true/\FT 0 nd (l7 ⟨cl,p.num,u⟩ c) w e w')
theorem MO(B sb:Nat)(cl:Int)(nd:Nat)(hnd:0<nd)(hn7:nd<=7)(p:PS)(N:Int)(K:Kn)(uo to_:Option Addr)(w:World)(hS:SAt w B sb cl (nd:Int) p K uo to_)(hp:p.Ok N)(hc0:0<=cl)(hc1:cl<18446744073709551616)(hN:N<=1000):Calls Tryz.prog 15 #[.pointer (some ⟨sb,0,none⟩)] w (KW nd cl p K w):=by
 obtain⟨bu,hbu⟩:∃bu,p.un=bu:=⟨_,rfl⟩
 obtain⟨-,s1,-,s3,-⟩:=dD hS.box;have h5:decide ((0:Int)<(nd:Int))=true:=yaa (by omega);have HBU:=hid hbu;go_in;go_wp2_with fail;refine (jU _ sb w hS.box).mono ?_;rintro e w1 ⟨rfl,rfl⟩;cases bu with
 | false=>
  obtain rfl:=hS.un0 hbu;have pe:=eqlNil;clear hS hp hbu;go_wp2_with fail;go_ret;exact⟨fun _=>⟨rfl,rfl⟩,fun h=>(by rw[HBU.out] at h;cases h)⟩
 | true=>
  obtain⟨rb,u,c,rfl,hr,ho,hm,hso,-⟩:=hS.un1 hbu;have pe:=D5 ⟨rb,0,none⟩;have ht:=GV (SV.mk cl nd p.num (some ⟨rb,0,none⟩) p.vi p.la to_ p.dr) sb rb ⟨cl,p.num,u⟩ c 0 nd w1 hS.box rfl hr ho hm ⟨hc0,hc1,hp.num.1,by have:=hp.num.2;show p.num<18446744073709551616;omega⟩ (by decide) (by decide) (by omega);rw[Int.zero_add] at ht;have HSO:=hid (yax hso hm);clear hS hp hbu hr ho hm hso;go_wp2_with fail;refine ht.mono ?_;rintro e w2 ⟨l,ov,rfl,h1,h2,hb⟩;have HF:=hid (yax h1 (yax h2 hb));clear h1 h2 hb;go_wp2_with fail;go_ret;exact⟨fun h=>(by rw[HBU.out] at h;cases h),fun _=>⟨u,c,HSO.out.1,HSO.out.2,l,ov,rfl,HF.out⟩⟩
def IU (cl:Int)(p:PS)(K:Kn)(w:World)(e:Ending)(w':World):Prop:=Below w.heap.size w w' /\
 (p.un=false->e=.returned (.tuple #[bG.val,.bool false]))/\(p.un=true->∃(u:OV) (c:OC),e=.returned (.tuple #[RV.val ⟨cl,p.num,u⟩,.bool true])/\OpAt w' u c/\bg u c K.ov K.oc=true)
theorem rM{v u:OV}{c:OC}{v':OV}{c':OC}(h:CopyOf w v u)(hs:bg v c v' c'=true):bg u c v' c'=true:=by
 unfold bg at hs ⊢;rw[h.ek,h.ename,h.eto,h.en];exact hs
theorem JA(B sb:Nat)(cl nd:Int)(hnd:0<nd)(p:PS)(K:Kn)(uo to_:Option Addr)(w:World)(hS:SAt w B sb cl nd p K uo to_):Calls Tryz.prog 17 #[.pointer (some ⟨sb,0,none⟩)] w (IU cl p K w):=by
 have hb0:=bN w bG.box;have k0:=aN w bG.box;have hS0:=hS.later hb0;unfold RV.box RV.cells bG zeroV at hb0 k0 hS0;dsimp only at hb0 k0 hS0;obtain⟨bu,hbu⟩:∃bu,p.un=bu:=⟨_,rfl⟩
 have h5:decide ((0:Int)<nd)=true:=yaa hnd;have HBU:=hid hbu;clear hS;go_in;go_upto_region 1 with fail;generalize hg:w.alloc _=W0 at *;have k0f:W0.heap[w.heap.size]?=some bG.box:=k0;clear hg k0;go_wp2_with fail;refine (jU _ sb W0 hS0.box).mono ?_;rintro e w1 ⟨rfl,rfl⟩;obtain⟨-,-,-,s3,-⟩:=dD hS0.box;cases bu with
 | false=>
  obtain rfl:=hS0.un0 hbu;have f1:(w1.setRow w.heap.size bG.cells).heap[w.heap.size]?=some (.cells bG.cells 55):=aO k0f;have hb1:=below_setRow hb0 (yag _) bG.cells;have pe:=eqlNil;clear hb0 hS0 hbu;go_wp2_with (refine zSr rfl k0f ?_;go_simp;(repeat go_step);exact yay (w:=w1.setRow w.heap.size bG.cells) (aj (i:=2) (j:=3) (t:=55) rfl rfl rfl (by kernel_rfl) (by kernel_rfl) f1) rfl ⟨hb1,fun _=>rfl,fun h=>(by rw[HBU.out] at h;cases h)⟩)
 | true=>
  obtain⟨rb,u,c,rfl,hr,ho,hm,hso,-⟩:=hS0.un1 hbu;have pe:=D5 ⟨rb,0,none⟩;have hc:=rF ⟨cl,p.num,u⟩ c w1 ho;unfold RV.val RV.cells at hc;dsimp only at hc;have HSO:=hid hso;clear hS0 hbu ho hm hso;go_wp2_with (refine zLr rfl hr ?_;go_simp);refine hc.mono ?_;rintro e w2 ⟨u2,rfl,hC,hu2,hb2⟩;have k2:=hb2.q k0f;have bel2:=below_setRow (hb0.trans (hb2.mono hb0.size)) (yag _) (RV.cells ⟨cl,p.num,u2⟩);have hlt:=lA k0f;have hu3:OpAt (w2.setRow w.heap.size (RV.cells ⟨cl,p.num,u2⟩)) u2 c:=Bd hu2 (fun a ha=>by have:=hC.fa a ha;omega) (fun a ha=>by have:=hC.fb a ha;omega) (fun a ha=>by have:=hC.fc a ha;omega);have f1:(w2.setRow w.heap.size (RV.cells ⟨cl,p.num,u2⟩)).heap[w.heap.size]?=some (.cells (RV.cells ⟨cl,p.num,u2⟩) 55):=aO k2;have HF:=hid (yax bel2 (yax hu3 (rM hC HSO.out)));clear hc hb0 hb2 bel2 hu2 hu3 hC hlt;unfold RV.val RV.cells;go_wp2_with (refine zSr rfl k2 ?_;go_simp;(repeat go_step);exact yay (w:=w2.setRow w.heap.size (RV.cells ⟨cl,p.num,u2⟩)) (aj (i:=2) (j:=3) (t:=55) rfl rfl rfl (by kernel_rfl) (by kernel_rfl) f1) rfl ⟨HF.out.1,fun h=>(by rw[HBU.out] at h;cases h),fun _=>⟨u2,c,rfl,HF.out.2⟩⟩)
