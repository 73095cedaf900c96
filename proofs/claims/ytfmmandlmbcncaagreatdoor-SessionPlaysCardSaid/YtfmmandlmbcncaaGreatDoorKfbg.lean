/-A part of the proof.-/
import Derived.Test.YtfmmandlmbcncaaGreatDoorKfbe
import Derived.Test.YtfmmandlmbcncaaGreatDoorKfbf
set_option maxHeartbeats 40000000
set_option maxRecDepth 100000
set_option linter.all false
namespace Go.Proofs.YtfmmandlmbcncaaGreatDoor
namespace Msg
open Go.RowKit Go.Lib Mem Tlv
theorem Tm:yg (.int .u8 7) 113 (fun _=>True):=by
 intro K J Q' B g ob nb rb w T l8 tc o c s V0 _ h hl;intros;rename_i h2 hQP hJ;conv=>arg 2;whnf
 have hmo:=hmO
 have T3:=bC s 7 (by decide);have hl3:=fU s 7;have hby:=gB B g s 7 V0 h.rf hl;unfold gJ at hby;generalize RS.bytes s 7=y at *;obtain⟨y,l3,bad⟩:=y;dsimp only at T3 hby hl3;have HT:=hid T3;have H:=hid h;clear T3 h;go_wp2_with fail;refine hby.mono ?_;rintro e W1 ⟨hR1,hg1,a1,k1,rfl,hrd1,hty1⟩;have h1:=H.out.grown hg1 hR1;have hBW:B<=W1.heap.size:=by have:=h1.lt.1;have:=h1.wo;have:=h1.Bg;have:=h1.gw;omega
 clear hby hR1 hg1 H;have H:=hid h1;clear h1;go_wp2_with fail;refine (su B y a1 y.length k1 W1 hrd1 hBW hty1 (by omega)).mono ?_;rintro e W2 hA;obtain⟨ok,r,cr,rfl,oY,tY,uY,hb2,-,hans⟩:=Dn hA;have HA:=hid hans;have h2':=H.out.later hb2;clear hA hans hb2 hrd1 hty1 hBW H;have H:=hid h2';clear h2';unfold RV.val RV.cells;go_upto_region 17 with (refine zNr rfl ?_;go_simp);generalize hg:W2.alloc _=W3;have e3:W2.alloc r.box=W3:=hg;have hb3:=bE e3
 have q3:W3.heap[W2.heap.size]?=some r.box:=aE e3
 have h3:=H.out.later hb3;have hyo:W2.heap.size≠ob:=by have:=H.out.lt.1;omega
 have o3:=oY.later hb3;have t3:=tY.kpb (KeepB.of_below hb3);clear hg e3 H oY tY hb3;generalize W2.heap.size=yb at *;refine dN (k:=14) (S:=fun W=>W.heap[yb]?=some r.box/\W.cell? ⟨g,1,none⟩=some (.bool bad)) hmo ?_;change bV _ _ _ _ _ _ _ _ _ (World.drew W3);have hd:Below W3.heap.size W3 W3.drew:=(yaj _ _).drew;have h0:=h3.later hd;have q0:=hd.q q3;have o0:=o3.later hd;have ty0:=t3.kpb (KeepB.of_below hd);generalize World.drew W3=X0 at *;clear hd h3 q3 o3 t3;have t0:X0.heap[yb]?=some r.box/\X0.cell? ⟨g,1,none⟩=some (.bool bad):=⟨q0,h0.rf.cell1⟩
 have hX:BelX X0.heap.size [ob] X0 (jr X0 ob r):=zi (.inl (by simp));have hk:=h0.keep hX;have hq1:(jr X0 ob r).heap[ob]?=some (kC (aJ 113 o { o with rq:=r })).box:=(Em h0.q).trans (by kernel_rfl);have oX:=o0.kpb ty0 hk.kb;have tX:=ty0.kpb hk.kb;have aX:=h0.at_.kpn h0.ty hk;have yX:=h0.ty.kpn hk;have h1:TkM B g ob nb rb w T l8 tc (aJ 113 o { o with rq:=r }) (dA 113 c { c with rq:=cr }) ⟨l3,bad⟩ (jr X0 ob r):=
  h0.box hX hq1 rfl rfl ⟨oX,aX.rs,aX.sn,aX.lg,aX.se,aX.ls,aX.lh⟩ ⟨h0.u.vi,h0.u.no,h0.u.cl,h0.u.nu,h0.u.at_,h0.u.cm,h0.u.bs,h0.u.nc,uY,h0.u.log,h0.u.seen⟩ ⟨tX,yX.rs,yX.sn,yX.lo,yX.log,yX.ho⟩ ⟨h0.ft.rs,h0.ft.rl,h0.ft.lg,h0.ft.sn,h0.ft.hn,h0.ft.ln⟩
 have t1:(jr X0 ob r).heap[yb]?=some r.box/\(jr X0 ob r).cell? ⟨g,1,none⟩=some (.bool bad):=⟨Eu q0 hyo,h1.rf.cell1⟩
 have hS:StepX 113 s (aJ 113 o { o with rq:=r }) (dA 113 c { c with rq:=cr }) ⟨l3,bad||!ok⟩:=Es (s1:=⟨l3,bad⟩) HT.out (fun hh=>by
   rcases HA.out with ⟨-,a2,a3⟩ | ⟨a1,-⟩
   ·exact⟨a2,a3⟩
   ·rw[a1] at hh;cases hh) (fun hh=>by
   rcases HA.out with ⟨a1,-⟩ | ⟨-,a2⟩
   ·rw[a1] at hh;cases hh
   exact a2)
 have HS:=hid hS;clear hX hk hq1 oX tX aX yX q0 o0 ty0 hyo HA HT hS;have t0:=t0;have zf0 (w0:World) (h:w0.heap[yb]?=some r.box/\w0.cell? ⟨g,1,none⟩=some (.bool bad)):=h.2;cases bad with
 | true=>
  refine ztp 0 (pp g 0) rfl ?_;go_simp;refine zTa (hQ:=fun a b c=>hQP a b _ _ c) 1 (.agg #[.int .u64 r.cl,.int .u64 r.nu,.int .i64 r.op.k,.string r.op.name,.string r.op.to,.slice r.op.ao r.op.an r.op.ac,.slice r.op.bo r.op.bn r.op.bc,.slice r.op.co r.op.cn r.op.cc,.int .i64 r.op.n]) rfl (by rintro w2 h2;have cc:=h2.2;exact gK (cs:=r.cells) h2.1 rfl rfl (by kernel_rfl) (by kernel_rfl)) t0 ?_;go_simp;refine ztp 2 (pp g 0) rfl (ztp 3 (pp g 0) rfl (ztp 4 (pp g 1) rfl ?_));go_simp;refine ztv 5 (.bool true) rfl ?_;go_simp;refine ztp 6 (.bool true) rfl ?_;go_simp;refine iw (i:=7) (v:=undef) rfl (by kernel_rfl) (by kernel_rfl) (by kernel_rfl) (by kernel_rfl) (by decide) (by kernel_rfl) (by kernel_rfl) (fun ch a1 w1 h=>hQP ch a1 _ _ w1 h) (Or.inr ⟨by kernel_rfl,rfl⟩) t0 ?_;go_simp;refine iw (i:=8) (v:=undef) rfl (by kernel_rfl) (by kernel_rfl) (by kernel_rfl) (by kernel_rfl) (by decide) (by kernel_rfl) (by kernel_rfl) (fun ch a1 w1 h=>hQP ch a1 _ _ w1 h) (Or.inr ⟨by kernel_rfl,rfl⟩) t0 ?_;go_simp;refine ztp 9 (.bool true) rfl (ztp 10 (pp ob 6) rfl ?_);go_simp;refine zT1 11 rfl (fun K hK=>?_);have c6:=(McAt.of h0.q).c6;have c7:=(McAt.of h0.q).c7;have c8:=(McAt.of h0.q).c8;have c9:=(McAt.of h0.q).c9;have c10:=(McAt.of h0.q).c10;have c11:=(McAt.of h0.q).c11;have c12:=(McAt.of h0.q).c12;have c13:=(McAt.of h0.q).c13;have c14:=(McAt.of h0.q).c14;have zf:=dR h0.q;go_simp;clear c6 c7 c8 c9 c10 c11 c12 c13 c14 zf;refine hK _ (jr X0 ob r) ⟨.inr t1,?_⟩;clear hK K;generalize jr X0 ob r=X1 at *;clear h0 t0;refine ztp 12 (pp g 0) rfl (ztp 13 (pp g 1) rfl ?_);go_simp;have cB:=h1.rf.cell1;have zB:=h1.rf.fz1;refine nM (by kernel_rfl) (by kernel_rfl) ?_;refine zA1 14 rfl (fun K hK=>?_);go_simp;refine hK _ _ ?_;clear hK K;refine yby (by kernel_rfl) ?_ _;have h5:=h1.flag true;go_wp2_with fail;refine Met.intro ?_;apply hJ;exact⟨_,_,_,h5,HS.out⟩
 | false=>
  refine ztp 0 (pp g 0) rfl ?_;go_simp;refine zTa (hQ:=fun a b c=>hQP a b _ _ c) 1 (.agg #[.int .u64 r.cl,.int .u64 r.nu,.int .i64 r.op.k,.string r.op.name,.string r.op.to,.slice r.op.ao r.op.an r.op.ac,.slice r.op.bo r.op.bn r.op.bc,.slice r.op.co r.op.cn r.op.cc,.int .i64 r.op.n]) rfl (by rintro w2 h2;have cc:=h2.2;exact gK (cs:=r.cells) h2.1 rfl rfl (by kernel_rfl) (by kernel_rfl)) t0 ?_;go_simp;refine ztp 2 (pp g 0) rfl (ztp 3 (pp g 0) rfl (ztp 4 (pp g 1) rfl ?_));go_simp;refine ztv 5 (.bool false) rfl ?_;go_simp;refine ztp 6 (.bool false) rfl (ztp 7 (.bool ok) rfl ?_);go_simp;refine ztv 8 (.bool (!ok)) rfl ?_;go_simp;refine ztp 9 (.bool (!ok)) rfl (ztp 10 (pp ob 6) rfl ?_);go_simp;refine zT1 11 rfl (fun K hK=>?_);have c6:=(McAt.of h0.q).c6;have c7:=(McAt.of h0.q).c7;have c8:=(McAt.of h0.q).c8;have c9:=(McAt.of h0.q).c9;have c10:=(McAt.of h0.q).c10;have c11:=(McAt.of h0.q).c11;have c12:=(McAt.of h0.q).c12;have c13:=(McAt.of h0.q).c13;have c14:=(McAt.of h0.q).c14;have zf:=dR h0.q;go_simp;clear c6 c7 c8 c9 c10 c11 c12 c13 c14 zf;refine hK _ (jr X0 ob r) ⟨.inr t1,?_⟩;clear hK K;generalize jr X0 ob r=X1 at *;clear h0 t0;refine ztp 12 (pp g 0) rfl (ztp 13 (pp g 1) rfl ?_);go_simp;have cB:=h1.rf.cell1;have zB:=h1.rf.fz1;refine nM (by kernel_rfl) (by kernel_rfl) ?_;refine zA1 14 rfl (fun K hK=>?_);go_simp;refine hK _ _ ?_;clear hK K;refine yby (by kernel_rfl) ?_ _;have h5:=h1.flag (!ok);go_wp2_with fail;refine Met.intro ?_;apply hJ;exact⟨_,_,_,h5,HS.out⟩
theorem TA:yg (.int .u8 8) 114 (fun _=>True):=by
 intro K J Q' B g ob nb rb w T l8 tc o c s V0 _ h hl;intros;rename_i h2 hQP hJ;conv=>arg 2;whnf
 have hmo:=hmO
 have T3:=bC s 8 (by decide);have hl3:=fU s 8;have hby:=gB B g s 8 V0 h.rf hl;unfold gJ at hby;generalize RS.bytes s 8=y at *;obtain⟨y,l3,bad⟩:=y;dsimp only at T3 hby hl3;have HT:=hid T3;have H:=hid h;clear T3 h;go_wp2_with fail;refine hby.mono ?_;rintro e W1 ⟨hR1,hg1,a1,k1,rfl,hrd1,hty1⟩;have h1:=H.out.grown hg1 hR1;have hBW:B<=W1.heap.size:=by have:=h1.lt.1;have:=h1.wo;have:=h1.Bg;have:=h1.gw;omega
 clear hby hR1 hg1 H;have H:=hid h1;clear h1;go_wp2_with fail;refine (BQ B y a1 y.length k1 W1 hrd1 hBW hty1 (by omega)).mono ?_;rintro e W2 hA;obtain⟨ok,r,cr,rfl,oY,tY,hb2,hrl,hans⟩:=ND hA;have HRL:Hid ((dM r cr).length<=4194304):=hid (by
  rcases hans with ⟨-,-,e⟩ | ⟨e,-⟩
  ·rw[e];exact hl3
  have:=hrl e;omega)
 clear hrl;have HA:=hid hans;have h2':=H.out.later hb2;clear hA hans hb2 hrd1 hty1 hBW H;have H:=hid h2';clear h2';unfold QV.val QV.cells;go_upto_region 20 with (refine zNr rfl ?_;go_simp);generalize hg:W2.alloc _=W3;have e3:W2.alloc r.box=W3:=hg;have hb3:=bE e3
 have q3:W3.heap[W2.heap.size]?=some r.box:=aE e3
 have h3:=H.out.later hb3;have hyo:W2.heap.size≠ob:=by have:=H.out.lt.1;omega
 have o3:=oY.later hb3;have t3:=tY.kpn (KeepN.of_below hb3);clear hg e3 H oY tY hb3;generalize W2.heap.size=yb at *;refine dN (k:=14) (S:=fun W=>W.heap[yb]?=some r.box/\W.cell? ⟨g,1,none⟩=some (.bool bad)) hmo ?_;change bV _ _ _ _ _ _ _ _ _ (World.drew W3);have hd:Below W3.heap.size W3 W3.drew:=(yaj _ _).drew;have h0:=h3.later hd;have q0:=hd.q q3;have o0:=o3.later hd;have ty0:=t3.kpn (KeepN.of_below hd);generalize World.drew W3=X0 at *;clear hd h3 q3 o3 t3;have t0:X0.heap[yb]?=some r.box/\X0.cell? ⟨g,1,none⟩=some (.bool bad):=⟨q0,h0.rf.cell1⟩
 have hX:BelX X0.heap.size [ob] X0 (jl X0 ob r):=zl (.inl (by simp));have hk:=h0.keep hX;have hq1:(jl X0 ob r).heap[ob]?=some (kC (aJ 114 o { o with rs:=r })).box:=(DW h0.q).trans (by kernel_rfl);have oX:=o0.kpn ty0 hk;have tX:=ty0.kpn hk;have aX:=h0.at_.kpn h0.ty hk;have yX:=h0.ty.kpn hk;have h1:TkM B g ob nb rb w T l8 tc (aJ 114 o { o with rs:=r }) (dA 114 c { c with rs:=cr }) ⟨l3,bad⟩ (jl X0 ob r):=
  h0.box hX hq1 rfl rfl ⟨aX.rq,oX,aX.sn,aX.lg,aX.se,aX.ls,aX.lh⟩ ⟨h0.u.vi,h0.u.no,h0.u.cl,h0.u.nu,h0.u.at_,h0.u.cm,h0.u.bs,h0.u.nc,h0.u.rq,h0.u.log,h0.u.seen⟩ ⟨yX.rq,tX,yX.sn,yX.lo,yX.log,yX.ho⟩ ⟨fun _=>by have h1:=HRL.out;rw[nV] at h1;show (dH cr.ents).length<=4194304;omega,fun _=>HRL.out,h0.ft.lg,h0.ft.sn,h0.ft.hn,h0.ft.ln⟩
 have t1:(jl X0 ob r).heap[yb]?=some r.box/\(jl X0 ob r).cell? ⟨g,1,none⟩=some (.bool bad):=⟨ED q0 hyo,h1.rf.cell1⟩
 have hS:StepX 114 s (aJ 114 o { o with rs:=r }) (dA 114 c { c with rs:=cr }) ⟨l3,bad||!ok⟩:=CG (s1:=⟨l3,bad⟩) HT.out (fun hh=>by
   rcases HA.out with ⟨-,a2,a3⟩ | ⟨a1,-⟩
   ·exact⟨a2,a3⟩
   ·rw[a1] at hh;cases hh) (fun hh=>by
   rcases HA.out with ⟨a1,-⟩ | ⟨-,a2⟩
   ·rw[a1] at hh;cases hh
   exact a2)
 have HS:=hid hS;clear hX hk hq1 oX tX aX yX q0 o0 ty0 hyo HA HT hS;have t0:=t0;have zf0 (w0:World) (h:w0.heap[yb]?=some r.box/\w0.cell? ⟨g,1,none⟩=some (.bool bad)):=h.2;cases bad with
 | true=>
  refine ztp 0 (pp g 0) rfl ?_;go_simp;refine zTa (hQ:=fun a b c=>hQP a b _ _ c) 1 (.agg #[.int .i64 r.code,.bool r.yes,.slice r.eo r.en r.ec,.slice r.co r.cn r.cc]) rfl (by rintro w2 h2;have cc:=h2.2;exact gK (cs:=r.cells) h2.1 rfl rfl (by kernel_rfl) (by kernel_rfl)) t0 ?_;go_simp;refine ztp 2 (pp g 0) rfl (ztp 3 (pp g 0) rfl (ztp 4 (pp g 1) rfl ?_));go_simp;refine ztv 5 (.bool true) rfl ?_;go_simp;refine ztp 6 (.bool true) rfl ?_;go_simp;refine iw (i:=7) (v:=undef) rfl (by kernel_rfl) (by kernel_rfl) (by kernel_rfl) (by kernel_rfl) (by decide) (by kernel_rfl) (by kernel_rfl) (fun ch a1 w1 h=>hQP ch a1 _ _ w1 h) (Or.inr ⟨by kernel_rfl,rfl⟩) t0 ?_;go_simp;refine iw (i:=8) (v:=undef) rfl (by kernel_rfl) (by kernel_rfl) (by kernel_rfl) (by kernel_rfl) (by decide) (by kernel_rfl) (by kernel_rfl) (fun ch a1 w1 h=>hQP ch a1 _ _ w1 h) (Or.inr ⟨by kernel_rfl,rfl⟩) t0 ?_;go_simp;refine ztp 9 (.bool true) rfl (ztp 10 (pp ob 15) rfl ?_);go_simp;refine zT1 11 rfl (fun K hK=>?_);have c15:=(McAt.of h0.q).c15;have c16:=(McAt.of h0.q).c16;have c17:=(McAt.of h0.q).c17;have c18:=(McAt.of h0.q).c18;have zf:=dR h0.q;go_simp;clear c15 c16 c17 c18 zf;refine hK _ (jl X0 ob r) ⟨.inr t1,?_⟩;clear hK K;generalize jl X0 ob r=X1 at *;clear h0 t0;refine ztp 12 (pp g 0) rfl (ztp 13 (pp g 1) rfl ?_);go_simp;have cB:=h1.rf.cell1;have zB:=h1.rf.fz1;refine nM (by kernel_rfl) (by kernel_rfl) ?_;refine zA1 14 rfl (fun K hK=>?_);go_simp;refine hK _ _ ?_;clear hK K;refine yby (by kernel_rfl) ?_ _;have h5:=h1.flag true;go_wp2_with fail;refine Met.intro ?_;apply hJ;exact⟨_,_,_,h5,HS.out⟩
 | false=>
  refine ztp 0 (pp g 0) rfl ?_;go_simp;refine zTa (hQ:=fun a b c=>hQP a b _ _ c) 1 (.agg #[.int .i64 r.code,.bool r.yes,.slice r.eo r.en r.ec,.slice r.co r.cn r.cc]) rfl (by rintro w2 h2;have cc:=h2.2;exact gK (cs:=r.cells) h2.1 rfl rfl (by kernel_rfl) (by kernel_rfl)) t0 ?_;go_simp;refine ztp 2 (pp g 0) rfl (ztp 3 (pp g 0) rfl (ztp 4 (pp g 1) rfl ?_));go_simp;refine ztv 5 (.bool false) rfl ?_;go_simp;refine ztp 6 (.bool false) rfl (ztp 7 (.bool ok) rfl ?_);go_simp;refine ztv 8 (.bool (!ok)) rfl ?_;go_simp;refine ztp 9 (.bool (!ok)) rfl (ztp 10 (pp ob 15) rfl ?_);go_simp;refine zT1 11 rfl (fun K hK=>?_);have c15:=(McAt.of h0.q).c15;have c16:=(McAt.of h0.q).c16;have c17:=(McAt.of h0.q).c17;have c18:=(McAt.of h0.q).c18;have zf:=dR h0.q;go_simp;clear c15 c16 c17 c18 zf;refine hK _ (jl X0 ob r) ⟨.inr t1,?_⟩;clear hK K;generalize jl X0 ob r=X1 at *;clear h0 t0;refine ztp 12 (pp g 0) rfl (ztp 13 (pp g 1) rfl ?_);go_simp;have cB:=h1.rf.cell1;have zB:=h1.rf.fz1;refine nM (by kernel_rfl) (by kernel_rfl) ?_;refine zA1 14 rfl (fun K hK=>?_);go_simp;refine hK _ _ ?_;clear hK K;refine yby (by kernel_rfl) ?_ _;have h5:=h1.flag (!ok);go_wp2_with fail;refine Met.intro ?_;apply hJ;exact⟨_,_,_,h5,HS.out⟩
theorem Tq:yg (.int .u8 12) 115 (fun _=>True):=by
 intro K J Q' B g ob nb rb w T l8 tc o c s V0 _ h hl;intros;rename_i h2 hQP hJ;conv=>arg 2;whnf
 have T3:=bC s 12 (by decide);have hl3:=fU s 12;have hby:=gB B g s 12 V0 h.rf hl;unfold gJ at hby;generalize RS.bytes s 12=y at *;obtain⟨y,s3⟩:=y;dsimp only at T3 hby hl3;have HT:=hid T3;have H:=hid h;clear T3 h;go_wp2_with fail;refine hby.mono ?_;rintro e W1 ⟨hR1,hg1,a1,k1,rfl,hrd1,hty1⟩;have h1:=H.out.grown hg1 hR1;clear hby hR1 hg1 H;have hX:BelX W1.heap.size [ob] W1 (W1.setCell ⟨ob,22,none⟩ (.slice a1 y.length k1)):=(BelX.refl _ _ _).set _ _ _ (.inl (by simp));have hk:=h1.keep hX;have hq1:(W1.setCell ⟨ob,22,none⟩ (.slice a1 y.length k1)).heap[ob]?=some (kC (aJ 115 o { o with so:=a1,sn:=y.length,sc:=k1 })).box:=(at_set h1.q).trans (by kernel_rfl);have aX:=h1.at_.kpn h1.ty hk;have yX:=h1.ty.kpn hk;have rX:=ji hrd1 hty1 hk.kb;have tX:=TyB.kpb hty1 hk.kb;have h2':TkM B g ob nb rb w T l8 tc (aJ 115 o { o with so:=a1,sn:=y.length,sc:=k1 }) (dA 115 c { c with snap:=y }) s3 (W1.setCell ⟨ob,22,none⟩ (.slice a1 y.length k1)):=
  h1.box hX hq1 rfl rfl ⟨aX.rq,aX.rs,rX,aX.lg,aX.se,(show y.length<=1000000000 by omega),aX.lh⟩ ⟨h1.u.vi,h1.u.no,h1.u.cl,h1.u.nu,h1.u.at_,h1.u.cm,h1.u.bs,h1.u.nc,h1.u.rq,h1.u.log,h1.u.seen⟩ ⟨yX.rq,yX.rs,tX,yX.lo,yX.log,yX.ho⟩ ⟨h1.ft.rs,h1.ft.rl,h1.ft.lg,(show y.length<=4194304 by omega),h1.ft.hn,h1.ft.ln⟩
 have hS:StepX 115 s (aJ 115 o { o with so:=a1,sn:=y.length,sc:=k1 }) (dA 115 c { c with snap:=y }) s3:=BI HT.out rfl;have HS:=hid hS;have H2:=hid h2';have cB:=(McAt.of h1.q).c22;have zf:=dR h1.q 22;clear hX hk hq1 aX yX rX tX hrd1 hty1 HT hS h2' h1;go_wp2_with fail;refine Met.intro ?_;apply hJ;exact⟨_,_,_,H2.out,HS.out⟩
theorem TF:yg (.int .u8 15) 119 (fun _=>True):=by
 intro K J Q' B g ob nb rb w T l8 tc o c s V0 _ h hl;intros;rename_i h2 hQP hJ;conv=>arg 2;whnf
 have T3:=qJ s 15 (by decide);have hby:=zH B g s 15 V0 h.rf hl;generalize RS.flag s 15=y at *;obtain⟨y,s3⟩:=y;dsimp only at T3 hby;have HT:=hid T3;have H:=hid h;clear T3 h;go_wp2_with fail;refine hby.mono ?_;rintro e W1 ⟨rfl,hR1,hg1⟩;have h1:=H.out.grown hg1 hR1;clear hby hR1 hg1 H;have hX:BelX W1.heap.size [ob] W1 (W1.setCell ⟨ob,25,none⟩ (.bool y)):=(BelX.refl _ _ _).set _ _ _ (.inl (by simp));have hk:=h1.keep hX;have hq1:(W1.setCell ⟨ob,25,none⟩ (.bool y)).heap[ob]?=some (kC (aJ 119 o { o with wh:=y })).box:=(at_set h1.q).trans (by kernel_rfl);have aX:=h1.at_.kpn h1.ty hk;have yX:=h1.ty.kpn hk;have h2':TkM B g ob nb rb w T l8 tc (aJ 119 o { o with wh:=y }) (dA 119 c c) s3 (W1.setCell ⟨ob,25,none⟩ (.bool y)):=
  h1.box hX hq1 rfl rfl ⟨aX.rq,aX.rs,aX.sn,aX.lg,aX.se,aX.ls,aX.lh⟩ ⟨h1.u.vi,h1.u.no,h1.u.cl,h1.u.nu,h1.u.at_,h1.u.cm,h1.u.bs,h1.u.nc,h1.u.rq,h1.u.log,h1.u.seen⟩ ⟨yX.rq,yX.rs,yX.sn,yX.lo,yX.log,yX.ho⟩ ⟨h1.ft.rs,h1.ft.rl,h1.ft.lg,h1.ft.sn,h1.ft.hn,h1.ft.ln⟩
 have hS:StepX 119 s (aJ 119 o { o with wh:=y }) (dA 119 c c) s3:=zn HT.out rfl;have HS:=hid hS;have H2:=hid h2';have cB:=(McAt.of h1.q).c25;have zf:=dR h1.q 25;clear hX hk hq1 aX yX HT hS h2' h1;go_wp2_with fail;refine Met.intro ?_;apply hJ;exact⟨_,_,_,H2.out,HS.out⟩
structure Oz (Y0:World)(ob nb:Nat)(o:MV)(Y:World)(c:Array Value):Prop where
 b:Y.heap[ob]?=some (.cells c 59)
 t:Y.heap[nb]?=some (.cells (jM o) 154)
 x:BelX Y0.heap.size [ob] Y0 Y
theorem Oz.set {Y0 Y:World}{ob nb:Nat}{o:MV}{c:Array Value}(h:Oz Y0 ob nb o Y c)(hno:nb≠ob)(i:Nat)(x:Value):Oz Y0 ob nb o (Y.setCell ⟨ob,i,none⟩ x) (c.setIfInBounds i x):=
 ⟨at_set h.b,ah h.t hno,h.x.set _ _ _ (.inl (by simp))⟩
theorem Le {s s1:RS}{n:Nat}(T:Took (fun n:Nat=>val 1 (au n)) (fun n=>n<18446744073709551616) (fun n=>n<18446744073709551616) s n s1)(h:s1.bad=true\/¬(1<=n/\n<=12)) :
  (∀(n:Nat) (r:List UInt8),s.bad=false->1<=n->n<=12->s.l≠val 1 (au n)++r)/\∀(W0:World) (m:MV) (d:MC) (r:List UInt8),s.bad=false->MayM W0 m d->s.l≠dL m d++r:=by
 have key:∀(k:Nat) (r:List UInt8),s.bad=false->1<=k->k<=12->s.l≠val 1 (au k)++r:=by
  intro k r hb h1 h2 e;obtain⟨g1,-⟩:=jh T (fun z r r' _ _ e=>(az (by decide) (by rw[ai];omega) (by rw[ai];omega) e).2) hb (z:=k) (by omega) e;rcases h with h | h
  ·rw[g1] at h;cases h
  obtain⟨-,e2,g⟩:=T.yes g1;have e3:=iM g (by omega) (az (t:=1) (by decide) (by rw[ai];omega) (by rw[ai];omega) (e2.symm.trans e)).1;omega
 refine⟨key,fun W0 m d r hb hM e=>?_⟩;have hk:=hM.k;unfold dL at e;rw[yav] at e;exact key m.k.toNat _ hb (by omega) (by omega) e
theorem NV (k:Int)(wh:Bool):(eP k wh).length=(lettersOf k wh).length:=by unfold eP;rw[ybl]
theorem Sz {wh:Bool}{j:Nat}{x:Int}(hx:(lettersOf 10 wh)[j]?=some x)(hj:j≠1):((jW x).toNat:Int)≠4:=by
 cases wh
 ·match j,hx with
  | 0,h=>cases h;decide
  | 1,h=>exact absurd rfl hj
  | 2,h=>cases h;decide
  | 3,h=>cases h;decide
  | 4,h=>cases h;decide
  | j+5,h=>cases h
 match j,hx with
 | 0,h=>cases h;decide
 | 1,h=>exact absurd rfl hj
 | 2,h=>cases h;decide
 | 3,h=>cases h;decide
 | 4,h=>cases h;decide
 | 5,h=>cases h;decide
 | 6,h=>cases h;decide
 | 7,h=>cases h;decide
 | 8,h=>cases h;decide
 | j+9,h=>cases h
theorem rC (B g:Nat)(s:RS)(w:World)(hr:RfS B g s w)(hB:B<=w.heap.size)(hl:s.l.length<=100000000):Calls Tryz.prog 54 #[.pointer (some ⟨g,0,none⟩)] w (xe B g s w):=by
 have hmo:=hmO
 have hgw:=hr.lt;have hBg:=hr.le;have hb0:=bN w (ay 0).box;have k0:=aN w (ay 0).box;have hz0:(w.alloc (ay 0).box).heap.size=w.heap.size+1:=by simp
 have hr0:=hr.later hb0;unfold ay bG aG zeroV MV.box MV.cells at hb0 k0 hz0 hr0;dsimp only at hb0 k0 hz0 hr0;go_in;go_upto_region 1 with fail;generalize hg:w.alloc _=W0 at *;have k0f:W0.heap[w.heap.size]?=some (ay 0).box:=k0;clear hg k0;have HZ0:=hid hz0;clear hz0;go_upto_region 2 with (refine zNr rfl ?_;go_simp);generalize hg:W0.alloc _=W1;have e1:W0.alloc (ay 0).box=W1:=hg;have hb1:=bE e1
 have q1:W1.heap[W0.heap.size]?=some (ay 0).box:=aE e1
 have hR1:=hr0.later hb1;have rz1:=af k0f hb1;have X1:BelX w.heap.size [g] w W1:=(BelX.of_below hb0 [g]).trans ((BelX.of_below hb1 [g]).mono hb0.size (fun _ hk _=>hk));have hwo:w.heap.size<=W0.heap.size:=hb0.size;have hro:w.heap.size≠W0.heap.size:=by have:=HZ0.out;omega
 clear hg e1 hr0 k0f hb0 hb1 HZ0;obtain⟨ob,hob⟩:∃ob,W0.heap.size=ob:=⟨_,rfl⟩
 rw[hob] at q1 hwo hro;have HOB:=hid hob;rw[hob];obtain⟨rb,hrb⟩:∃rb,w.heap.size=rb:=⟨_,rfl⟩
 rw[hrb] at rz1 hro;rw[hrb];have HRB:=hid hrb;clear hob hrb;have T1:=iL s 1 (by decide);have hnum:=jQ B g s 1 W1 hR1 hl;generalize RS.num s 1=nm at *;obtain⟨n,s1⟩:=nm;dsimp only at T1 hnum;have HT1:=hid T1;clear T1;go_wp2_with fail;refine hnum.mono ?_;rintro e W2 ⟨rfl,hR2,hg2⟩;have hgo:g≠ob:=by omega
 have hgr:g≠rb:=by have:=HRB.out;omega
 have q2:W2.heap[ob]?=some (ay 0).box:=(hg2.block _ (lA q1) (fun e=>hgo (yaf e).symm)).trans q1;have rz2:W2.heap[rb]?=some (ay 0).box:=(hg2.block _ (lA rz1) (fun e=>hgr (yaf e).symm)).trans rz1;have X2:BelX w.heap.size [g] w W2:=X1.trans ((BelX.of_grown hg2).mono X1.size (fun _ hk _=>hk));clear hnum hR1 hg2 q1 rz1 X1;by_cases hbad:s1.bad=true\/¬(1<=n/\n<=12)
 ·have HN:=hid (Le HT1.out hbad);have hfin:xe B g s w (.returned (.tuple #[(ay 0).val,.bool false])) (W2.setRow rb (ay 0).cells):=by
   have hX:BelX W2.heap.size [rb] W2 (W2.setRow rb (ay 0).cells):=lX (BelX.refl _ _ _) rb _ (by simp);exact⟨s1,hR2.belX hX (by simpa using hgr) (fun k hk=>by rw[yah.1 hk,<-HRB.out];exact hB) (fun k hk=>by rw[yah.1 hk];exact⟨_,rz2,TkM.not_u8 bJ⟩),
    X2.trans (hX.mono X2.size (fun k hk hlt=>by have:=yah.1 hk;have:=HRB.out;omega)),.inr ⟨rfl,HN.out⟩⟩
  have f1:(W2.setRow rb (ay 0).cells).heap[rb]?=some (.cells (ay 0).cells 59):=aO rz2;have HF:=hid hfin;have cB:=hR2.cell1;obtain⟨l1,bad⟩:=s1;dsimp only at hbad cB;clear hfin HN X2 hR2;cases bad with
  | true=>
   clear hbad;go_wp2_with (first | (refine zLr rfl q2 ?_;go_simp) | (refine zSr rfl rz2 ?_;go_simp));exact yay (w:=W2.setRow rb (ay 0).cells) (aj (i:=2) (j:=3) (t:=59) rfl rfl rfl (by kernel_rfl) (by kernel_rfl) f1) rfl HF.out
  | false=>
   by_cases h1:n<1
   ·have f2:decide ((n:Int)<1)=true:=yaa (by omega);clear hbad h1;go_wp2_with (first | (refine zLr rfl q2 ?_;go_simp) | (refine zSr rfl rz2 ?_;go_simp));exact yay (w:=W2.setRow rb (ay 0).cells) (aj (i:=2) (j:=3) (t:=59) rfl rfl rfl (by kernel_rfl) (by kernel_rfl) f1) rfl HF.out
   have f2:decide ((n:Int)<1)=false:=yad (by omega);have f3:decide ((12:Int)<(n:Int))=true:=yaa (by
    rcases hbad with h | h
    ·cases h
    omega)
   clear hbad h1;go_wp2_with (first | (refine zLr rfl q2 ?_;go_simp) | (refine zSr rfl rz2 ?_;go_simp));exact yay (w:=W2.setRow rb (ay 0).cells) (aj (i:=2) (j:=3) (t:=59) rfl rfl rfl (by kernel_rfl) (by kernel_rfl) f1) rfl HF.out
 simp only[not_or,ybs,Decidable.not_not] at hbad;obtain⟨hb1,hn1,hn2⟩:=hbad;have R0:=ReadM.first (o:=ay n) (c:=dO) (kJ HT1.out (fun _ (h:_<=12)=>by omega) (fun _ h=>h)) ⟨hn1,hn2⟩;have HR0:=hid R0;have HKD:Hid (∃r,s.l=val 1 (au n)++r):=hid ⟨s1.l,(HT1.out.yes hb1).2.1⟩;have cB:=hR2.cell1;rw[hb1] at cB;have f1:decide ((n:Int)<1)=false:=yad (by omega);have f2:decide ((12:Int)<(n:Int))=false:=yad (by omega);have hw1:IntKind.i64.wrap (n:Int)=(n:Int):=gG _ (by omega) (by omega);have hls1:s1.l.length<=100000000:=by have:=HT1.out.le;omega
 have c0:=(McAt.of q2).c0;have zf0:=dR q2 0;clear R0 hb1;go_upto_region 6 with fail;have q3:(W2.setCell ⟨ob,0,none⟩ (.int .i64 (n:Int))).heap[ob]?=some (ay n).box:=(at_set q2).trans (by kernel_rfl);have rz3:=ah (i:=0) (x:=.int .i64 (n:Int)) rz2 hro;have hX3:BelX W2.heap.size [ob] W2 (W2.setCell ⟨ob,0,none⟩ (.int .i64 (n:Int))):=(BelX.refl _ _ _).set _ _ _ (.inl (by simp));have hBo:B<=ob:=by omega
 have hR3:=hR2.belX hX3 (by simpa using hgo) (fun k hk=>by rw[yah.1 hk];exact hBo) (fun k hk=>by rw[yah.1 hk];exact⟨_,q2,TkM.not_u8 bJ⟩);have X3:=X2.trans (hX3.mono X2.size (fun k hk hlt=>by have:=yah.1 hk;omega));generalize World.setCell W2 _ _=W3 at *;clear c0 zf0 q2 rz2 hX3 hR2 X2 cB f1 f2 hw1;go_upto_region 7 with fail;generalize hg:W3.alloc _=W4;have e4:W3.alloc (.cells (dP 0 0 0 0 0 0 0 0 0 0 0 0 0 0 0) 154)=W4:=hg;have hb4:=bE e4
 have na4:W4.heap[W3.heap.size]?=some (.cells (dP 0 0 0 0 0 0 0 0 0 0 0 0 0 0 0) 154):=aE e4
 have q4:=af q3 hb4;have rz4:=af rz3 hb4;have hR4:=hR3.later hb4;have X4:BelX w.heap.size [g] w W4:=X3.trans ((BelX.of_below hb4 [g]).mono X3.size (fun _ hk _=>hk));have hwn:w.heap.size<=W3.heap.size:=X3.size;clear hg e4 hb4 q3 rz3 hR3 X3;generalize W3.heap.size=nb at *;have c0:=(McAt.of q4).c0;go_wp2_with fail;refine (uq (n:Int) false W4).mono ?_;rintro e W5 ⟨T,tc,rfl,hT,hb5,hty⟩;have q5:=af q4 hb5;have rz5:=af rz4 hb5;have hR5:=hR4.later hb5;have na5:=hb5.q na4;have X5:BelX w.heap.size [g] w W5:=X4.trans ((BelX.of_below hb5 [g]).mono X4.size (fun _ hk _=>hk));have z00:(0:Int)<=0/\(0:Int)<18446744073709551616:=by decide
 have hTk:TkM B g ob nb rb w T (eP n false) tc (ay n) dO s1 W5:=
  ⟨hR5,X5,q5,na5,fE W5 n,⟨z00,z00,z00,z00,z00,z00,z00,z00,⟨z00.1,z00.2,z00.1,z00.2⟩,fun _ hp=>(by cases hp),fun _ hp=>(by cases hp)⟩,
   ⟨⟨fun h=>absurd h (yaw 0),fun h=>absurd h (yaw 0),fun h=>absurd h (yaw 0)⟩,⟨fun h=>absurd h (yaw 0),fun _ hp=>(by cases hp),fun h=>absurd h (yaw 0)⟩,fun h=>absurd h (yaw 0),fun h=>absurd h (yaw 0),fun _ hp=>(by cases hp),fun h=>absurd h (yaw 0)⟩,
   z00,hT,hty,rz5,hgw,hBg,hwo,hwn,yaR HRB.out,hro,Tu _⟩
 have hI0:TkI B g ob nb rb s w n false T tc 0 W5:=⟨⟨by omega,by omega⟩,(fun h=>by cases h),_,_,_,hTk,rfl,(by
   have h1:=HR0.out;have e:decide (((n:Nat):Int)≠10\/2<=0)=decide (n≠10):=by
    by_cases e:n=10
    ·rw[yad (by omega),yad (by omega)]
    rw[yaa (by omega),yaa (by omega)]
   rw[e];exact h1),(fun h=>by cases h),(fun x hx _=>oQ _ _ _),⟨fun _=>⟨rfl,rfl,rfl⟩,fun _=>⟨rfl,rfl,rfl⟩⟩⟩
 have hls:∀s':RS,s'.l.length<=s.l.length->s'.l.length<=100000000:=fun s' h=>by omega
 have HLS:=hid hls;clear c0 q4 rz4 hR4 na4 X4 hb5 hT hty q5 rz5 hR5 na5 X5 hTk hls z00 HR0 hls1;go_wp2_with fail;go_loopw [7,8,9] (fun v7 v8 v9 wr=>∃(j:Nat) (wh:Bool) (T:Option Addr) (tc:Nat),j<=(eP n wh).length/\v7=.bool wh/\v8=.slice T (eP n wh).length tc/\v9=.int .i64 (j:Int)/\TkI B g ob nb rb s w n wh T tc j wr) (fun _ _ v9 _=>20-(intOf v9).toNat)
 case atStart=>exact⟨0,false,T,tc,yam _,rfl,rfl,rfl,hI0⟩
 case round=>
  obtain⟨j,wh,T,tc,hj,rfl,rfl,rfl,hI⟩:=hrel;obtain⟨o,c,s',hM,ho,hR,hwj,hz,hns⟩:=hI.ex;have hl15:=nC (n:Int) wh;have HTL:=hid (NV (n:Int) wh);have HR:=hid hR;have HZ:=hid hz;have HNS:=hid hns;have HWJ:=hid hwj;have HK:=hid hI.k;have HW:=hid hI.hw;have HO:=hid ho;clear hI0 hI hR hz hns hwj ho;by_cases hjn:j<(eP n wh).length
  ·obtain⟨x,hx⟩:∃x,(lettersOf n wh)[j]?=some x:=⟨_,yac (by rw[<-HTL.out];exact hjn)⟩
   obtain⟨tb,to_,hT,htl,htc⟩:=hM.tags.some (by have:=hM.tags.le;omega);have htag:=htc j _ (FQ n wh j x hx);have HX:=hid hx;have hj20:j<20:=by have:=HTL.out;omega
   have hsl:=HLS.out s' HR.out.le;have hlen:(eP n wh).length<=15:=by have:=HTL.out;omega
   obtain⟨N,hN⟩:∃N,(eP n wh).length=N:=⟨_,rfl⟩
   have hcap:=hM.tags.le;subst hT;have HM:=hid hM;have hxm:=yan hx;have hxa:=jb x hxm;have HXM:=hid (yax hxm hxa);rw[hN] at hjn hcap hlen;rw[hN];have HN:=hid hN;have i0:(0:Int)<=(j:Int):=by omega
   have i1:(j:Int)<(N:Int):=by omega
   obtain⟨tg,htg⟩:∃tg:Int,((jW x).toNat:Int)=tg:=⟨_,rfl⟩
   rw[htg] at htag;have HTG:=hid htg;clear hx htc hM hj hN hxm hxa hl15 htl htg
   go_upto_block 2 with fail
   go_cut [] from 53 to 183 (fun wk=>SwM B g ob nb rb w (some ⟨tb,to_,none⟩) (eP n wh) tc x o c s' wk)
   case first=>
    rename_i J K' h1 h2;by_cases hnum:x∈[118,110,102,99,117,97,109,98,111]
    ·obtain rfl:tg=((jW x).toNat:Int):=HTG.out.symm;apply Tf x (jW x).toNat hnum rfl K' J _ B g ob nb rb w _ _ tc o c s' wr trivial HM.out hsl
     ·exact h2
     ·exact fun _ _ _ _ _ h=>h
     intros;refine h1 _ _ ?_
     (repeat apply ycs)
     exact⟨by assumption,rfl⟩
    have hnin:=uf (lM n wh) HX.out;have hxa:=HXM.out.2;simp only[dF,yas,yal,or_false] at hxa;rcases hxa with rfl|rfl|rfl|rfl|rfl|rfl|rfl|rfl|rfl|rfl|rfl|rfl|rfl|rfl|rfl
    case inr.inr.inr.inr.inr.inl=>
     obtain rfl:tg=7:=HTG.out.symm;apply Tm K' J _ B g ob nb rb w _ _ tc o c s' wr trivial HM.out hsl
     ·exact h2
     ·exact fun _ _ _ _ _ h=>h
     intros;refine h1 _ _ ?_
     (repeat apply ycs)
     exact⟨by assumption,rfl⟩
    case inr.inr.inr.inr.inr.inr.inl=>
     obtain rfl:tg=8:=HTG.out.symm;apply TA K' J _ B g ob nb rb w _ _ tc o c s' wr trivial HM.out hsl
     ·exact h2
     ·exact fun _ _ _ _ _ h=>h
     intros;refine h1 _ _ ?_
     (repeat apply ycs)
     exact⟨by assumption,rfl⟩
    case inr.inr.inr.inr.inr.inr.inr.inr.inr.inr.inl=>
     obtain rfl:tg=12:=HTG.out.symm;apply Tq K' J _ B g ob nb rb w _ _ tc o c s' wr trivial HM.out hsl
     ·exact h2
     ·exact fun _ _ _ _ _ h=>h
     intros;refine h1 _ _ ?_
     (repeat apply ycs)
     exact⟨by assumption,rfl⟩
    case inr.inr.inr.inr.inr.inr.inr.inr.inr.inr.inr.inl=>
     obtain rfl:tg=13:=HTG.out.symm;apply Ru K' J _ B g ob nb rb w _ _ tc o c s' wr (HNS.out.1 hnin) HM.out hsl
     ·exact h2
     ·exact fun _ _ _ _ _ h=>h
     intros;refine h1 _ _ ?_
     (repeat apply ycs)
     exact⟨by assumption,rfl⟩
    case inr.inr.inr.inr.inr.inr.inr.inr.inr.inr.inr.inr.inr.inl=>
     obtain rfl:tg=15:=HTG.out.symm;apply TF K' J _ B g ob nb rb w _ _ tc o c s' wr trivial HM.out hsl
     ·exact h2
     ·exact fun _ _ _ _ _ h=>h
     intros;refine h1 _ _ ?_
     (repeat apply ycs)
     exact⟨by assumption,rfl⟩
    case inr.inr.inr.inr.inr.inr.inr.inr.inr.inr.inr.inr.inr.inr=>
     obtain rfl:tg=16:=HTG.out.symm;apply Qc K' J _ B g ob nb rb w _ _ tc o c s' wr (HNS.out.2 hnin) HM.out hsl
     ·exact h2
     ·exact fun _ _ _ _ _ h=>h
     intros;refine h1 _ _ ?_
     (repeat apply ycs)
     exact⟨by assumption,rfl⟩
    all_goals exact absurd (by decide) hnum
   case rest=>
    obtain⟨o2,c2,s2,hM2,hk2,hR2,hz2,hns2⟩:=TkI.next HO.out HR.out HWJ.out HZ.out HNS.out HX.out hcut;have c0:wc.cell? ⟨ob,0,none⟩=some (.int .i64 (n:Int)):=by rw[<-hk2];exact (McAt.of hM2.q).c0
    have HM2:=hid hM2;have HK2:=hid hk2;have HR2:=hid hR2;have HZ2:=hid hz2;have HNS2:=hid hns2;have hsl2:=HLS.out s2 hR2.le;clear hcut hM2 hk2 hR2 hz2 hns2;by_cases h10:n=10/\j=1
    ·obtain⟨e10,ej⟩:=h10;have f10:((n:Int)==10)=true:=by rw[e10];rfl
     have hwh:wh=false:=by
      cases hw:wh with
      | false=>rfl
      | true=>have:=HWJ.out hw;omega
     have f4:(tg==4)=true:=by
      have h1:=HX.out;rw[e10,ej,hwh] at h1;cases h1;rw[<-HTG.out];rfl
     subst hwh;have HJ:=hid (yax e10 ej);clear e10 ej;go_wp2_with fail;refine (LU B g s2 wc HM2.out.rf hsl2).mono ?_;rintro e W7 ⟨rfl,hb7⟩;have hM7:=HM2.out.later hb7;have HM7:=hid hM7;have c7:W7.cell? ⟨ob,0,none⟩=some (.int .i64 (n:Int)):=by rw[<-HK2.out];exact (McAt.of hM7.q).c0
     have RC:ReadM s 10 (lettersOf 10 (decide (s2.tagR=10))) 2 true o2 c2 s2:=by
      have h1:=HR2.out;rw[HJ.out.1,HJ.out.2] at h1;have e:decide (((10:Nat):Int)≠10\/2<=1)=false:=by decide
      rw[e] at h1;exact h1.choose
     have HRC:=hid RC;clear RC hM7 hb7 c0;by_cases ht:s2.tagR=10
     ·have f5:((s2.tagR.toNat:Int)==10)=true:=by rw[ht];rfl
      have HT10:=hid ht;clear ht;go_wp2_with fail;refine (uq (n:Int) true W7).mono ?_;rintro e W8 ⟨T',tc',rfl,hT',hb8,hty'⟩;have HM8:=hid ((HM7.out.later hb8).tag hT' hty');clear hT' hty' hb8 c7;go_wp2_with fail;go_roundw
      case rel=>
       refine⟨j+1,true,T',tc',?_,rfl,rfl,by go_num,HK.out,fun _=>by rw[HJ.out.1];rfl,o2,c2,s2,HM8.out,HK2.out,?_,fun _=>by rw[HJ.out.2];omega,?_,?_⟩
       ·rw[HJ.out.1,HJ.out.2];decide
       ·rw[HJ.out.1,HJ.out.2];have h1:=HRC.out;rw[yaa HT10.out] at h1;exact h1
       ·have h1:=HZ2.out;rw[HJ.out.1,HJ.out.2] at h1 ⊢;exact h1
       have h1:=HNS2.out;rw[HJ.out.1,HJ.out.2] at h1 ⊢;exact h1
      case measure=>simp[intOf];omega
     have f5:((s2.tagR.toNat:Int)==10)=false:=by
      rw[yap];intro e;exact ht (ybw.1 (show s2.tagR.toNat=10 by omega))
     have HT10:=hid ht;clear ht c7;go_wp2_with fail;go_roundw
     case rel=>
      refine⟨j+1,false,some ⟨tb,to_,none⟩,tc,by rw[HN.out];omega,rfl,by rw[HN.out],by go_num,HK.out,(fun h=>by cases h),o2,c2,s2,HM7.out,HK2.out,?_,(fun h=>by cases h),HZ2.out,HNS2.out⟩;rw[HJ.out.1,HJ.out.2];have h1:=HRC.out;rw[yad HT10.out] at h1;exact h1
     case measure=>simp[intOf];omega
    have HR3:Hid (ReadM s n (lettersOf n wh) (j+1) (decide ((n:Int)≠10\/2<=j+1)) o2 c2 s2):=hid (by
     have h1:=HR2.out;by_cases e:(n:Int)≠10\/2<=j
     ·rw[yaa e] at h1;rw[yaa (by omega)];exact h1
     rw[yad e] at h1;rw[yad (by omega)];exact h1)
    by_cases e10:n=10
    ·have f10:((n:Int)==10)=true:=by rw[e10];rfl
     have f4:(tg==4)=false:=by
      rw[yap,<-HTG.out];have h1:=HX.out;rw[e10] at h1;exact Sz h1 (fun e=>h10 ⟨e10,e⟩)
     clear h10 e10;go_wp2_with fail;go_roundw
     case rel=>exact⟨j+1,wh,some ⟨tb,to_,none⟩,tc,by rw[HN.out];omega,rfl,by rw[HN.out],by go_num,HK.out,HW.out,o2,c2,s2,HM2.out,HK2.out,HR3.out,fun h=>by have:=HWJ.out h;omega,HZ2.out,HNS2.out⟩
     case measure=>simp[intOf];omega
    have f10:((n:Int)==10)=false:=by rw[yap];omega
    clear h10 e10;go_wp2_with fail;go_roundw
    case rel=>exact⟨j+1,wh,some ⟨tb,to_,none⟩,tc,by rw[HN.out];omega,rfl,by rw[HN.out],by go_num,HK.out,HW.out,o2,c2,s2,HM2.out,HK2.out,HR3.out,fun h=>by have:=HWJ.out h;omega,HZ2.out,HNS2.out⟩
    case measure=>simp[intOf];omega
  have hje:j=(eP n wh).length:=by omega
  have hn2:2<=(lettersOf n wh).length\/n≠10:=by
   by_cases e:n=10
   ·left;rw[e];cases wh<;>decide
   exact .inr e
  have hjl:j=(lettersOf n wh).length:=by rw[hje];exact HTL.out
  have hRd:ReadM s o.k (lettersOf n wh) (lettersOf n wh).length true o c s':=by
   have h1:=HR.out;rw[yaa (by omega),hjl] at h1;rw[HO.out];exact h1
  have hzz:∀x∈dF,x∉lettersOf n wh->agree x o c (ay n) dO=true:=fun x hx hn=>HZ.out x hx (by rw[hjl,ybG];exact hn);have hfr0:(102:Int)∉lettersOf n wh->o.fr=0:=fun h=>yar (hzz 102 (by decide) h);have hTM:=hRd.done (W':=wr) (whole:=wh) (by rw[HO.out]) (fun hne=>by
   have hw0:wh=false:=by
    cases hw:wh with
    | false=>rfl
    | true=>exact absurd (by rw[HO.out];exact HW.out hw) hne
   refine⟨hw0,yar (hzz 119 (by decide) ?_)⟩;rw[hw0];rw[HO.out] at hne;have hk1:=HK.out;rcases (by omega:n=1\/n=2\/n=3\/n=4\/n=5\/n=6\/n=7\/n=8\/n=9\/n=11\/n=12) with rfl|rfl|rfl|rfl|rfl|rfl|rfl|rfl|rfl|rfl|rfl<;>decide) hfr0 hM.at_ hM.u hM.fr
  have hkp:wh=o.wh->Kept { o with fr:=o.fr % 7 } c:=fun hw x hx hn=>by
   have hn':x∉lettersOf n wh:=by
    have e:lettersOf o.k o.wh=lettersOf n wh:=by rw[HO.out,hw]
    rw[<-e];exact hn
   show agree x { o with fr:=o.fr % 7 } c (ay o.k) dO=true;rw[HO.out];by_cases e:x=102
   ·subst e;have:=hfr0 hn';exact yaa (show o.fr % 7=0 by rw[this];rfl)
   exact dU (nZ x 102 o { o with fr:=o.fr % 7 } c c hx (by decide) e) (hzz x hx hn')
  have HTM:=hid hTM;have HKP:=hid hkp;have HM:=hid hM;have cc4:wr.cell? ⟨nb,4,none⟩=some (.int .u64 o.fr):=eQ hM.na 4 _ rfl;have c25:=(McAt.of hM.q).c25;have hno:=hM.no.1;have hf0:=hM.fr.1;have HF1:=hid hM.fr.2;obtain⟨N,hN⟩:∃N,(eP n wh).length=N:=⟨_,rfl⟩
  rw[hN] at hje;rw[hN];have HN:=hid hN;subst hje;have hl20:j<=15:=by have:=HTL.out;omega
  clear hj hjn hn2 hjl hRd hzz hfr0 hTM hkp hM hN hl15;go_upto_region 40 with fail;go_cut [207] from 199 to 207 (fun v wk=>v=.bool (decide (7<=o.fr)||(wh != o.wh))/\TkM B g ob nb rb w T (eP n wh) tc o c s' wk)
  case first=>
   by_cases h7:7<=o.fr
   ·have f7:decide ((7:Int)<=o.fr)=true:=yaa h7;have HV:=hid (show (decide (7<=o.fr)||(wh != o.wh))=true by rw[f7];rfl);clear h7;go_wp2_with fail;go_meet
    case rel=>exact⟨by rw[HV.out],HM.out⟩
   have f7:decide ((7:Int)<=o.fr)=false:=yad h7;have HV:=hid (show (decide (7<=o.fr)||(wh != o.wh))=(wh != o.wh) by rw[f7];rfl);clear h7;go_wp2_with fail;go_meet
   case rel=>exact⟨by rw[HV.out];rfl,HM.out⟩
  case rest=>
   obtain⟨rfl,hM'⟩:=hcut;obtain⟨b,hb⟩:∃b,(decide (7<=o.fr)||(wh != o.wh))=b:=⟨_,rfl⟩
   rw[hb];have HB:=hid hb;have hcB:=hM'.rf.cell1;have hzB:=hM'.rf.fz1;have HM':=hid hM';clear hb hM' cc4 c25;go_upto_if 207 with fail;go_cut [] from 208 to 210 (fun wk=>TkM B g ob nb rb w T (eP n wh) tc o c ⟨s'.l,s'.bad||b⟩ wk)
   case first=>
    cases b with
    | true=>
     have h5:=HM'.out.flag true;go_wp2_with fail;go_meet
     case rel=>rw[Bool.or_true];exact h5
    | false=>
     have h5:=HM'.out;go_wp2_with fail;go_meet
     case rel=>rw[Bool.or_false];exact h5
   case rest=>
    clear hcB hzB HM';have hr1:Int.tmod o.fr 7=o.fr % 7:=by rw[ybW hf0]
    have hr2:IntKind.u64.wrap (o.fr % 7)=o.fr % 7:=by rw[ycC]<;>omega
    have hr3:IntKind.i64.wrap (o.fr % 7)=o.fr % 7:=gG _ (by omega) (by omega);go_upto_region 42 with fail;refine yaB (S:=fun W=>W.heap[nb]?=some (.cells (jM o) 154)) hmo ?_;change wpAnyH _ _ _ _ _ _ _ _ (World.drew wc);have hd:Below wc.heap.size wc wc.drew:=(yaj _ _).drew;have hM4:=hcut.later hd;generalize World.drew wc=Y0 at *;have t0:=hM4.na;have b0:=hM4.q;have n0:Oz Y0 ob nb o Y0 (MV.cells (kC o)):=⟨b0,t0,BelX.refl _ _ _⟩
    have HM4:=hid hM4;clear hd hcut hM4 b0;have zf0 (w0:World) (h:w0.heap[nb]?=some (.cells (jM o) 154)):w0.cell? ⟨nb,2,none⟩=some (.int .u64 o.vi):=eQ h 2 _ rfl;have zf1 (w0:World) (h:w0.heap[nb]?=some (.cells (jM o) 154)):w0.cell? ⟨nb,3,none⟩=some (.int .u64 o.no):=eQ h 3 _ rfl;have zf2 (w0:World) (h:w0.heap[nb]?=some (.cells (jM o) 154)):w0.cell? ⟨nb,4,none⟩=some (.int .u64 o.fr):=eQ h 4 _ rfl;have zf3 (w0:World) (h:w0.heap[nb]?=some (.cells (jM o) 154)):w0.cell? ⟨nb,5,none⟩=some (.int .u64 o.cl):=eQ h 5 _ rfl;have zf4 (w0:World) (h:w0.heap[nb]?=some (.cells (jM o) 154)):w0.cell? ⟨nb,6,none⟩=some (.int .u64 o.nu):=eQ h 6 _ rfl;have zf5 (w0:World) (h:w0.heap[nb]?=some (.cells (jM o) 154)):w0.cell? ⟨nb,9,none⟩=some (.int .u64 o.at_):=eQ h 9 _ rfl;have zf6 (w0:World) (h:w0.heap[nb]?=some (.cells (jM o) 154)):w0.cell? ⟨nb,10,none⟩=some (.int .u64 o.cm):=eQ h 10 _ rfl;have zf7 (w0:World) (h:w0.heap[nb]?=some (.cells (jM o) 154)):w0.cell? ⟨nb,11,none⟩=some (.int .u64 o.bs):=eQ h 11 _ rfl;have zf8 (w0:World) (h:w0.heap[nb]?=some (.cells (jM o) 154)):w0.cell? ⟨nb,14,none⟩=some (.int .u64 o.nc):=eQ h 14 _ rfl;refine zp 0 (pp nb 2) rfl ?_;go_simp;refine zv 1 (.int .u64 o.vi) rfl ?_;go_simp;refine zp 2 (pp nb 3) rfl ?_;go_simp;refine zv 3 (.int .u64 o.no) rfl ?_;go_simp;refine zp 4 (pp nb 4) rfl ?_;go_simp;refine zv 5 (.int .u64 o.fr) rfl ?_;go_simp;refine zv 6 (.int .u64 (o.fr % 7)) rfl ?_;go_simp;refine zv 7 (.int .i64 (o.fr % 7)) rfl ?_;go_simp;refine zp 8 (pp nb 5) rfl ?_;go_simp;refine zv 9 (.int .u64 o.cl) rfl ?_;go_simp;refine zp 10 (pp nb 6) rfl ?_;go_simp;refine zv 11 (.int .u64 o.nu) rfl ?_;go_simp;refine zp 12 (pp nb 9) rfl ?_;go_simp;refine zv 13 (.int .u64 o.at_) rfl ?_;go_simp;refine zp 14 (pp nb 10) rfl ?_;go_simp;refine zv 15 (.int .u64 o.cm) rfl ?_;go_simp;refine zp 16 (pp nb 11) rfl ?_;go_simp;refine zv 17 (.int .u64 o.bs) rfl ?_;go_simp;refine zp 18 (pp nb 14) rfl ?_;go_simp;refine zv 19 (.int .u64 o.nc) rfl ?_;go_simp;refine zp 20 (pp ob 1) rfl ?_;go_simp;refine zH1 21 rfl (fun K hK=>?_);have z:=eQ n0.b 1 (.int .u64 0) (by kernel_rfl);have fz:=fF n0.b 1;have n1:=n0.set hno 1 (.int .u64 o.vi);have t1:=n1.t;go_simp;refine hK _ _ ⟨t1,?_⟩;clear hK K;generalize World.setCell Y0 _ _=Y1 at *;clear z fz n0 t0;refine zp 22 (pp ob 2) rfl ?_;go_simp;refine zH1 23 rfl (fun K hK=>?_);have z:=eQ n1.b 2 (.int .u64 0) (by kernel_rfl);have fz:=fF n1.b 2;have n2:=n1.set hno 2 (.int .u64 o.no);have t2:=n2.t;go_simp;refine hK _ _ ⟨t2,?_⟩;clear hK K;generalize World.setCell Y1 _ _=Y2 at *;clear z fz n1 t1;refine zp 24 (pp ob 3) rfl ?_;go_simp;refine zH1 25 rfl (fun K hK=>?_);have z:=eQ n2.b 3 (.int .i64 0) (by kernel_rfl);have fz:=fF n2.b 3;have n3:=n2.set hno 3 (.int .i64 (o.fr % 7));have t3:=n3.t;go_simp;refine hK _ _ ⟨t3,?_⟩;clear hK K;generalize World.setCell Y2 _ _=Y3 at *;clear z fz n2 t2;refine zp 26 (pp ob 4) rfl ?_;go_simp;refine zH1 27 rfl (fun K hK=>?_);have z:=eQ n3.b 4 (.int .u64 0) (by kernel_rfl);have fz:=fF n3.b 4;have n4:=n3.set hno 4 (.int .u64 o.cl);have t4:=n4.t;go_simp;refine hK _ _ ⟨t4,?_⟩;clear hK K;generalize World.setCell Y3 _ _=Y4 at *;clear z fz n3 t3;refine zp 28 (pp ob 5) rfl ?_;go_simp;refine zH1 29 rfl (fun K hK=>?_);have z:=eQ n4.b 5 (.int .u64 0) (by kernel_rfl);have fz:=fF n4.b 5;have n5:=n4.set hno 5 (.int .u64 o.nu);have t5:=n5.t;go_simp;refine hK _ _ ⟨t5,?_⟩;clear hK K;generalize World.setCell Y4 _ _=Y5 at *;clear z fz n4 t4;refine zp 30 (pp ob 19) rfl ?_;go_simp;refine zH1 31 rfl (fun K hK=>?_);have z:=eQ n5.b 19 (.int .u64 0) (by kernel_rfl);have fz:=fF n5.b 19;have n6:=n5.set hno 19 (.int .u64 o.at_);have t6:=n6.t;go_simp;refine hK _ _ ⟨t6,?_⟩;clear hK K;generalize World.setCell Y5 _ _=Y6 at *;clear z fz n5 t5;refine zp 32 (pp ob 20) rfl ?_;go_simp;refine zH1 33 rfl (fun K hK=>?_);have z:=eQ n6.b 20 (.int .u64 0) (by kernel_rfl);have fz:=fF n6.b 20;have n7:=n6.set hno 20 (.int .u64 o.cm);have t7:=n7.t;go_simp;refine hK _ _ ⟨t7,?_⟩;clear hK K;generalize World.setCell Y6 _ _=Y7 at *;clear z fz n6 t6;refine zp 34 (pp ob 21) rfl ?_;go_simp;refine zH1 35 rfl (fun K hK=>?_);have z:=eQ n7.b 21 (.int .u64 0) (by kernel_rfl);have fz:=fF n7.b 21;have n8:=n7.set hno 21 (.int .u64 o.bs);have t8:=n8.t;go_simp;refine hK _ _ ⟨t8,?_⟩;clear hK K;generalize World.setCell Y7 _ _=Y8 at *;clear z fz n7 t7;refine zp 36 (pp ob 24) rfl ?_;go_simp;refine zH1 37 rfl (fun K hK=>?_);have z:=eQ n8.b 24 (.int .u64 0) (by kernel_rfl);have fz:=fF n8.b 24;have n9:=n8.set hno 24 (.int .u64 o.nc);have t9:=n9.t;go_simp;refine hK _ _ ⟨t9,?_⟩;clear hK K;generalize World.setCell Y8 _ _=Y9 at *;clear z fz n8 t8;refine zd ?_;have q9:Y9.heap[ob]?=some (MV.box { o with fr:=o.fr % 7 }):=n9.b.trans (by kernel_rfl);have x9:=n9.x;have hM4:=HM4.out;have hk:=hM4.keep x9;have aX:=hM4.at_.kpn hM4.ty hk;have yX:=hM4.ty.kpn hk;have hBr:B<=rb:=by have:=HRB.out;omega
    have rf9:=hM4.rf.belX x9 (by simpa using hgo) (fun k hk=>by rw[yah.1 hk];exact hBo) (fun k hk=>by rw[yah.1 hk];exact⟨_,hM4.q,TkM.not_u8 bJ⟩);have rz9:=x9.at_ hM4.rz hM4.lt.2.2 (by simpa using hM4.ro);have X9:=hM4.X.trans (x9.mono hM4.X.size (fun k hk hlt=>by have:=yah.1 hk;have:=hM4.wo;omega));have hXr:BelX Y9.heap.size [rb] Y9 (Y9.setRow rb (MV.cells { o with fr:=o.fr % 7 })):=lX (BelX.refl _ _ _) rb _ (by simp);have hk2:KeepN B Y9 (Y9.setRow rb (MV.cells { o with fr:=o.fr % 7 })):=KeepN.of_belX hXr rz9 bJ hBr;have hu:=hM4.u;have aZ:=MAt.kpn (m:={ o with fr:=o.fr % 7 }) (c:=c) ⟨aX.rq,aX.rs,aX.sn,aX.lg,aX.se,aX.ls,aX.lh⟩ ⟨yX.rq,yX.rs,yX.sn,yX.lo,yX.log,yX.ho⟩ hk2;have yZ:=MTyB.kpn (m:={ o with fr:=o.fr % 7 }) (c:=c) ⟨yX.rq,yX.rs,yX.sn,yX.lo,yX.log,yX.ho⟩ hk2;have fin:xe B g s w (.returned (.tuple #[MV.val { o with fr:=o.fr % 7 },.bool true])) (Y9.setRow rb (MV.cells { o with fr:=o.fr % 7 })):=
     ⟨⟨s'.l,s'.bad||b⟩,rf9.belX hXr (by simpa using hgr) (fun k hk=>by rw[yah.1 hk];exact hBr) (fun k hk=>by rw[yah.1 hk];exact⟨_,rz9,TkM.not_u8 bJ⟩),
      X9.trans (hXr.mono X9.size (fun k hk hlt=>by have:=yah.1 hk;have:=HRB.out;omega)),
      .inl ⟨{ o with fr:=o.fr % 7 },c,rfl,aZ,⟨hu.vi,hu.no,hu.cl,hu.nu,hu.at_,hu.cm,hu.bs,hu.nc,hu.rq,hu.log,hu.seen⟩,yZ,by show 1<=o.k/\o.k<=12;rw[HO.out];exact HK.out,(fun hb=>HKP.out (by
       dsimp only at hb;rw[yaU] at hb;have h1:=HB.out;rw[hb.2,yaU] at h1;simpa using h1.2)),by rw[<-HB.out];exact HTM.out,⟨hM4.ft.rs,hM4.ft.rl,hM4.ft.lg,hM4.ft.sn,hM4.ft.hn,hM4.ft.ln⟩,by
       obtain⟨r,hr⟩:=HKD.out;exact⟨r,by show s.l=val 1 (au o.k.toNat)++r;rw[HO.out,yct];exact hr⟩⟩⟩
    have HF:=hid fin;have f1:(Y9.setRow rb (MV.cells { o with fr:=o.fr % 7 })).heap[rb]?=some (.cells (MV.cells { o with fr:=o.fr % 7 }) 59):=aO rz9;clear fin hM4 hk aX yX rf9 X9 hXr hk2 hu aZ yZ n9 t9 x9 hr1 hr2 hr3;go_wp2_with (first | (refine zLr rfl q9 ?_;go_simp) | (refine zSr rfl rz9 ?_;go_simp));exact yay (w:=Y9.setRow rb (MV.cells { o with fr:=o.fr % 7 })) (aj (i:=2) (j:=3) (t:=59) rfl rfl rfl (by kernel_rfl) (by kernel_rfl) f1) rfl HF.out
theorem Oy {W W':World}{b:List UInt8}{o m:MV}{c d:MC}{s':RS}(T:TookM ⟨b,false⟩ o c s')(hb:b.length<=8388608)(h:MAt W o c)(hu:U64M o c)(hk:1<=o.k/\o.k<=12)(hz:s'.bad=false->Kept o c)(hM:MayM W' m d)(e:dL m d=b):bY o c=true:=by
 obtain⟨h1,h2⟩:=T.go rfl W' m d [] hM (by rw[yaD];exact e.symm);obtain⟨-,e2,g,f0,f7⟩:=T.yes h1;dsimp only at e2;rw[h2,yaD] at e2;obtain⟨k1,k2,k3,-⟩:=zU (r:=[]) (r':=[]) hM.at_ h hM.u hu hM.k hk (fun x hx=>(hM.may x hx).g hM.at_) g (by rw[e,e2]);have hz:=hz h1;have ln1:=h.lg.len;have ln2:=hM.at_.lg.len;have hn1:=h.se.1;have hn2:=hM.at_.se.1;rw[iq] at hn1 hn2;have hln:o.ln<=4096:=by
  by_cases hm:(108:Int)∈lettersOf o.k o.wh
  ·have a:=jB (show bH d.log c.log=true from k3 108 (by rw[k2];exact hm));have:=((hM.may 108 (by rw[k2];exact hm)).log rfl).2.2;omega
  have a:=jB (show bH c.log []=true from hz 108 (by decide) hm);simp at a;rw[a] at ln1;simp at ln1;omega
 have hhn:o.hn<=7:=by
  by_cases hm:(101:Int)∈lettersOf o.k o.wh
  ·have a:d.seen=c.seen:=yar (show decide (d.seen=c.seen)=true from k3 101 (by rw[k2];exact hm));have:=(hM.may 101 (by rw[k2];exact hm)).seen rfl;rw[<-a] at hn1;omega
  have a:c.seen=[]:=yar (show decide (c.seen=[])=true from hz 101 (by decide) hm);rw[a] at hn1;simp at hn1;omega
 exact (Ei hb hk h g ⟨f0,f7⟩ ⟨hln,hhn⟩ hz e2).1
