/-
  A part of the proof.
-/
import Derived.Test.YtfmmandlmbcncaaGreatDoorKdbo
set_option maxHeartbeats 40000000
set_option maxRecDepth 100000
namespace Go.Proofs.YtfmmandlmbcncaaGreatDoor.Msg
open Go.RowKit Go.Lib Mem Tlv
theorem Qb:Pj (.int .u8 8) 114 (fun _=>True):=by
 intro K J Q' B g ob nb rb w T l8 tc o c s V0 _ h hl;intros;rename_i h2 hQP hJ;conv=>arg 2;whnf
 have hmo:Tryz.prog.follows .mixedOrders=true:=by kernel_rfl
 have T3:=bI s 8 (by decide);have hl3:=iM s 8;have hby:=jS B g s 8 V0 h.rf hl;unfold iU at hby;generalize RS.bytes s 8=y at *;obtain⟨y,l3,bad⟩:=y;dsimp only at T3 hby hl3;have HT:=hid T3;have H:=hid h;clear T3 h;go_wp2_with fail;refine hby.mono ?_;rintro e W1 ⟨hR1,hg1,a1,k1,rfl,hrd1,hty1⟩;have h1:=H.out.grown hg1 hR1;have hBW:B<=W1.heap.size:=by have:=h1.lt.1;have:=h1.wo;have:=h1.Bg;have:=h1.gw;omega
 clear hby hR1 hg1 H;have H:=hid h1;clear h1;go_wp2_with fail;refine (zW B y a1 y.length k1 W1 hrd1 hBW hty1 (by omega)).mono ?_;rintro e W2 hA;obtain⟨ok,r,cr,rfl,oY,tY,hb2,hrl,hans⟩:=Kw hA;have HRL:Hid ((dG r cr).length<=4194304):=hid (by
  rcases hans with ⟨-,-,e⟩ | ⟨e,-⟩
  ·rw[e];exact hl3
  have:=hrl e;omega)
 clear hrl;have HA:=hid hans;have h2':=H.out.later hb2;clear hA hans hb2 hrd1 hty1 hBW H;have H:=hid h2';clear h2';unfold QV.val QV.cells;go_upto_region 20 with (refine zNr rfl ?_;go_simp);generalize hg:W2.alloc _=W3;have e3:W2.alloc r.box=W3:=hg;have hb3:Below W2.heap.size W2 W3:=by rw[<-e3];exact (Below.refl _ _).alloc (Nat.le_refl _) _
 have q3:W3.heap[W2.heap.size]?=some r.box:=by rw[<-e3];exact at_new _ _
 have h3:=H.out.later hb3;have hyo:W2.heap.size≠ob:=by have:=H.out.lt.1;omega
 have o3:=oY.later hb3;have t3:=tY.kpn (KeepN.of_below hb3);clear hg e3 H oY tY hb3;generalize W2.heap.size=yb at *;refine ed (k:=14) (S:=fun W=>W.heap[yb]?=some r.box/\W.cell? ⟨g,1,none⟩=some (.bool bad)) hmo ?_;change dh _ _ _ _ _ _ _ _ _ (World.drew W3);have hd:Below W3.heap.size W3 W3.drew:=(Below.refl _ _).drew;have h0:=h3.later hd;have q0:=(hd.block _ (Array.getElem?_eq_some_iff.1 q3).1).trans q3;have o0:=o3.later hd;have ty0:=t3.kpn (KeepN.of_below hd);generalize World.drew W3=X0 at *;clear hd h3 q3 o3 t3;have t0:X0.heap[yb]?=some r.box/\X0.cell? ⟨g,1,none⟩=some (.bool bad):=⟨q0,h0.rf.cell1⟩
 have hX:BelX X0.heap.size [ob] X0 (iD X0 ob r):=xK (.inl (by simp));have hk:=h0.keep hX;have hq1:(iD X0 ob r).heap[ob]?=some (jL (aK 114 o { o with rs:=r })).box:=(Bc h0.q).trans (by kernel_rfl);have oX:=o0.kpn ty0 hk;have tX:=ty0.kpn hk;have aX:=h0.at_.kpn h0.ty hk;have yX:=h0.ty.kpn hk;have h1:TkM B g ob nb rb w T l8 tc (aK 114 o { o with rs:=r }) (dE 114 c { c with rs:=cr }) ⟨l3,bad⟩ (iD X0 ob r):=
  h0.box hX hq1 rfl rfl ⟨aX.rq,oX,aX.sn,aX.lg,aX.se,aX.ls,aX.lh⟩ ⟨h0.u.vi,h0.u.no,h0.u.cl,h0.u.nu,h0.u.at_,h0.u.cm,h0.u.bs,h0.u.nc,h0.u.rq,h0.u.log,h0.u.seen⟩ ⟨yX.rq,tX,yX.sn,yX.lo,yX.log,yX.ho⟩ ⟨fun _=>by have h1:=HRL.out;rw[lT] at h1;show (dm cr.ents).length<=4194304;omega,fun _=>HRL.out,h0.ft.lg,h0.ft.sn,h0.ft.hn,h0.ft.ln⟩
 have t1:(iD X0 ob r).heap[yb]?=some r.box/\(iD X0 ob r).cell? ⟨g,1,none⟩=some (.bool bad):=⟨CG q0 hyo,h1.rf.cell1⟩
 have hS:StepX 114 s (aK 114 o { o with rs:=r }) (dE 114 c { c with rs:=cr }) ⟨l3,bad||!ok⟩:=Bi (s1:=⟨l3,bad⟩) HT.out (fun hh=>by
   rcases HA.out with ⟨-,a2,a3⟩ | ⟨a1,-⟩
   ·exact⟨a2,a3⟩
   ·rw[a1] at hh;cases hh) (fun hh=>by
   rcases HA.out with ⟨a1,-⟩ | ⟨-,a2⟩
   ·rw[a1] at hh;cases hh
   exact a2)
 have HS:=hid hS;clear hX hk hq1 oX tX aX yX q0 o0 ty0 hyo HA HT hS;cases bad with
 | true=>
  refine zTq 0 (.pointer (some ⟨g,0,none⟩)) rfl (fun a b c h=>hQP a b _ _ c h) t0 ?_;go_simp;refine fB (i:=1) (v:=.agg #[.int .i64 r.code,.bool r.yes,.slice r.eo r.en r.ec,.slice r.co r.cn r.cc]) rfl (by kernel_rfl) (by kernel_rfl) (by kernel_rfl) (by kernel_rfl) (by decide) (by kernel_rfl) (by kernel_rfl) (fun ch a1 w1 h=>hQP ch a1 _ _ w1 h) (Or.inl ⟨by kernel_rfl,by rintro w2 h2;have cc:=h2.2;exact kE (cs:=r.cells) h2.1 rfl rfl (by kernel_rfl) (by kernel_rfl)⟩) t0 ?_;go_simp;refine zTq 2 (.pointer (some ⟨g,0,none⟩)) rfl (fun a b c h=>hQP a b _ _ c h) t0 ?_;go_simp;refine zTq 3 (.pointer (some ⟨g,0,none⟩)) rfl (fun a b c h=>hQP a b _ _ c h) t0 ?_;go_simp;refine zTq 4 (.pointer (some ⟨g,1,none⟩)) rfl (fun a b c h=>hQP a b _ _ c h) t0 ?_;go_simp;refine fB (i:=5) (v:=.bool true) rfl (by kernel_rfl) (by kernel_rfl) (by kernel_rfl) (by kernel_rfl) (by decide) (by kernel_rfl) (by kernel_rfl) (fun ch a1 w1 h=>hQP ch a1 _ _ w1 h) (Or.inl ⟨by kernel_rfl,by rintro w2 h2;have cc:=h2.2;go_simp⟩) t0 ?_;go_simp;refine zTq 6 (.bool true) rfl (fun a b c h=>hQP a b _ _ c h) t0 ?_;go_simp;refine fB (i:=7) (v:=undef) rfl (by kernel_rfl) (by kernel_rfl) (by kernel_rfl) (by kernel_rfl) (by decide) (by kernel_rfl) (by kernel_rfl) (fun ch a1 w1 h=>hQP ch a1 _ _ w1 h) (Or.inr ⟨by kernel_rfl,rfl⟩) t0 ?_;go_simp;refine fB (i:=8) (v:=undef) rfl (by kernel_rfl) (by kernel_rfl) (by kernel_rfl) (by kernel_rfl) (by decide) (by kernel_rfl) (by kernel_rfl) (fun ch a1 w1 h=>hQP ch a1 _ _ w1 h) (Or.inr ⟨by kernel_rfl,rfl⟩) t0 ?_;go_simp;refine zTq 9 (.bool true) rfl (fun a b c h=>hQP a b _ _ c h) t0 ?_;go_simp;refine zTq 10 (.pointer (some ⟨ob,15,none⟩)) rfl (fun a b c h=>hQP a b _ _ c h) t0 ?_;go_simp;refine zT1 11 rfl (fun K hK=>?_);have c15:=(McAt.of h0.q).c15;have c16:=(McAt.of h0.q).c16;have c17:=(McAt.of h0.q).c17;have c18:=(McAt.of h0.q).c18;have zf:=dw h0.q;go_simp;clear c15 c16 c17 c18 zf;refine hK _ (iD X0 ob r) ⟨.inr t1,?_⟩;clear hK K;generalize iD X0 ob r=X1 at *;clear h0 t0;refine zTq 12 (.pointer (some ⟨g,0,none⟩)) rfl (fun a b c h=>hQP a b _ _ c h) t1 ?_;go_simp;refine zTq 13 (.pointer (some ⟨g,1,none⟩)) rfl (fun a b c h=>hQP a b _ _ c h) t1 ?_;go_simp;have cB:=h1.rf.cell1;have zB:=h1.rf.fz1;refine dH (by kernel_rfl) (by kernel_rfl) ?_;refine zA1 14 rfl (fun K hK=>?_);go_simp;refine hK _ _ ?_;clear hK K;refine wpAny_done (by kernel_rfl) ?_ _;have h5:=h1.flag true;go_wp2_with fail;refine Met.intro ?_;apply hJ;exact⟨_,_,_,h5,HS.out⟩
 | false=>
  refine zTq 0 (.pointer (some ⟨g,0,none⟩)) rfl (fun a b c h=>hQP a b _ _ c h) t0 ?_;go_simp;refine fB (i:=1) (v:=.agg #[.int .i64 r.code,.bool r.yes,.slice r.eo r.en r.ec,.slice r.co r.cn r.cc]) rfl (by kernel_rfl) (by kernel_rfl) (by kernel_rfl) (by kernel_rfl) (by decide) (by kernel_rfl) (by kernel_rfl) (fun ch a1 w1 h=>hQP ch a1 _ _ w1 h) (Or.inl ⟨by kernel_rfl,by rintro w2 h2;have cc:=h2.2;exact kE (cs:=r.cells) h2.1 rfl rfl (by kernel_rfl) (by kernel_rfl)⟩) t0 ?_;go_simp;refine zTq 2 (.pointer (some ⟨g,0,none⟩)) rfl (fun a b c h=>hQP a b _ _ c h) t0 ?_;go_simp;refine zTq 3 (.pointer (some ⟨g,0,none⟩)) rfl (fun a b c h=>hQP a b _ _ c h) t0 ?_;go_simp;refine zTq 4 (.pointer (some ⟨g,1,none⟩)) rfl (fun a b c h=>hQP a b _ _ c h) t0 ?_;go_simp;refine fB (i:=5) (v:=.bool false) rfl (by kernel_rfl) (by kernel_rfl) (by kernel_rfl) (by kernel_rfl) (by decide) (by kernel_rfl) (by kernel_rfl) (fun ch a1 w1 h=>hQP ch a1 _ _ w1 h) (Or.inl ⟨by kernel_rfl,by rintro w2 h2;have cc:=h2.2;go_simp⟩) t0 ?_;go_simp;refine zTq 6 (.bool false) rfl (fun a b c h=>hQP a b _ _ c h) t0 ?_;go_simp;refine zTq 7 (.bool ok) rfl (fun a b c h=>hQP a b _ _ c h) t0 ?_;go_simp;refine fB (i:=8) (v:=.bool (!ok)) rfl (by kernel_rfl) (by kernel_rfl) (by kernel_rfl) (by kernel_rfl) (by decide) (by kernel_rfl) (by kernel_rfl) (fun ch a1 w1 h=>hQP ch a1 _ _ w1 h) (Or.inl ⟨by kernel_rfl,by rintro w2 h2;have cc:=h2.2;go_simp⟩) t0 ?_;go_simp;refine zTq 9 (.bool (!ok)) rfl (fun a b c h=>hQP a b _ _ c h) t0 ?_;go_simp;refine zTq 10 (.pointer (some ⟨ob,15,none⟩)) rfl (fun a b c h=>hQP a b _ _ c h) t0 ?_;go_simp;refine zT1 11 rfl (fun K hK=>?_);have c15:=(McAt.of h0.q).c15;have c16:=(McAt.of h0.q).c16;have c17:=(McAt.of h0.q).c17;have c18:=(McAt.of h0.q).c18;have zf:=dw h0.q;go_simp;clear c15 c16 c17 c18 zf;refine hK _ (iD X0 ob r) ⟨.inr t1,?_⟩;clear hK K;generalize iD X0 ob r=X1 at *;clear h0 t0;refine zTq 12 (.pointer (some ⟨g,0,none⟩)) rfl (fun a b c h=>hQP a b _ _ c h) t1 ?_;go_simp;refine zTq 13 (.pointer (some ⟨g,1,none⟩)) rfl (fun a b c h=>hQP a b _ _ c h) t1 ?_;go_simp;have cB:=h1.rf.cell1;have zB:=h1.rf.fz1;refine dH (by kernel_rfl) (by kernel_rfl) ?_;refine zA1 14 rfl (fun K hK=>?_);go_simp;refine hK _ _ ?_;clear hK K;refine wpAny_done (by kernel_rfl) ?_ _;have h5:=h1.flag (!ok);go_wp2_with fail;refine Met.intro ?_;apply hJ;exact⟨_,_,_,h5,HS.out⟩
theorem Ld (k:Int)(wh:Bool):(dZ k wh).length=(lettersOf k wh).length:=by unfold dZ;rw[List.length_map]
theorem O1 (B g:Nat)(s:RS)(w:World)(hr:RfS B g s w)(hB:B<=w.heap.size)(hl:s.l.length<=100000000)(hsb:s.bad=false)(r0:List UInt8)(hse:s.l=val 1 (az 2)++r0):Calls Tryz.prog 54 #[.pointer (some ⟨g,0,none⟩)] w (DV B g s w):=by
 have hmo:Tryz.prog.follows .mixedOrders=true:=by kernel_rfl
 have hgw:=hr.lt;have hBg:=hr.le;have hb0:Below w.heap.size w (w.alloc (ay 0).box):=(Below.refl _ _).alloc (Nat.le_refl _) _;have k0:(w.alloc (ay 0).box).heap[w.heap.size]?=some (ay 0).box:=at_new _ _;have hz0:(w.alloc (ay 0).box).heap.size=w.heap.size+1:=by simp
 have hr0:=hr.later hb0;unfold ay dN aA zeroV MV.box MV.cells at hb0 k0 hz0 hr0;dsimp only at hb0 k0 hz0 hr0;go_in;go_upto_region 1 with fail;generalize hg:w.alloc _=W0 at *;have k0f:W0.heap[w.heap.size]?=some (ay 0).box:=k0;clear hg k0;have HZ0:=hid hz0;clear hz0;go_upto_region 2 with (refine zNr rfl ?_;go_simp);generalize hg:W0.alloc _=W1;have e1:W0.alloc (ay 0).box=W1:=hg;have hb1:Below W0.heap.size W0 W1:=by rw[<-e1];exact (Below.refl _ _).alloc (Nat.le_refl _) _
 have q1:W1.heap[W0.heap.size]?=some (ay 0).box:=by rw[<-e1];exact at_new _ _
 have hR1:=hr0.later hb1;have rz1:=ag k0f hb1;have X1:BelX w.heap.size [g] w W1:=(BelX.of_below hb0 [g]).trans ((BelX.of_below hb1 [g]).mono hb0.size (fun _ hk _=>hk));have hwo:w.heap.size<=W0.heap.size:=hb0.size;have hro:w.heap.size≠W0.heap.size:=by have:=HZ0.out;omega
 clear hg e1 hr0 k0f hb0 hb1 HZ0;obtain⟨ob,hob⟩:∃ob,W0.heap.size=ob:=⟨_,rfl⟩
 rw[hob] at q1 hwo hro;have HOB:=hid hob;rw[hob];obtain⟨rb,hrb⟩:∃rb,w.heap.size=rb:=⟨_,rfl⟩
 rw[hrb] at rz1 hro;rw[hrb];have HRB:=hid hrb;clear hob hrb;have T1:=jH s 1 (by decide);have hnum:=uF B g s 1 W1 hR1 hl;generalize RS.num s 1=nm at *;obtain⟨n,s1⟩:=nm;dsimp only at T1 hnum;have HT1:=hid T1;clear T1;go_wp2_with fail;refine hnum.mono ?_;rintro e W2 ⟨rfl,hR2,hg2⟩;have hgo:g≠ob:=by omega
 have hgr:g≠rb:=by have:=HRB.out;omega
 have q2:W2.heap[ob]?=some (ay 0).box:=(hg2.block _ (Array.getElem?_eq_some_iff.1 q1).1 (fun e=>hgo (Option.some.inj e).symm)).trans q1;have rz2:W2.heap[rb]?=some (ay 0).box:=(hg2.block _ (Array.getElem?_eq_some_iff.1 rz1).1 (fun e=>hgr (Option.some.inj e).symm)).trans rz1;have X2:BelX w.heap.size [g] w W2:=X1.trans ((BelX.of_grown hg2).mono X1.size (fun _ hk _=>hk));clear hnum hR1 hg2 q1 rz1 X1;have hb1:=(jv HT1.out (fun z r r' _ _ e=>(ak (by decide) (by rw[ah];omega) (by rw[ah];omega) e).2) hsb (z:=2) (by decide) hse).1;have HN2:Hid (n=2):=hid (by
  obtain⟨-,e2,gg⟩:=HT1.out.yes hb1;exact gV gg (by decide) (ak (t:=1) (by decide) (by rw[ah];omega) (by rw[ah];omega) (e2.symm.trans hse)).1)
 have hn1:1<=n:=by have:=HN2.out;omega
 have hn2:n<=12:=by have:=HN2.out;omega
 clear hsb hse;have R0:=ReadM.first (o:=ay n) (c:=dI) (jr HT1.out (fun _ (h:_<=12)=>by omega) (fun _ h=>h)) ⟨hn1,hn2⟩;have HR0:=hid R0;have HKD:Hid (∃r,s.l=val 1 (az n)++r):=hid ⟨s1.l,(HT1.out.yes hb1).2.1⟩;have cB:=hR2.cell1;rw[hb1] at cB;have f1:decide ((n:Int)<1)=false:=decide_eq_false (by omega);have f2:decide ((12:Int)<(n:Int))=false:=decide_eq_false (by omega);have hw1:IntKind.i64.wrap (n:Int)=(n:Int):=gB _ (by omega) (by omega);have hls1:s1.l.length<=100000000:=by have:=HT1.out.le;omega
 have c0:=(McAt.of q2).c0;have zf0:=dw q2 0;clear R0 hb1;go_upto_region 6 with fail;have q3:(W2.setCell ⟨ob,0,none⟩ (.int .i64 (n:Int))).heap[ob]?=some (ay n).box:=(at_set q2).trans (by kernel_rfl);have rz3:=af (i:=0) (x:=.int .i64 (n:Int)) rz2 hro;have hX3:BelX W2.heap.size [ob] W2 (W2.setCell ⟨ob,0,none⟩ (.int .i64 (n:Int))):=(BelX.refl _ _ _).set _ _ _ (.inl (by simp));have hBo:B<=ob:=by omega
 have hR3:=hR2.belX hX3 (by simpa using hgo) (fun k hk=>by rw[List.mem_singleton.1 hk];exact hBo) (fun k hk=>by rw[List.mem_singleton.1 hk];exact⟨_,q2,TkM.not_u8 bZ⟩);have X3:=X2.trans (hX3.mono X2.size (fun k hk hlt=>by have:=List.mem_singleton.1 hk;omega));generalize World.setCell W2 _ _=W3 at *;clear c0 zf0 q2 rz2 hX3 hR2 X2 cB f1 f2 hw1;go_upto_region 7 with fail;generalize hg:W3.alloc _=W4;have e4:W3.alloc (.cells (bM 0 0 0 0 0 0 0 0 0 0 0 0 0 0 0) 154)=W4:=hg;have hb4:Below W3.heap.size W3 W4:=by rw[<-e4];exact (Below.refl _ _).alloc (Nat.le_refl _) _
 have na4:W4.heap[W3.heap.size]?=some (.cells (bM 0 0 0 0 0 0 0 0 0 0 0 0 0 0 0) 154):=by rw[<-e4];exact at_new _ _
 have q4:=ag q3 hb4;have rz4:=ag rz3 hb4;have hR4:=hR3.later hb4;have X4:BelX w.heap.size [g] w W4:=X3.trans ((BelX.of_below hb4 [g]).mono X3.size (fun _ hk _=>hk));have hwn:w.heap.size<=W3.heap.size:=X3.size;clear hg e4 hb4 q3 rz3 hR3 X3;generalize W3.heap.size=nb at *;have c0:=(McAt.of q4).c0;go_wp2_with fail;refine (xH (n:Int) false W4).mono ?_;rintro e W5 ⟨T,tc,rfl,hT,hb5,hty⟩;have q5:=ag q4 hb5;have rz5:=ag rz4 hb5;have hR5:=hR4.later hb5;have na5:=(hb5.block _ (Array.getElem?_eq_some_iff.1 na4).1).trans na4;have X5:BelX w.heap.size [g] w W5:=X4.trans ((BelX.of_below hb5 [g]).mono X4.size (fun _ hk _=>hk));have z00:(0:Int)<=0/\(0:Int)<18446744073709551616:=by decide
 have hTk:TkM B g ob nb rb w T (dZ n false) tc (ay n) dI s1 W5:=
  ⟨hR5,X5,q5,na5,jh W5 n,⟨z00,z00,z00,z00,z00,z00,z00,z00,⟨z00.1,z00.2,z00.1,z00.2⟩,fun _ hp=>(by cases hp),fun _ hp=>(by cases hp)⟩,
   ⟨⟨fun h=>absurd h (Nat.lt_irrefl 0),fun h=>absurd h (Nat.lt_irrefl 0),fun h=>absurd h (Nat.lt_irrefl 0)⟩,⟨fun h=>absurd h (Nat.lt_irrefl 0),fun _ hp=>(by cases hp),fun h=>absurd h (Nat.lt_irrefl 0)⟩,fun h=>absurd h (Nat.lt_irrefl 0),fun h=>absurd h (Nat.lt_irrefl 0),fun _ hp=>(by cases hp),fun h=>absurd h (Nat.lt_irrefl 0)⟩,
   z00,hT,hty,rz5,hgw,hBg,hwo,hwn,Nat.le_of_eq HRB.out,hro,PX _⟩
 have hI0:TkI B g ob nb rb s w n false T tc 0 W5:=⟨⟨by omega,by omega⟩,(fun h=>by cases h),_,_,_,hTk,rfl,(by
   have h1:=HR0.out;have e:decide (((n:Nat):Int)≠10\/2<=0)=decide (n≠10):=by
    by_cases e:n=10
    ·rw[decide_eq_false (by omega),decide_eq_false (by omega)]
    rw[decide_eq_true (by omega),decide_eq_true (by omega)]
   rw[e];exact h1),(fun h=>by cases h),(fun x hx _=>jW _ _ _),⟨fun _=>⟨rfl,rfl,rfl⟩,fun _=>⟨rfl,rfl,rfl⟩⟩⟩
 have hls:∀s':RS,s'.l.length<=s.l.length->s'.l.length<=100000000:=fun s' h=>by omega
 have HLS:=hid hls;clear c0 q4 rz4 hR4 na4 X4 hb5 hT hty q5 rz5 hR5 na5 X5 hTk hls z00 HR0 hls1;go_wp2_with fail;go_loopw [7,8,9] (fun v7 v8 v9 wr=>∃(j:Nat) (wh:Bool) (T:Option Addr) (tc:Nat),j<=(dZ n wh).length/\v7=.bool wh/\v8=.slice T (dZ n wh).length tc/\v9=.int .i64 (j:Int)/\TkI B g ob nb rb s w n wh T tc j wr) (fun _ _ v9 _=>20-(intOf v9).toNat)
 case atStart=>exact⟨0,false,T,tc,Nat.zero_le _,rfl,rfl,rfl,hI0⟩
 case round=>
  obtain⟨j,wh,T,tc,hj,rfl,rfl,rfl,hI⟩:=hrel;obtain⟨o,c,s',hM,ho,hR,hwj,hz,hns⟩:=hI.ex;have hl15:=kV (n:Int) wh;have HTL:=hid (Ld (n:Int) wh);have HR:=hid hR;have HZ:=hid hz;have HNS:=hid hns;have HWJ:=hid hwj;have HK:=hid hI.k;have HW:=hid hI.hw;have HO:=hid ho;clear hI0 hI hR hz hns hwj ho;by_cases hjn:j<(dZ n wh).length
  ·obtain⟨x,hx⟩:∃x,(lettersOf n wh)[j]?=some x:=⟨_,List.getElem?_eq_getElem (by rw[<-HTL.out];exact hjn)⟩
   obtain⟨tb,to_,hT,htl,htc⟩:=hM.tags.some (by have:=hM.tags.le;omega);have htag:=htc j _ (Dl n wh j x hx);have HX:=hid hx;have hj20:j<20:=by have:=HTL.out;omega
   have hsl:=HLS.out s' HR.out.le;have hlen:(dZ n wh).length<=15:=by have:=HTL.out;omega
   obtain⟨N,hN⟩:∃N,(dZ n wh).length=N:=⟨_,rfl⟩
   have hcap:=hM.tags.le;subst hT;have HM:=hid hM;have hxm:=List.mem_of_getElem? hx;have hxa:=iY x hxm;have HXM:=hid (And.intro hxm hxa);rw[hN] at hjn hcap hlen;rw[hN];have HN:=hid hN;have i0:(0:Int)<=(j:Int):=by omega
   have i1:(j:Int)<(N:Int):=by omega
   obtain⟨tg,htg⟩:∃tg:Int,((jB x).toNat:Int)=tg:=⟨_,rfl⟩
   rw[htg] at htag;have HTG:=hid htg;clear hx htc hM hj hN hxm hxa hl15 htl htg
   go_upto_block 2 with fail
   go_cut [] from 53 to 183 (fun wk=>SwM B g ob nb rb w (some ⟨tb,to_,none⟩) (dZ n wh) tc x o c s' wk)
   case first=>
    rename_i J K' h1 h2;have hx4:x∈[118,110,102,99,117,97,109,98,111]\/x=114:=by
     have hxm:=HXM.out.1;rw[HN2.out] at hxm;have e:lettersOf ((2:Nat):Int) wh=[118,99,117,114]:=by cases wh<;>rfl
     rw[e] at hxm;simp only[List.mem_cons,List.not_mem_nil,or_false] at hxm ⊢;omega
    rcases hx4 with hnum | rfl
    ·obtain rfl:tg=(((jB x).toNat:Int):Int):=HTG.out.symm;apply OZ x (jB x).toNat hnum rfl K' J _ B g ob nb rb w _ _ tc o c s' wr trivial HM.out hsl
     ·exact h2
     ·exact fun _ _ _ _ _ h=>h
     intros;refine h1 _ _ ?_
     (repeat apply Exists.intro)
     exact⟨by assumption,rfl⟩
    obtain rfl:tg=(8:Int):=HTG.out.symm;apply Qb K' J _ B g ob nb rb w _ _ tc o c s' wr trivial HM.out hsl
    ·exact h2
    ·exact fun _ _ _ _ _ h=>h
    intros;refine h1 _ _ ?_
    (repeat apply Exists.intro)
    exact⟨by assumption,rfl⟩
   case rest=>
    obtain⟨o2,c2,s2,hM2,hk2,hR2,hz2,hns2⟩:=TkI.next HO.out HR.out HWJ.out HZ.out HNS.out HX.out hcut;have c0:wc.cell? ⟨ob,0,none⟩=some (.int .i64 (n:Int)):=by rw[<-hk2];exact (McAt.of hM2.q).c0
    have HM2:=hid hM2;have HK2:=hid hk2;have HR2:=hid hR2;have HZ2:=hid hz2;have HNS2:=hid hns2;have hsl2:=HLS.out s2 hR2.le;clear hcut hM2 hk2 hR2 hz2 hns2;have h10:¬(n=10/\j=1):=by have:=HN2.out;omega
    have HR3:Hid (ReadM s n (lettersOf n wh) (j+1) (decide ((n:Int)≠10\/2<=j+1)) o2 c2 s2):=hid (by
     have h1:=HR2.out;by_cases e:(n:Int)≠10\/2<=j
     ·rw[decide_eq_true e] at h1;rw[decide_eq_true (by omega)];exact h1
     rw[decide_eq_false e] at h1;rw[decide_eq_false (by omega)];exact h1)
    have e10:¬n=10:=by have:=HN2.out;omega
    have f10:((n:Int)==10)=false:=by rw[beq_eq_false_iff_ne];omega
    clear h10 e10;go_wp2_with fail;go_roundw
    case rel=>exact⟨j+1,wh,some ⟨tb,to_,none⟩,tc,by rw[HN.out];omega,rfl,by rw[HN.out],by go_num,HK.out,HW.out,o2,c2,s2,HM2.out,HK2.out,HR3.out,fun h=>by have:=HWJ.out h;omega,HZ2.out,HNS2.out⟩
    case measure=>simp[intOf];omega
  have hje:j=(dZ n wh).length:=by omega
  have hn2:2<=(lettersOf n wh).length\/n≠10:=by
   by_cases e:n=10
   ·left;rw[e];cases wh<;>decide
   exact .inr e
  have hjl:j=(lettersOf n wh).length:=by rw[hje];exact HTL.out
  have hRd:ReadM s o.k (lettersOf n wh) (lettersOf n wh).length true o c s':=by
   have h1:=HR.out;rw[decide_eq_true (by omega),hjl] at h1;rw[HO.out];exact h1
  have hzz:∀x∈dA,x∉lettersOf n wh->agree x o c (ay n) dI=true:=fun x hx hn=>HZ.out x hx (by rw[hjl,List.take_length];exact hn);have hfr0:(102:Int)∉lettersOf n wh->o.fr=0:=fun h=>of_decide_eq_true (hzz 102 (by decide) h);have hTM:=hRd.done (W':=wr) (whole:=wh) (by rw[HO.out]) (fun hne=>by
   have hw0:wh=false:=by
    cases hw:wh with
    | false=>rfl
    | true=>exact absurd (by rw[HO.out];exact HW.out hw) hne
   refine⟨hw0,of_decide_eq_true (hzz 119 (by decide) ?_)⟩;rw[hw0];rw[HO.out] at hne;have hk1:=HK.out;rcases (by omega:n=1\/n=2\/n=3\/n=4\/n=5\/n=6\/n=7\/n=8\/n=9\/n=11\/n=12) with rfl|rfl|rfl|rfl|rfl|rfl|rfl|rfl|rfl|rfl|rfl<;>decide) hfr0 hM.at_ hM.u hM.fr
  have hkp:wh=o.wh->Kept { o with fr:=o.fr % 7 } c:=fun hw x hx hn=>by
   have hn':x∉lettersOf n wh:=by
    have e:lettersOf o.k o.wh=lettersOf n wh:=by rw[HO.out,hw]
    rw[<-e];exact hn
   show agree x { o with fr:=o.fr % 7 } c (ay o.k) dI=true;rw[HO.out];by_cases e:x=102
   ·subst e;have:=hfr0 hn';exact decide_eq_true (show o.fr % 7=0 by rw[this];rfl)
   exact dQ (mf x 102 o { o with fr:=o.fr % 7 } c c hx (by decide) e) (hzz x hx hn')
  have HTM:=hid hTM;have HKP:=hid hkp;have HM:=hid hM;have cc4:wr.cell? ⟨nb,4,none⟩=some (.int .u64 o.fr):=gG hM.na 4 _ rfl;have c25:=(McAt.of hM.q).c25;have hno:=hM.no.1;have hf0:=hM.fr.1;have HF1:=hid hM.fr.2;obtain⟨N,hN⟩:∃N,(dZ n wh).length=N:=⟨_,rfl⟩
  rw[hN] at hje;rw[hN];have HN:=hid hN;subst hje;have hl20:j<=15:=by have:=HTL.out;omega
  clear hj hjn hn2 hjl hRd hzz hfr0 hTM hkp hM hN hl15;go_upto_region 40 with fail;go_cut [207] from 199 to 207 (fun v wk=>v=.bool (decide (7<=o.fr)||(wh != o.wh))/\TkM B g ob nb rb w T (dZ n wh) tc o c s' wk)
  case first=>
   by_cases h7:7<=o.fr
   ·have f7:decide ((7:Int)<=o.fr)=true:=decide_eq_true h7;have HV:=hid (show (decide (7<=o.fr)||(wh != o.wh))=true by rw[f7];rfl);clear h7;go_wp2_with fail;go_meet
    case rel=>exact⟨by rw[HV.out],HM.out⟩
   have f7:decide ((7:Int)<=o.fr)=false:=decide_eq_false h7;have HV:=hid (show (decide (7<=o.fr)||(wh != o.wh))=(wh != o.wh) by rw[f7];rfl);clear h7;go_wp2_with fail;go_meet
   case rel=>exact⟨by rw[HV.out];rfl,HM.out⟩
  case rest=>
   obtain⟨rfl,hM'⟩:=hcut;obtain⟨b,hb⟩:∃b,(decide (7<=o.fr)||(wh != o.wh))=b:=⟨_,rfl⟩
   rw[hb];have HB:=hid hb;have hcB:=hM'.rf.cell1;have hzB:=hM'.rf.fz1;have HM':=hid hM';clear hb hM' cc4 c25;go_upto_if 207 with fail;go_cut [] from 208 to 210 (fun wk=>TkM B g ob nb rb w T (dZ n wh) tc o c ⟨s'.l,s'.bad||b⟩ wk)
   case first=>
    cases b with
    | true=>
     have h5:=HM'.out.flag true;go_wp2_with fail;go_meet
     case rel=>rw[Bool.or_true];exact h5
    | false=>
     have h5:=HM'.out;go_wp2_with fail;go_meet
     case rel=>rw[Bool.or_false];exact h5
   case rest=>
    clear hcB hzB HM';have hr1:Int.tmod o.fr 7=o.fr % 7:=by rw[Int.tmod_eq_emod_of_nonneg hf0]
    have hr2:IntKind.u64.wrap (o.fr % 7)=o.fr % 7:=by rw[IntWalk.u64_in]<;>omega
    have hr3:IntKind.i64.wrap (o.fr % 7)=o.fr % 7:=gB _ (by omega) (by omega);go_upto_region 42 with fail;refine wp_region_held (S:=fun W=>W.heap[nb]?=some (.cells (jJ o) 154)) hmo ?_;change wpAnyH _ _ _ _ _ _ _ _ (World.drew wc);have hd:Below wc.heap.size wc wc.drew:=(Below.refl _ _).drew;have hM4:=hcut.later hd;generalize World.drew wc=Y0 at *;have t0:=hM4.na;have b0:=hM4.q;have x0:BelX Y0.heap.size [ob] Y0 Y0:=BelX.refl _ _ _;have HM4:=hid hM4;clear hd hcut hM4;refine zHp 0 (.pointer (some ⟨nb,2,none⟩)) rfl t0 ?_;go_simp;refine zHa 1 (.int .u64 o.vi) rfl (by rintro w2 h2;have cc:w2.cell? ⟨nb,2,none⟩=some (.int .u64 o.vi):=gG h2 2 _ rfl;go_simp) t0 ?_;go_simp;refine zHp 2 (.pointer (some ⟨nb,3,none⟩)) rfl t0 ?_;go_simp;refine zHa 3 (.int .u64 o.no) rfl (by rintro w2 h2;have cc:w2.cell? ⟨nb,3,none⟩=some (.int .u64 o.no):=gG h2 3 _ rfl;go_simp) t0 ?_;go_simp;refine zHp 4 (.pointer (some ⟨nb,4,none⟩)) rfl t0 ?_;go_simp;refine zHa 5 (.int .u64 o.fr) rfl (by rintro w2 h2;have cc:w2.cell? ⟨nb,4,none⟩=some (.int .u64 o.fr):=gG h2 4 _ rfl;go_simp) t0 ?_;go_simp;refine zHa 6 (.int .u64 (o.fr % 7)) rfl (by rintro w2 h2;go_simp) t0 ?_;go_simp;refine zHa 7 (.int .i64 (o.fr % 7)) rfl (by rintro w2 h2;go_simp) t0 ?_;go_simp;refine zHp 8 (.pointer (some ⟨nb,5,none⟩)) rfl t0 ?_;go_simp;refine zHa 9 (.int .u64 o.cl) rfl (by rintro w2 h2;have cc:w2.cell? ⟨nb,5,none⟩=some (.int .u64 o.cl):=gG h2 5 _ rfl;go_simp) t0 ?_;go_simp;refine zHp 10 (.pointer (some ⟨nb,6,none⟩)) rfl t0 ?_;go_simp;refine zHa 11 (.int .u64 o.nu) rfl (by rintro w2 h2;have cc:w2.cell? ⟨nb,6,none⟩=some (.int .u64 o.nu):=gG h2 6 _ rfl;go_simp) t0 ?_;go_simp;refine zHp 12 (.pointer (some ⟨nb,9,none⟩)) rfl t0 ?_;go_simp;refine zHa 13 (.int .u64 o.at_) rfl (by rintro w2 h2;have cc:w2.cell? ⟨nb,9,none⟩=some (.int .u64 o.at_):=gG h2 9 _ rfl;go_simp) t0 ?_;go_simp;refine zHp 14 (.pointer (some ⟨nb,10,none⟩)) rfl t0 ?_;go_simp;refine zHa 15 (.int .u64 o.cm) rfl (by rintro w2 h2;have cc:w2.cell? ⟨nb,10,none⟩=some (.int .u64 o.cm):=gG h2 10 _ rfl;go_simp) t0 ?_;go_simp;refine zHp 16 (.pointer (some ⟨nb,11,none⟩)) rfl t0 ?_;go_simp;refine zHa 17 (.int .u64 o.bs) rfl (by rintro w2 h2;have cc:w2.cell? ⟨nb,11,none⟩=some (.int .u64 o.bs):=gG h2 11 _ rfl;go_simp) t0 ?_;go_simp;refine zHp 18 (.pointer (some ⟨nb,14,none⟩)) rfl t0 ?_;go_simp;refine zHa 19 (.int .u64 o.nc) rfl (by rintro w2 h2;have cc:w2.cell? ⟨nb,14,none⟩=some (.int .u64 o.nc):=gG h2 14 _ rfl;go_simp) t0 ?_;go_simp;refine zHp 20 (.pointer (some ⟨ob,1,none⟩)) rfl t0 ?_;go_simp;refine zH1 21 rfl (fun K hK=>?_);have z:Y0.cell? ⟨ob,1,none⟩=some _:=df b0 1 _ rfl;have fz:=dw b0 1;have b1:(Y0.setCell ⟨ob,1,none⟩ (.int .u64 o.vi)).heap[ob]?=some (MV.box { jL o with vi:=o.vi }):=(at_set b0).trans (by kernel_rfl);have t1:(Y0.setCell ⟨ob,1,none⟩ (.int .u64 o.vi)).heap[nb]?=some (.cells (jJ o) 154):=af t0 hno;have x1:BelX Y0.heap.size [ob] Y0 (Y0.setCell ⟨ob,1,none⟩ (.int .u64 o.vi)):=x0.set _ _ _ (.inl (by simp));go_simp;refine hK _ _ ⟨t1,?_⟩;clear hK K;generalize World.setCell Y0 _ _=Y1 at *;clear z fz b0 t0;refine zHp 22 (.pointer (some ⟨ob,2,none⟩)) rfl t1 ?_;go_simp;refine zH1 23 rfl (fun K hK=>?_);have z:Y1.cell? ⟨ob,2,none⟩=some _:=df b1 2 _ rfl;have fz:=dw b1 2;have b2:(Y1.setCell ⟨ob,2,none⟩ (.int .u64 o.no)).heap[ob]?=some (MV.box { jL o with vi:=o.vi,no:=o.no }):=(at_set b1).trans (by kernel_rfl);have t2:(Y1.setCell ⟨ob,2,none⟩ (.int .u64 o.no)).heap[nb]?=some (.cells (jJ o) 154):=af t1 hno;have x2:BelX Y0.heap.size [ob] Y0 (Y1.setCell ⟨ob,2,none⟩ (.int .u64 o.no)):=x1.set _ _ _ (.inl (by simp));go_simp;refine hK _ _ ⟨t2,?_⟩;clear hK K;generalize World.setCell Y1 _ _=Y2 at *;clear z fz b1 t1 x1;refine zHp 24 (.pointer (some ⟨ob,3,none⟩)) rfl t2 ?_;go_simp;refine zH1 25 rfl (fun K hK=>?_);have z:Y2.cell? ⟨ob,3,none⟩=some _:=df b2 3 _ rfl;have fz:=dw b2 3;have b3:(Y2.setCell ⟨ob,3,none⟩ (.int .i64 (o.fr % 7))).heap[ob]?=some (MV.box { jL o with vi:=o.vi,no:=o.no,fr:=o.fr % 7 }):=(at_set b2).trans (by kernel_rfl);have t3:(Y2.setCell ⟨ob,3,none⟩ (.int .i64 (o.fr % 7))).heap[nb]?=some (.cells (jJ o) 154):=af t2 hno;have x3:BelX Y0.heap.size [ob] Y0 (Y2.setCell ⟨ob,3,none⟩ (.int .i64 (o.fr % 7))):=x2.set _ _ _ (.inl (by simp));go_simp;refine hK _ _ ⟨t3,?_⟩;clear hK K;generalize World.setCell Y2 _ _=Y3 at *;clear z fz b2 t2 x2;refine zHp 26 (.pointer (some ⟨ob,4,none⟩)) rfl t3 ?_;go_simp;refine zH1 27 rfl (fun K hK=>?_);have z:Y3.cell? ⟨ob,4,none⟩=some _:=df b3 4 _ rfl;have fz:=dw b3 4;have b4:(Y3.setCell ⟨ob,4,none⟩ (.int .u64 o.cl)).heap[ob]?=some (MV.box { jL o with vi:=o.vi,no:=o.no,fr:=o.fr % 7,cl:=o.cl }):=(at_set b3).trans (by kernel_rfl);have t4:(Y3.setCell ⟨ob,4,none⟩ (.int .u64 o.cl)).heap[nb]?=some (.cells (jJ o) 154):=af t3 hno;have x4:BelX Y0.heap.size [ob] Y0 (Y3.setCell ⟨ob,4,none⟩ (.int .u64 o.cl)):=x3.set _ _ _ (.inl (by simp));go_simp;refine hK _ _ ⟨t4,?_⟩;clear hK K;generalize World.setCell Y3 _ _=Y4 at *;clear z fz b3 t3 x3;refine zHp 28 (.pointer (some ⟨ob,5,none⟩)) rfl t4 ?_;go_simp;refine zH1 29 rfl (fun K hK=>?_);have z:Y4.cell? ⟨ob,5,none⟩=some _:=df b4 5 _ rfl;have fz:=dw b4 5;have b5:(Y4.setCell ⟨ob,5,none⟩ (.int .u64 o.nu)).heap[ob]?=some (MV.box { jL o with vi:=o.vi,no:=o.no,fr:=o.fr % 7,cl:=o.cl,nu:=o.nu }):=(at_set b4).trans (by kernel_rfl);have t5:(Y4.setCell ⟨ob,5,none⟩ (.int .u64 o.nu)).heap[nb]?=some (.cells (jJ o) 154):=af t4 hno;have x5:BelX Y0.heap.size [ob] Y0 (Y4.setCell ⟨ob,5,none⟩ (.int .u64 o.nu)):=x4.set _ _ _ (.inl (by simp));go_simp;refine hK _ _ ⟨t5,?_⟩;clear hK K;generalize World.setCell Y4 _ _=Y5 at *;clear z fz b4 t4 x4;refine zHp 30 (.pointer (some ⟨ob,19,none⟩)) rfl t5 ?_;go_simp;refine zH1 31 rfl (fun K hK=>?_);have z:Y5.cell? ⟨ob,19,none⟩=some _:=df b5 19 _ rfl;have fz:=dw b5 19;have b6:(Y5.setCell ⟨ob,19,none⟩ (.int .u64 o.at_)).heap[ob]?=some (MV.box { jL o with vi:=o.vi,no:=o.no,fr:=o.fr % 7,cl:=o.cl,nu:=o.nu,at_:=o.at_ }):=(at_set b5).trans (by kernel_rfl);have t6:(Y5.setCell ⟨ob,19,none⟩ (.int .u64 o.at_)).heap[nb]?=some (.cells (jJ o) 154):=af t5 hno;have x6:BelX Y0.heap.size [ob] Y0 (Y5.setCell ⟨ob,19,none⟩ (.int .u64 o.at_)):=x5.set _ _ _ (.inl (by simp));go_simp;refine hK _ _ ⟨t6,?_⟩;clear hK K;generalize World.setCell Y5 _ _=Y6 at *;clear z fz b5 t5 x5;refine zHp 32 (.pointer (some ⟨ob,20,none⟩)) rfl t6 ?_;go_simp;refine zH1 33 rfl (fun K hK=>?_);have z:Y6.cell? ⟨ob,20,none⟩=some _:=df b6 20 _ rfl;have fz:=dw b6 20;have b7:(Y6.setCell ⟨ob,20,none⟩ (.int .u64 o.cm)).heap[ob]?=some (MV.box { jL o with vi:=o.vi,no:=o.no,fr:=o.fr % 7,cl:=o.cl,nu:=o.nu,at_:=o.at_,cm:=o.cm }):=(at_set b6).trans (by kernel_rfl);have t7:(Y6.setCell ⟨ob,20,none⟩ (.int .u64 o.cm)).heap[nb]?=some (.cells (jJ o) 154):=af t6 hno;have x7:BelX Y0.heap.size [ob] Y0 (Y6.setCell ⟨ob,20,none⟩ (.int .u64 o.cm)):=x6.set _ _ _ (.inl (by simp));go_simp;refine hK _ _ ⟨t7,?_⟩;clear hK K;generalize World.setCell Y6 _ _=Y7 at *;clear z fz b6 t6 x6;refine zHp 34 (.pointer (some ⟨ob,21,none⟩)) rfl t7 ?_;go_simp;refine zH1 35 rfl (fun K hK=>?_);have z:Y7.cell? ⟨ob,21,none⟩=some _:=df b7 21 _ rfl;have fz:=dw b7 21;have b8:(Y7.setCell ⟨ob,21,none⟩ (.int .u64 o.bs)).heap[ob]?=some (MV.box { jL o with vi:=o.vi,no:=o.no,fr:=o.fr % 7,cl:=o.cl,nu:=o.nu,at_:=o.at_,cm:=o.cm,bs:=o.bs }):=(at_set b7).trans (by kernel_rfl);have t8:(Y7.setCell ⟨ob,21,none⟩ (.int .u64 o.bs)).heap[nb]?=some (.cells (jJ o) 154):=af t7 hno;have x8:BelX Y0.heap.size [ob] Y0 (Y7.setCell ⟨ob,21,none⟩ (.int .u64 o.bs)):=x7.set _ _ _ (.inl (by simp));go_simp;refine hK _ _ ⟨t8,?_⟩;clear hK K;generalize World.setCell Y7 _ _=Y8 at *;clear z fz b7 t7 x7;refine zHp 36 (.pointer (some ⟨ob,24,none⟩)) rfl t8 ?_;go_simp;refine zH1 37 rfl (fun K hK=>?_);have z:Y8.cell? ⟨ob,24,none⟩=some _:=df b8 24 _ rfl;have fz:=dw b8 24;have b9:(Y8.setCell ⟨ob,24,none⟩ (.int .u64 o.nc)).heap[ob]?=some (MV.box { jL o with vi:=o.vi,no:=o.no,fr:=o.fr % 7,cl:=o.cl,nu:=o.nu,at_:=o.at_,cm:=o.cm,bs:=o.bs,nc:=o.nc }):=(at_set b8).trans (by kernel_rfl);have t9:(Y8.setCell ⟨ob,24,none⟩ (.int .u64 o.nc)).heap[nb]?=some (.cells (jJ o) 154):=af t8 hno;have x9:BelX Y0.heap.size [ob] Y0 (Y8.setCell ⟨ob,24,none⟩ (.int .u64 o.nc)):=x8.set _ _ _ (.inl (by simp));go_simp;refine hK _ _ ⟨t9,?_⟩;clear hK K;generalize World.setCell Y8 _ _=Y9 at *;clear z fz b8 t8 x8;refine wpAnyH_done (by kernel_rfl) ?_ _;have q9:Y9.heap[ob]?=some (MV.box { o with fr:=o.fr % 7 }):=b9;have hM4:=HM4.out;have hk:=hM4.keep x9;have aX:=hM4.at_.kpn hM4.ty hk;have yX:=hM4.ty.kpn hk;have hBr:B<=rb:=by have:=HRB.out;omega
    have rf9:=hM4.rf.belX x9 (by simpa using hgo) (fun k hk=>by rw[List.mem_singleton.1 hk];exact hBo) (fun k hk=>by rw[List.mem_singleton.1 hk];exact⟨_,hM4.q,TkM.not_u8 bZ⟩);have rz9:=x9.at_ hM4.rz hM4.lt.2.2 (by simpa using hM4.ro);have X9:=hM4.X.trans (x9.mono hM4.X.size (fun k hk hlt=>by have:=List.mem_singleton.1 hk;have:=hM4.wo;omega));have hXr:BelX Y9.heap.size [rb] Y9 (Y9.setRow rb (MV.cells { o with fr:=o.fr % 7 })):=vY (BelX.refl _ _ _) rb _ (by simp);have hk2:KeepN B Y9 (Y9.setRow rb (MV.cells { o with fr:=o.fr % 7 })):=KeepN.of_belX hXr rz9 bZ hBr;have hu:=hM4.u;have aZ:=MAt.kpn (m:={ o with fr:=o.fr % 7 }) (c:=c) ⟨aX.rq,aX.rs,aX.sn,aX.lg,aX.se,aX.ls,aX.lh⟩ ⟨yX.rq,yX.rs,yX.sn,yX.lo,yX.log,yX.ho⟩ hk2;have yZ:=MTyB.kpn (m:={ o with fr:=o.fr % 7 }) (c:=c) ⟨yX.rq,yX.rs,yX.sn,yX.lo,yX.log,yX.ho⟩ hk2;have fin:DV B g s w (.returned (.tuple #[MV.val { o with fr:=o.fr % 7 },.bool true])) (Y9.setRow rb (MV.cells { o with fr:=o.fr % 7 })):=
     ⟨⟨s'.l,s'.bad||b⟩,rf9.belX hXr (by simpa using hgr) (fun k hk=>by rw[List.mem_singleton.1 hk];exact hBr) (fun k hk=>by rw[List.mem_singleton.1 hk];exact⟨_,rz9,TkM.not_u8 bZ⟩),
      X9.trans (hXr.mono X9.size (fun k hk hlt=>by have:=List.mem_singleton.1 hk;have:=HRB.out;omega)),
      .inl ⟨{ o with fr:=o.fr % 7 },c,rfl,aZ,⟨hu.vi,hu.no,hu.cl,hu.nu,hu.at_,hu.cm,hu.bs,hu.nc,hu.rq,hu.log,hu.seen⟩,yZ,by show 1<=o.k/\o.k<=12;rw[HO.out];exact HK.out,(fun hb=>HKP.out (by
       dsimp only at hb;rw[Bool.or_eq_false_iff] at hb;have h1:=HB.out;rw[hb.2,Bool.or_eq_false_iff] at h1;simpa using h1.2)),by rw[<-HB.out];exact HTM.out,⟨hM4.ft.rs,hM4.ft.rl,hM4.ft.lg,hM4.ft.sn,hM4.ft.hn,hM4.ft.ln⟩,by
       obtain⟨r,hr⟩:=HKD.out;exact⟨r,by show s.l=val 1 (az o.k.toNat)++r;rw[HO.out,Int.toNat_natCast];exact hr⟩⟩⟩
    have HF:=hid fin;have f1:(Y9.setRow rb (MV.cells { o with fr:=o.fr % 7 })).heap[rb]?=some (.cells (MV.cells { o with fr:=o.fr % 7 }) 59):=aT rz9;clear fin hM4 hk aX yX rf9 X9 hXr hk2 hu aZ yZ b9 t9 x9 hr1 hr2 hr3;go_wp2_with (first | (refine zLr rfl q9 ?_;go_simp) | (refine zSr rfl rz9 ?_;go_simp));exact bodyPost_ret (w:=Y9.setRow rb (MV.cells { o with fr:=o.fr % 7 })) (aI (i:=2) (j:=3) (t:=59) rfl rfl rfl (by kernel_rfl) (by kernel_rfl) f1) rfl HF.out
end Go.Proofs.YtfmmandlmbcncaaGreatDoor.Msg
