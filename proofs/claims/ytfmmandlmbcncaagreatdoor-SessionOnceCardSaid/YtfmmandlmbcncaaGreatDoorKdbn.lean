/-
  A part of the proof.
-/
import Derived.Test.YtfmmandlmbcncaaGreatDoorKdbm
set_option maxHeartbeats 40000000
set_option maxRecDepth 100000
namespace Go.Proofs.YtfmmandlmbcncaaGreatDoor.Msg
open Go.RowKit Go.Lib Mem Tlv
def lC (B g ob:Nat)(w:World)(x:Int)(o:MV)(c:MC)(s:RS)(W:World)(e:Ending)(w':World):Prop:=e=.returned (.tuple #[])/\SwP B g ob w x o c s W w'
theorem Jp {x:Int}{t:UInt8}{s s':RS}{n N:Nat}{o:MV}{c:MC}{f:MV->Int}(ht:0<t.toNat)(hN:N<18446744073709551616)(hf:∀m d,dB x m d=val t (az (f m).toNat))(hu:∀W m d,MAt W m d->U64M m d->MayF x m d->0<=f m/\f m<=(N:Int))
  (T:Took (fun n:Nat=>val t (az n)) (fun n=>n<=N) (fun n=>n<=N) s n s') (ho:f o=(n:Int)) (hg:n<=N->MayG x o c):StepX x s o c s' where
 yes:=fun h=>by
  obtain⟨a,b,g⟩:=T.yes h;refine⟨a,?_,hg g⟩;rw[hf,ho,Int.toNat_natCast];exact b
 go:=fun hb W m d r h1 h2 h3 e=>by
  obtain⟨u1,u2⟩:=hu W m d h1 h2 h3;rw[hf] at e;exact jv T (fun z r r' hz hy e=>(ak ht (by rw[ah];omega) (by rw[ah];omega) e).2) hb (z:=(f m).toNat) (by omega) e
 le:=T.le
theorem Aq {w w':World}{y:List UInt8}{e:Ending}(h:Du OpTy (.int .i64 0) (.int .i64 4) y w e w'):∃(ok:Bool) (r:RV) (x:OC),e=.returned (.tuple #[r.val,.int .i64 (if ok then 0 else 4)])/\OpAt w' r.op x/\OpTy w' r.op/\U64R r/\Below w.heap.size w w'/\((ok=true/\aB r.op x=true/\eQ r (opL r.op x)=y)\/(ok=false/\A7 y)):=by
 obtain⟨hb,⟨r,x,rfl,h1,h2,h3,h4,h5⟩ | ⟨rfl,n1⟩⟩:=h
 ·exact⟨true,r,x,rfl,h1,h2,h3,hb,.inl ⟨rfl,h4,h5⟩⟩
 exact⟨false,dN,⟨[],[],[]⟩,rfl,⟨Rd.nil _ _,Rd.nil _ _,Rd.nil _ _,Nat.zero_le _,Nat.zero_le _,Nat.zero_le _⟩,⟨fun h=>absurd h (Nat.lt_irrefl 0),fun h=>absurd h (Nat.lt_irrefl 0),fun h=>absurd h (Nat.lt_irrefl 0)⟩,⟨by decide,by decide,by decide,by decide⟩,hb,.inr ⟨rfl,n1⟩⟩
theorem KT {w w':World}{y:List UInt8}{e:Ending}(h:uS QTy (.int .i64 0) (.int .i64 4) y w e w'):∃(ok:Bool) (q:QV) (x:QC),e=.returned (.tuple #[q.val,.int .i64 (if ok then 0 else 4)])/\QAt w' q x/\QTy w' q x/\Below w.heap.size w w'/\((ok=true/\bf q x=true/\dG q x=y)\/(ok=false/\rC y)):=by
 obtain⟨hb,⟨q,x,rfl,h1,h2,h4,h5⟩ | ⟨rfl,n1⟩⟩:=h
 ·exact⟨true,q,x,rfl,h1,h2,hb,.inl ⟨rfl,h4,h5⟩⟩
 exact⟨false,aA,⟨[],[]⟩,rfl,⟨⟨Rd.nil _ _,fun _ hp=>absurd hp List.not_mem_nil⟩,Rd.nil _ _,Nat.zero_le _⟩,⟨fun h=>absurd h (Nat.lt_irrefl 0),fun _ hp=>absurd hp List.not_mem_nil,fun h=>absurd h (Nat.lt_irrefl 0)⟩,hb,.inr ⟨rfl,n1⟩⟩
section
variable (B g ob:Nat) (w:World) (o:MV) (c:MC) (s:RS) (W:World) (h:RdM B g ob w o c s W) (hl:s.l.length<=100000000)
include h hl
theorem Ns:Calls Tryz.prog 188 #[.pointer (some ⟨g,0,none⟩),.pointer (some ⟨ob,0,none⟩)] W (lC B g ob w 102 o c s W):=by
 have T:=mD s 4 6 (by decide) (by decide);have hle:=nG s 4 6;have hc:=lH B g s 4 6 W h.rd hl (by decide);unfold iE at hc;generalize RS.numM s 4 6=nm at *;obtain⟨n,s'⟩:=nm;dsimp only at T hle hc;have S:StepX 102 s (aK 102 o { o with fr:=(n:Int) }) (dE 102 c c) s':=Jp (f:=MV.fr) (N:=6) (by decide) (by decide) (fun _ _=>rfl) (fun _ m _ _ _ f=>by have:=f.fr rfl;omega) T rfl (fun hn=>⟨fun _=>by show 0<=(n:Int)/\(n:Int)<18446744073709551616;omega,fun e=>absurd e (by decide),fun e=>absurd e (by decide),fun e=>absurd e (by decide),fun e=>absurd e (by decide),fun e=>absurd e (by decide)⟩);have H:Hid (∀W1,W.grownBy W1 (some g)->RdS B g s' W1->SwP B g ob w 102 o c s W (W1.setCell ⟨ob,3,none⟩ (.int .i64 (n:Int)))):=hid (fun W1 hg hr=>h.num hg hr S rfl (fun X a=>⟨a.rq,a.rs,a.sn,a.lg,a.se,a.ls,a.lh⟩) ⟨h.u.vi,h.u.no,h.u.cl,h.u.nu,h.u.at_,h.u.cm,h.u.bs,h.u.nc,h.u.rq,h.u.log,h.u.seen⟩ (fun X a=>⟨a.rq,a.rs,a.sn,a.lo,a.log,a.ho⟩) (by show 0<=(n:Int)/\(n:Int)<7;omega) rfl rfl);have Hq:=hid h;clear T S hle h;go_in;go_wp2_with fail;refine hc.mono ?_;rintro e W1 ⟨rfl,hr1,hg1⟩;have q1:W1.heap[ob]?=some o.box:=(hg1.block _ Hq.out.lt.2 (fun e=>Hq.out.ne (Option.some.inj e).symm)).trans Hq.out.q;have c3:=(McAt.of q1).c3;have z0:=dw q1;clear q1;go_wp2_with fail;refine bodyPost_end (results_none rfl _ _ _) rfl ?_;exact⟨rfl,H.out W1 hg1 hr1⟩
theorem MB:Calls Tryz.prog 211 #[.pointer (some ⟨g,0,none⟩),.pointer (some ⟨ob,0,none⟩)] W (lC B g ob w 119 o c s W):=by
 have T:=sO s 15 (by decide);have hc:=xM B g s 15 W h.rd hl;unfold iE at hc;generalize RS.flag s 15=nm at *;obtain⟨y,s'⟩:=nm;dsimp only at T hc;have S:StepX 119 s (aK 119 o { o with wh:=y }) (dE 119 c c) s':=Ef T rfl;have H:Hid (∀W1,W.grownBy W1 (some g)->RdS B g s' W1->SwP B g ob w 119 o c s W (W1.setCell ⟨ob,25,none⟩ (.bool y))):=hid (fun W1 hg hr=>h.num hg hr S rfl (fun X a=>⟨a.rq,a.rs,a.sn,a.lg,a.se,a.ls,a.lh⟩) ⟨h.u.vi,h.u.no,h.u.cl,h.u.nu,h.u.at_,h.u.cm,h.u.bs,h.u.nc,h.u.rq,h.u.log,h.u.seen⟩ (fun X a=>⟨a.rq,a.rs,a.sn,a.lo,a.log,a.ho⟩) h.fr rfl rfl);have Hq:=hid h;clear T S h;go_in;go_wp2_with fail;refine hc.mono ?_;rintro e W1 ⟨rfl,hr1,hg1⟩;have q1:W1.heap[ob]?=some o.box:=(hg1.block _ Hq.out.lt.2 (fun e=>Hq.out.ne (Option.some.inj e).symm)).trans Hq.out.q;have c25:=(McAt.of q1).c25;have z0:=dw q1;clear q1;go_wp2_with fail;refine bodyPost_end (results_none rfl _ _ _) rfl ?_;exact⟨rfl,H.out W1 hg1 hr1⟩
theorem Nw:Calls Tryz.prog 202 #[.pointer (some ⟨g,0,none⟩),.pointer (some ⟨ob,0,none⟩)] W (lC B g ob w 115 o c s W):=by
 have T:=bI s 12 (by decide);have hle:=iM s 12;have hc:=gK B g s 12 W h.rd hl;generalize RS.bytes s 12=nm at *;obtain⟨y,s'⟩:=nm;dsimp only at T hle hc;have H:Hid (∀W1 a k,W.grownBy W1 (some g)->RdS B g s' W1->Rd W1 1 a y.length k (byV y)->TyX 5 W1 a k->SwP B g ob w 115 o c s W (W1.setCell ⟨ob,22,none⟩ (.slice a y.length k))):=hid (fun W1 a k hg hr hrd hty=>by
  have S:StepX 115 s (aK 115 o { o with so:=a,sn:=y.length,sc:=k }) (dE 115 c { c with snap:=y }) s':=Jm T rfl;have A:=h.at_.kpm h.ty (h.kg hg);have Y:=h.ty.kpm (h.kg hg);exact h.put hg hr S rfl ⟨A.rq,A.rs,hrd,A.lg,A.se,by show y.length<=1000000000;omega,A.lh⟩ ⟨h.u.vi,h.u.no,h.u.cl,h.u.nu,h.u.at_,h.u.cm,h.u.bs,h.u.nc,h.u.rq,h.u.log,h.u.seen⟩ ⟨Y.rq,Y.rs,hty,Y.lo,Y.log,Y.ho⟩ h.fr (fun e=>h.cnt (S.yes e).1))
 have Hq:=hid h;clear T hle h;go_in;go_wp2_with fail;refine hc.mono ?_;rintro e W1 ⟨a,k,rfl,hrd,hty,hr1,hg1⟩;have q1:W1.heap[ob]?=some o.box:=(hg1.block _ Hq.out.lt.2 (fun e=>Hq.out.ne (Option.some.inj e).symm)).trans Hq.out.q;have c22:=(McAt.of q1).c22;have z0:=dw q1;clear q1;go_wp2_with fail;refine bodyPost_end (results_none rfl _ _ _) rfl ?_;exact⟨rfl,H.out W1 a k hg1 hr1 hrd hty⟩
theorem O9:Calls Tryz.prog 192 #[.pointer (some ⟨g,0,none⟩),.pointer (some ⟨ob,0,none⟩)] W (lC B g ob w 113 o c s W):=by
 have T:=bI s 7 (by decide);have hle:=iM s 7;have hc:=gK B g s 7 W h.rd hl;generalize RS.bytes s 7=nm at *;obtain⟨y,s'⟩:=nm;dsimp only at T hle hc;have HT:=hid T;have Hq:=hid h;clear T h;go_in;go_wp2_with fail;refine hc.mono ?_;rintro e W1 ⟨a,k,rfl,hrd,hty,hr1,hg1⟩;have h1:=hid (Hq.out.grown hg1 hr1 (fun e=>(HT.out.yes e).1));have hX1:=hid (BelX.of_grown hg1);clear hc hr1 hg1 hty Hq;go_wp2_with fail;refine (su y a y.length k W1 hrd (by omega)).mono ?_;rintro e W2 hA;obtain⟨ok,r,x,rfl,oY,tY,uY,hb2,hans⟩:=Aq hA;have HA:=hid hans;have h2:=hid (h1.out.later hb2);have hX2:=hid hb2;clear hA hans hrd;unfold RV.val RV.cells;go_upto_region 1 with (refine zNr rfl ?_;go_simp);generalize hg:W2.alloc _=W3;have e3:W2.alloc r.box=W3:=hg;have hb3:Below W2.heap.size W2 W3:=by rw[<-e3];exact (Below.refl _ _).alloc (Nat.le_refl _) _
 have q3:W3.heap[W2.heap.size]?=some r.box:=by rw[<-e3];exact at_new _ _
 have h3:=h2.out.later hb3;have oY3:=oY.later hb3;have tY3:=tY.kpr (KeepR.of_below hb3);have hb4:=hb2.trans (hb3.mono hb2.size);have hX3:BelX W.heap.size [g] W W3:=hX1.out.trans ((BelX.of_below hb4 [g]).mono hX1.out.size (fun _ hk _=>hk));clear hg e3 hb3 hb2 hb4 oY tY h1 h2 hX1 hX2;generalize W2.heap.size=yb at *;have qo:=h3.q;have c6:=(McAt.of qo).c6;have c7:=(McAt.of qo).c7;have c8:=(McAt.of qo).c8;have c9:=(McAt.of qo).c9;have c10:=(McAt.of qo).c10;have c11:=(McAt.of qo).c11;have c12:=(McAt.of qo).c12;have c13:=(McAt.of qo).c13;have c14:=(McAt.of qo).c14;have zo:=dw qo;have hX:BelX W3.heap.size [ob] W3 (rE W3 ob r):=Fe (.inl (by simp));have hk:=h3.ko hX;have A:=h3.at_.kpm h3.ty hk;have Y:=h3.ty.kpm hk;have h4:RdM B g ob w (aK 113 o { o with rq:=r }) (dE 113 c { c with rq:=x }) s' (rE W3 ob r):=h3.box hX ((L9 h3.q).trans (by kernel_rfl)) ⟨oY3.kpr tY3 hk.kr,A.rs,A.sn,A.lg,A.se,A.ls,A.lh⟩ ⟨h3.u.vi,h3.u.no,h3.u.cl,h3.u.nu,h3.u.at_,h3.u.cm,h3.u.bs,h3.u.nc,uY,h3.u.log,h3.u.seen⟩ ⟨tY3.kpr hk.kr,Y.rs,Y.sn,Y.lo,Y.log,Y.ho⟩ h3.fr h3.cnt;have hXX:BelX W.heap.size [g,ob] W (rE W3 ob r):=EI hX3 hX;have hS:StepX 113 s (aK 113 o { o with rq:=r }) (dE 113 c { c with rq:=x }) ⟨s'.l,s'.bad||!ok⟩:=Ky HT.out (fun hh=>by
   rcases HA.out with ⟨-,a2,a3⟩ | ⟨a1,-⟩
   ·exact⟨a2,a3⟩
   ·rw[a1] at hh;cases hh) (fun hh=>by
   rcases HA.out with ⟨a1,-⟩ | ⟨-,a2⟩
   ·rw[a1] at hh;cases hh
   exact a2)
 have H4:=hid h4;have HX:=hid hXX;have HS:=hid hS;clear hX hk A Y h4 hXX hS HT HA qo h3 hX3 oY3 tY3;unfold RV.box RV.cells at q3;go_upto_region 2 with (refine wpList_load_row (ty:=55) q3 rfl rfl rfl (by kernel_rfl) (by kernel_rfl) ?_;go_simp);obtain⟨W4,hW4⟩:∃W4,rE W3 ob r=W4:=⟨_,rfl⟩
 rw[hW4] at H4 HX;unfold rE at hW4;rw[hW4];clear hW4 q3 zo c6 c7 c8 c9 c10 c11 c12 c13 c14;cases ok with
 | true=>
  have H:Hid (SwP B g ob w 113 o c s W W4):=hid ⟨HX.out,_,_,s',H4.out,by
   have e:(⟨s'.l,s'.bad||!true⟩:RS)=s':=by cases s';simp
   rw[<-e];exact HS.out⟩
  clear H4 HX HS;go_wp2_with fail;refine bodyPost_end (results_none rfl _ _ _) rfl ?_;exact⟨rfl,H.out⟩
 | false=>
  have hf:=kR B g s' W4 H4.out.rd;go_wp2_with fail;refine hf.mono ?_;rintro e W5 ⟨⟨r9,rfl⟩,hr5,hw5⟩;have hg5:W4.grownBy W5 (some g):=by rw[hw5];exact ai _ _ _ _
  have H:Hid (SwP B g ob w 113 o c s W W5):=hid ⟨HX.out.trans ((BelX.of_grown hg5).mono HX.out.size (fun k hk _=>by rw[List.mem_singleton.1 hk];simp)),_,_,⟨s'.l,true⟩,H4.out.grown hg5 hr5 (fun e=>by cases e),by
   have e:(⟨s'.l,s'.bad||!false⟩:RS)=⟨s'.l,true⟩:=by cases s';simp
   rw[<-e];exact HS.out⟩
  clear H4 HX HS hf hr5 hw5 hg5;go_wp2_with fail;refine bodyPost_end (results_none rfl _ _ _) rfl ?_;exact⟨rfl,H.out⟩
theorem Nk:Calls Tryz.prog 198 #[.pointer (some ⟨g,0,none⟩),.pointer (some ⟨ob,0,none⟩)] W (lC B g ob w 114 o c s W):=by
 have T:=bI s 8 (by decide);have hle:=iM s 8;have hc:=gK B g s 8 W h.rd hl;generalize RS.bytes s 8=nm at *;obtain⟨y,s'⟩:=nm;dsimp only at T hle hc;have HT:=hid T;have Hq:=hid h;clear T h;go_in;go_wp2_with fail;refine hc.mono ?_;rintro e W1 ⟨a,k,rfl,hrd,hty,hr1,hg1⟩;have h1:=hid (Hq.out.grown hg1 hr1 (fun e=>(HT.out.yes e).1));have hX1:=hid (BelX.of_grown hg1);clear hc hr1 hg1 hty Hq;go_wp2_with fail;refine (Bz y a y.length k W1 hrd (by omega)).mono ?_;rintro e W2 hA;obtain⟨ok,q,x,rfl,oY,tY,hb2,hans⟩:=KT hA;have HA:=hid hans;have h2:=hid (h1.out.later hb2);have hX2:=hid hb2;clear hA hans hrd;unfold QV.val QV.cells;go_upto_region 1 with (refine zNr rfl ?_;go_simp);generalize hg:W2.alloc _=W3;have e3:W2.alloc q.box=W3:=hg;have hb3:Below W2.heap.size W2 W3:=by rw[<-e3];exact (Below.refl _ _).alloc (Nat.le_refl _) _
 have q3:W3.heap[W2.heap.size]?=some q.box:=by rw[<-e3];exact at_new _ _
 have h3:=h2.out.later hb3;have oY3:=oY.later hb3;have tY3:=tY.kpm (KeepM.of_below hb3);have hb4:=hb2.trans (hb3.mono hb2.size);have hX3:BelX W.heap.size [g] W W3:=hX1.out.trans ((BelX.of_below hb4 [g]).mono hX1.out.size (fun _ hk _=>hk));clear hg e3 hb3 hb2 hb4 oY tY h1 h2 hX1 hX2;generalize W2.heap.size=yb at *;have qo:=h3.q;have c15:=(McAt.of qo).c15;have c16:=(McAt.of qo).c16;have c17:=(McAt.of qo).c17;have c18:=(McAt.of qo).c18;have zo:=dw qo;have hX:BelX W3.heap.size [ob] W3 (iD W3 ob q):=xK (.inl (by simp));have hk:=h3.ko hX;have A:=h3.at_.kpm h3.ty hk;have Y:=h3.ty.kpm hk;have h4:RdM B g ob w (aK 114 o { o with rs:=q }) (dE 114 c { c with rs:=x }) s' (iD W3 ob q):=h3.box hX ((Bc h3.q).trans (by kernel_rfl)) ⟨A.rq,oY3.kpm tY3 hk,A.sn,A.lg,A.se,A.ls,A.lh⟩ ⟨h3.u.vi,h3.u.no,h3.u.cl,h3.u.nu,h3.u.at_,h3.u.cm,h3.u.bs,h3.u.nc,h3.u.rq,h3.u.log,h3.u.seen⟩ ⟨Y.rq,tY3.kpm hk,Y.sn,Y.lo,Y.log,Y.ho⟩ h3.fr h3.cnt;have hXX:BelX W.heap.size [g,ob] W (iD W3 ob q):=EI hX3 hX;have hS:StepX 114 s (aK 114 o { o with rs:=q }) (dE 114 c { c with rs:=x }) ⟨s'.l,s'.bad||!ok⟩:=Bi HT.out (fun hh=>by
   rcases HA.out with ⟨-,a2,a3⟩ | ⟨a1,-⟩
   ·exact⟨a2,a3⟩
   ·rw[a1] at hh;cases hh) (fun hh=>by
   rcases HA.out with ⟨a1,-⟩ | ⟨-,a2⟩
   ·rw[a1] at hh;cases hh
   exact a2)
 have H4:=hid h4;have HX:=hid hXX;have HS:=hid hS;clear hX hk A Y h4 hXX hS HT HA qo h3 hX3 oY3 tY3;unfold QV.box QV.cells at q3;go_upto_region 2 with (refine wpList_load_row (ty:=39) q3 rfl rfl rfl (by kernel_rfl) (by kernel_rfl) ?_;go_simp);obtain⟨W4,hW4⟩:∃W4,iD W3 ob q=W4:=⟨_,rfl⟩
 rw[hW4] at H4 HX;unfold iD at hW4;rw[hW4];clear hW4 q3 zo c15 c16 c17 c18;cases ok with
 | true=>
  have H:Hid (SwP B g ob w 114 o c s W W4):=hid ⟨HX.out,_,_,s',H4.out,by
   have e:(⟨s'.l,s'.bad||!true⟩:RS)=s':=by cases s';simp
   rw[<-e];exact HS.out⟩
  clear H4 HX HS;go_wp2_with fail;refine bodyPost_end (results_none rfl _ _ _) rfl ?_;exact⟨rfl,H.out⟩
 | false=>
  have hf:=kR B g s' W4 H4.out.rd;go_wp2_with fail;refine hf.mono ?_;rintro e W5 ⟨⟨r9,rfl⟩,hr5,hw5⟩;have hg5:W4.grownBy W5 (some g):=by rw[hw5];exact ai _ _ _ _
  have H:Hid (SwP B g ob w 114 o c s W W5):=hid ⟨HX.out.trans ((BelX.of_grown hg5).mono HX.out.size (fun k hk _=>by rw[List.mem_singleton.1 hk];simp)),_,_,⟨s'.l,true⟩,H4.out.grown hg5 hr5 (fun e=>by cases e),by
   have e:(⟨s'.l,s'.bad||!false⟩:RS)=⟨s'.l,true⟩:=by cases s';simp
   rw[<-e];exact HS.out⟩
  clear H4 HX HS hf hr5 hw5 hg5;go_wp2_with fail;refine bodyPost_end (results_none rfl _ _ _) rfl ?_;exact⟨rfl,H.out⟩
end
theorem plainAt.cells {W:World}{t:Int}{fo:Value}{tb ob:Nat}(h:plainAt W t fo tb ob):W.cell? ⟨ob,0,none⟩=some fo/\W.cell? ⟨tb,0,none⟩=some (.int .u8 t):=by
 have h1:=h.1;have h2:=h.2;simp[World.cell?,h1,h2]
theorem PY (ff:FuncId)(ix:Nat)(t:UInt8)(hall:∀(b:Nat) (w:World),Calls Tryz.prog ff #[.pointer (some ⟨b,0,none⟩)] w fun e w'=>e=.returned (.pointer (some ⟨b,ix,none⟩))/\w=w')
  (hen:∀args w,(callFunc ff args).run Tryz.prog w=.ok (.enter ff args) w) (B g fb tb ob:Nat) (s:RS) (cs:Array Value) (y0:Value) (w:World) (hr:RdS B g s w) (hl:s.l.length<=100000000) (h1:w.heap[fb]?=some (mO cs)) (hy:cs[ix]?=some y0) (hf:plainAt w (t.toNat:Int) (.func (.func ff) #[] #[]) tb ob) (hgf:g≠fb) :
  Calls Tryz.prog 220 #[.pointer (some ⟨g,0,none⟩),.pointer (some ⟨fb,0,none⟩),.pointer (some ⟨tb,0,none⟩),.pointer (some ⟨ob,0,none⟩)] w fun e w'=>e=.returned (.tuple #[])/\∃w1,RdS B g (s.num t).2 w1/\w.grownBy w1 (some g)/\w'=w1.setCell ⟨fb,ix,none⟩ (.int .u64 ((s.num t).1:Int)):=by
 have hmo:Tryz.prog.follows .mixedOrders=true:=by kernel_rfl
 have hd:Below w.heap.size w w.drew:=(Below.refl _ _).drew;have s0:plainAt w.drew (t.toNat:Int) (.func (.func ff) #[] #[]) tb ob:=hf.later hd;have hr0:=hr.later hd;have hq0:w.drew.heap[fb]?=some (mO cs):=h1;have hlt:fb<w.drew.heap.size:=(Array.getElem?_eq_some_iff.1 hq0).1;have hc:=nK B g s t w.drew hr0 hl;unfold iE at hc;generalize RS.num s t=nm at *;obtain⟨n,s'⟩:=nm;dsimp only at hc ⊢;clear hr hf h1 hr0;go_in;go_upto_region 0 with fail;refine ed (k:=5) (S:=fun W=>plainAt W (t.toNat:Int) (.func (.func ff) #[] #[]) tb ob) hmo ?_;change dh _ _ _ _ _ _ _ _ _ (World.drew w);have hD:=hid hd;clear hd;generalize World.drew w=W0 at *;refine zTa 0 (.func (.func ff) #[] #[]) rfl (by rintro w h;obtain⟨c0,d0⟩:=h.cells;go_simp) s0 ?_;go_simp;refine zTp 1 (.pointer (some ⟨fb,0,none⟩)) rfl s0 ?_;go_simp;refine zTp 3 (.pointer (some ⟨g,0,none⟩)) rfl s0 ?_;go_simp;refine zTa 4 (.int .u8 (t.toNat:Int)) rfl (by rintro w h;obtain⟨c0,d0⟩:=h.cells;go_simp) s0 ?_;go_simp;refine zT1 2 rfl (fun K hK=>?_);go_simp;refine (hall fb W0).mono ?_;rintro e _ ⟨rfl,rfl⟩;go_simp;refine hK _ _ ⟨.inr s0,?_⟩;clear hK K;refine dH (by kernel_rfl) (by kernel_rfl) ?_;refine zA1 5 rfl (fun K hK=>?_);go_simp;refine hc.mono ?_;rintro e W1 ⟨rfl,q1,q2⟩;go_simp;have m1:W1.heap[fb]?=some (mO cs):=(q2.block _ hlt (fun e=>hgf (Option.some.inj e).symm)).trans hq0;have c9:=oL m1 ix y0 hy;have z9:=vN m1 ix;refine hK _ _ ?_;clear hK K;refine zA1 6 rfl (fun K hK=>?_);go_simp;refine hK _ _ ?_;clear hK K;refine zA1 7 rfl (fun K hK=>?_);go_simp;go_simp;refine hK _ _ ?_;clear hK K;refine wpAny_done (by kernel_rfl) ?_ _;refine bodyPost_end (results_none rfl _ _ _) rfl ?_;exact⟨rfl,W1,q1,aV (fG hD.out _) q2,rfl⟩
structure TakeOk (t0 t1 t2 t3 t4 t5 t6 t7:Nat)(f:FV)(tf:FuncId)(tc:Array Value):Prop where
 eq:f.tk=.func (.func tf) #[] tc
 en:∀args w,(callFunc tf args).run Tryz.prog w=.ok (.enter tf args) w
 calls:∀(B g ob:Nat) (w:World) (o:MV) (c:MC) (s:RS) (W:World),AllAt t0 t1 t2 t3 t4 t5 t6 t7 W->RdM B g ob w o c s W->s.l.length<=100000000->(f.l=108->o.lo=none/\o.ln=0/\o.lc=0)->(f.l=101->o.ho=none/\o.hn=0/\o.hc=0)->Calls Tryz.prog tf (#[.pointer (some ⟨g,0,none⟩),.pointer (some ⟨ob,0,none⟩)]++tc) W (lC B g ob w f.l o c s W)
theorem takeN {x:Int}{ff:FuncId}{ix:Nat}{t:UInt8}{tb fo:Nat}{fv:Int->MV->MV}{fld:MV->Int}(ht:0<t.toNat)(hall:∀(b:Nat) (w:World),Calls Tryz.prog ff #[.pointer (some ⟨b,0,none⟩)] w fun e w'=>e=.returned (.pointer (some ⟨b,ix,none⟩))/\w=w')
  (hen:∀args w,(callFunc ff args).run Tryz.prog w=.ok (.enter ff args) w) (hx:x≠102/\x≠113/\x≠114/\x≠115/\x≠108/\x≠101) {B g ob:Nat} {w:World} {o:MV} {c:MC} {s:RS} {W:World} (h:RdM B g ob w o c s W) (hl:s.l.length<=100000000)
  (hf:plainAt W (t.toNat:Int) (.func (.func ff) #[] #[]) tb fo) (hy:∃y,o.cells[ix]?=some y) (hfl:∀m d,dB x m d=val t (az (fld m).toNat)) (hu:∀m d,U64M m d->0<=fld m/\fld m<18446744073709551616) (hfv:∀n,fld (aK x o (fv n o))=n)
  (hbox:∀n:Int,(match o.box with | .cells cs t fr=>Obj.cells (cs.setIfInBounds ix (.int .u64 n)) t fr | o=>o)=(aK x o (fv n o)).box) (hat:∀n X,MAt X o c->MAt X (aK x o (fv n o)) (dE x c c)) (huu:∀n:Int,0<=n->n<18446744073709551616->U64M (aK x o (fv n o)) (dE x c c)) (hty:∀n X,MTyP X o c->MTyP X (aK x o (fv n o)) (dE x c c)) (hfr:∀n,(aK x o (fv n o)).fr=o.fr/\(aK x o (fv n o)).ln=o.ln/\(aK x o (fv n o)).hn=o.hn) :
  Calls Tryz.prog 220 (#[.pointer (some ⟨g,0,none⟩),.pointer (some ⟨ob,0,none⟩)]++#[.pointer (some ⟨tb,0,none⟩),.pointer (some ⟨fo,0,none⟩)]) W (lC B g ob w x o c s W):=by
 obtain⟨y,hy⟩:=hy;have T:=jH s t ht;have hn:=DI s t;refine (PY ff ix t hall hen B g ob tb fo s o.cells y W h.rd hl h.q hy hf h.ne).mono ?_;rintro e w' ⟨rfl,w1,hr,hg,rfl⟩;refine⟨rfl,?_⟩;have S:StepX x s (aK x o (fv ((s.num t).1:Int) o)) (dE x c c) (s.num t).2:=iJ ht hfl (fun _ m d _ hu' _=>hu m d hu') T (hfv _) (fun _=>⟨fun e=>absurd e hx.1,fun e=>absurd e hx.2.1,fun e=>absurd e hx.2.2.1,fun e=>absurd e hx.2.2.2.1,fun e=>absurd e hx.2.2.2.2.1,fun e=>absurd e hx.2.2.2.2.2⟩);have hf3:=hfr ((s.num t).1:Int);exact h.num hg hr S (hbox _) (hat _) (huu _ (by omega) (by omega)) (hty _) (by rw[hf3.1];exact h.fr) hf3.2.1 hf3.2.2
theorem GL:SliceT Tryz.prog 56 55 dN.val 9 136:=⟨Tryz.underlying56,by kernel_rfl,rfl,by decide⟩
theorem OX (r:RV):∀u∈r.cells.toList,u.oneCell'=true:=by
 intro u hu;simp only[RV.cells,List.mem_cons,List.not_mem_nil,or_false] at hu;rcases hu with rfl|rfl|rfl|rfl|rfl|rfl|rfl|rfl|rfl<;>rfl
def RqTy (W:World)(l:List RP):Prop:=∀p∈l,OpAt W p.1.op p.2/\OpTy W p.1.op/\U64R p.1
theorem RqTy.kpr {W W':World}{l:List RP}(h:RqTy W l)(hk:KeepR W W'):RqTy W' l:=fun p hp=>⟨(h p hp).1.kpr (h p hp).2.1 hk,(h p hp).2.1.kpr hk,(h p hp).2.2⟩
theorem RqTy.snoc {W:World}{l:List RP}{p:RP}(h:RqTy W l)(h1:OpAt W p.1.op p.2)(h2:OpTy W p.1.op)(h3:U64R p.1):RqTy W (l++[p]):=by
 intro q hq;rcases List.mem_append.1 hq with hq | hq
 ·exact h q hq
 rw[List.mem_singleton] at hq;subst hq;exact⟨h1,h2,h3⟩
structure StP (ob pb:Nat)(o:MV)(q:Nat)(l:List RP)(W:World):Prop where
 ex:∃a k,W.heap[ob]?=some (MV.box { o with lo:=a,ln:=l.length,lc:=k })/\W.ownsRow q 55 9 (.slice a l.length k) l.length (rpV l)
 pb:W.heap[pb]?=some (dP ob)
 ty:RqTy W l
theorem Fb:∀t:TypeId,(t=5\/t=9\/t=106)->55≠t:=fun t ht e=>by rcases ht with rfl|rfl|rfl<;>exact absurd e (by decide)
theorem Dh:∀t:TypeId,(t=5\/t=9\/t=106)->59≠t:=fun t ht e=>by rcases ht with rfl|rfl|rfl<;>exact absurd e (by decide)
theorem D6:∀t:TypeId,(t=5\/t=9\/t=106)->237≠t:=fun t ht e=>by rcases ht with rfl|rfl|rfl<;>exact absurd e (by decide)
theorem StP.set {ob pb g q i:Nat}{o:MV}{l:List RP}{W:World}{cs:Array Value}{x:Value}(h:StP ob pb o q l W)(hg:W.heap[g]?=some (.cells cs 237)):StP ob pb o q l (W.setCell ⟨g,i,none⟩ x):=by
 obtain⟨⟨a,k,h1,h2⟩,h3,h4⟩:=h;refine⟨⟨a,k,af h1 (fun e=>?_),dO h2 (fun j hj=>Below.heap_setCell _ _ _ _ (fun e=>?_))⟩,af h3 (fun e=>?_),h4.kpr (qg hg D6)⟩
 ·rw[e,hg] at h1;cases h1
 ·obtain⟨-,-,cur,h5⟩:=bz h2 hj;have e:j=g:=e;rw[e,hg] at h5;cases h5
 rw[e,hg] at h3;cases h3
structure LpS (q ob pb yb:Nat)(o:MV)(s':RS)(wr:World)(l:List RP)(a:Option Addr)(kc:Nat)(r:RV)(x:OC)(W:World):Prop where
 X:BelX q [ob] wr W
 qo:W.heap[ob]?=some (MV.box { o with lo:=a,ln:=l.length,lc:=kc })
 own:W.ownsRow q 55 9 (.slice a l.length kc) l.length (rpV l)
 ty:RqTy W l
 rd:RdS q q s' W
 qy:W.heap[yb]?=some r.box
 qp:W.heap[pb]?=some (dP ob)
 oy:OpAt W r.op x
 ry:OpTy W r.op
 uy:U64R r
 hM:ob<q/\pb<q/\q<=W.heap.size
 hyb:∀j,(Value.slice a l.length kc).ownBlock=some j->j<yb
section
variable {q ob pb yb:Nat} {o:MV} {s':RS} {wr:World} {l:List RP} {a:Option Addr} {kc:Nat} {r:RV} {x:OC} {W W':World}
theorem LpS.later (h:LpS q ob pb yb o s' wr l a kc r x W)(hb:Below W.heap.size W W'):LpS q ob pb yb o s' wr l a kc r x W':=
 have hk:=KeepR.of_below hb
 ⟨h.X.trans ((BelX.of_below hb [ob]).mono h.hM.2.2 (fun _ hk _=>hk)),ag h.qo hb,aF h.own hb,h.ty.kpr hk,h.rd.later hb,(hb.block _ (Array.getElem?_eq_some_iff.1 h.qy).1).trans h.qy,(hb.block _ (Array.getElem?_eq_some_iff.1 h.qp).1).trans h.qp,h.oy.later hb,h.ry.kpr hk,h.uy,⟨h.hM.1,h.hM.2.1,Nat.le_trans h.hM.2.2 hb.size⟩,h.hyb⟩
def LpC (yb pb ob:Nat)(r:RV)(v:Value)(W:World):Prop:=W.heap[yb]?=some r.box/\W.cell? ⟨pb,0,none⟩=some (.pointer (some ⟨ob,0,none⟩))/\W.cell? ⟨ob,23,none⟩=some v
theorem LpS.cells (h:LpS q ob pb yb o s' wr l a kc r x W):LpC yb pb ob r (.slice a l.length kc) W:=⟨h.qy,by have:=h.qp;simp[World.cell?,this,dP],(McAt.of h.qo).c23⟩
theorem LpS.app {a4:Option Addr}{k4:Nat}(h:LpS q ob pb yb o s' wr l a kc r x W)(h4:W'.ownsRow q 55 9 (.slice a4 (l.length+1) k4) (l.length+1) (rpV l++(RV.cells r).toList))(hg:W.grownBy W' (Value.slice a l.length kc).ownBlock)(hb:Below q W W') :
  LpC yb pb ob r (.slice a l.length kc) W'/\W'.frozen? ⟨ob,23,none⟩=false/\StP ob pb o q (l++[(r,x)]) (W'.setCell ⟨ob,23,none⟩ (.slice a4 (l.length+1) k4))/\RdS q q s' (W'.setCell ⟨ob,23,none⟩ (.slice a4 (l.length+1) k4))/\BelX q [ob] wr (W'.setCell ⟨ob,23,none⟩ (.slice a4 (l.length+1) k4)) /\
  (W'.setCell ⟨ob,23,none⟩ (.slice a4 (l.length+1) k4)).cell? ⟨pb,0,none⟩=some (.pointer (some ⟨ob,0,none⟩))/\(W'.setCell ⟨ob,23,none⟩ (.slice a4 (l.length+1) k4)).cell? ⟨ob,23,none⟩=some (.slice a4 (l.length+1) k4):=by
 obtain⟨m1,m2,m3⟩:=h.hM;have hk:=uT hg h.own Fb;have q1:W'.heap[ob]?=some (MV.box { o with lo:=a,ln:=l.length,lc:=kc }):=(hb.block _ m1).trans h.qo;have p1:W'.heap[pb]?=some (dP ob):=(hb.block _ m2).trans h.qp;have y1:W'.heap[yb]?=some r.box:=(hg.block _ (Array.getElem?_eq_some_iff.1 h.qy).1 (fun e=>by have:=h.hyb _ e.symm;omega)).trans h.qy;have r1:RdS q q s' W':=uN h.rd hg h.own (by decide) (by decide);have t1:=(h.ty.snoc (p:=(r,x)) h.oy h.ry h.uy).kpr hk;have hpo:pb≠ob:=fun e=>by rw[e,q1] at p1;cases p1
 have q2:(W'.setCell ⟨ob,23,none⟩ (.slice a4 (l.length+1) k4)).heap[ob]?=some (MV.box { o with lo:=a4,ln:=l.length+1,lc:=k4 }):=(at_set q1).trans (by kernel_rfl);have p2:=af (b:=ob) (i:=23) (x:=.slice a4 (l.length+1) k4) p1 hpo;have eln:(l++[(r,x)]).length=l.length+1:=by simp
 refine⟨⟨y1,by simp[World.cell?,p1,dP],(McAt.of q1).c23⟩,dw q1 23,⟨⟨a4,k4,by rw[eln];exact q2,?_⟩,p2,t1.kpr (qg q1 Dh)⟩,r1.grown (ai _ _ _ _) q1 (RdM.not_u8 bZ) (by omega),(h.X.trans (BelX.of_below hb [ob])).set _ _ _ (.inl (by simp)),by simp[World.cell?,p2,dP],(McAt.of q2).c23⟩;rw[eln,KG];exact dO h4 (fun j hj=>Below.heap_setCell _ _ _ _ (by have:=(bz h4 hj).1;show j≠ob;omega))
end
theorem LpC.cell {yb pb ob:Nat}{r:RV}{v:Value}{W:World}(h:LpC yb pb ob r v W):W.heap[yb]?=some r.box/\W.cell? ⟨pb,0,none⟩=some (.pointer (some ⟨ob,0,none⟩))/\W.cell? ⟨ob,23,none⟩=some v:=h
theorem J7 (ob pb q:Nat)(o:MV)(l:List RP)(b:List UInt8)(wr:World)(hob:ob<q)(hpb:pb<q)(hst:StP ob pb o q l wr)(hr:RdS q q ⟨b,false⟩ wr)(hb:b.length<=4194304)(hl:l.length<=4194304) :
  Calls Tryz.prog 208 #[.pointer (some ⟨q,0,none⟩),.pointer (some ⟨pb,0,none⟩)] wr (rU q [ob] elQ mayQ 4096 (StP ob pb o) l b wr):=by
 have hmo:Tryz.prog.follows .mixedOrders=true:=by kernel_rfl
 obtain⟨⟨a,k,ho,hown⟩,hp,hE⟩:=hst;have T:=bI ⟨b,false⟩ 1 (by decide);have hl3:=iM ⟨b,false⟩ 1;have hby:=gK q q ⟨b,false⟩ 1 wr hr (by dsimp only;omega);generalize RS.bytes ⟨b,false⟩ 1=y at *;obtain⟨y,s'⟩:=y;dsimp only at T hby hl3;have hqs:q<wr.heap.size:=by obtain⟨_,_,h⟩:=hr;exact h.lt
 have HT:=hid T;clear T;go_in;go_wp2_with fail;refine hby.mono ?_;rintro e W1 ⟨a1,c1,rfl,hrd1,hty1,hr1,hg1⟩;have hE1:=hE.kpr (xg hr hg1);have ho1:=(hg1.block _ (by omega) (fun e=>by have:=Option.some.inj e;omega)).trans ho;have hp1:=(hg1.block _ (by omega) (fun e=>by have:=Option.some.inj e;omega)).trans hp;have own1:W1.ownsRow q 55 9 (.slice a l.length k) l.length (rpV l):=dO hown (fun k hk=>hg1.block k (bz hown hk).2.1 (fun e=>by obtain⟨_,_,cur,h3⟩:=bz hown hk;obtain⟨_,_,h⟩:=hr;have h4:=h.at_;rw[<-Option.some.inj e,h3] at h4;cases h4));have X1:BelX q [ob] wr W1:=(iI hg1 (M:=q) (by omega)).mono (Nat.le_refl _) (fun k hk h=>by rw[List.mem_singleton.1 hk] at h;omega);have hz1:=hg1.size;clear hby hE ho hp hown hr hg1;go_wp2_with fail;refine (su y a1 y.length c1 W1 hrd1 (by omega)).mono ?_;rintro e W2 hO;obtain⟨ok,r,x,rfl,oY,tY,uY,hb2,hans⟩:=Aq hO;have HA:=hid hans;clear hO hans hrd1 hty1;unfold RV.val RV.cells;go_upto_region 2 with (refine zNr rfl ?_;go_simp);generalize hg:W2.alloc _=W3;have e3:W2.alloc r.box=W3:=hg;have hb3':Below W2.heap.size W2 W3:=by rw[<-e3];exact (Below.refl _ _).alloc (Nat.le_refl _) _
 have hb3:=hb2.trans (hb3'.mono hb2.size);have q3:W3.heap[W2.heap.size]?=some r.box:=by rw[<-e3];exact at_new _ _
 have s3:LpS q ob pb W2.heap.size o s' wr l a k r x W3:=⟨X1.trans ((BelX.of_below hb3 [ob]).mono (by omega) (fun _ hk _=>hk)),ag ho1 hb3,aF own1 hb3,hE1.kpr (KeepR.of_below hb3),hr1.later hb3,q3,(hb3.block _ (Array.getElem?_eq_some_iff.1 hp1).1).trans hp1,oY.later hb3',tY.kpr (KeepR.of_below hb3'),uY,⟨hob,hpb,by have:=hb3.size;omega⟩,fun j hj=>by have:=(bz own1 hj).2.1;have:=hb2.size;omega⟩
 clear hg e3 hb3' hb3 hb2 ho1 hp1 own1 hr1 hE1 X1 q3 oY tY uY;generalize W2.heap.size=yb at *;refine ed (k:=10) (S:=LpC yb pb ob r (.slice a l.length k)) hmo ?_;change dh _ _ _ _ _ _ _ _ _ (World.drew W3);have hd:Below W3.heap.size W3 W3.drew:=(Below.refl _ _).drew;have s0:=s3.later hd;generalize World.drew W3=X0 at *;clear hd s3;have t0:=s0.cells;refine zTa 0 (.pointer (some ⟨ob,0,none⟩)) rfl (by rintro w2 h2;obtain⟨cc,cd,ce⟩:=h2.cell;go_simp) t0 ?_;go_simp;refine zTa 1 (.pointer (some ⟨ob,0,none⟩)) rfl (by rintro w2 h2;obtain⟨cc,cd,ce⟩:=h2.cell;go_simp) t0 ?_;go_simp;refine zTp 2 (.pointer (some ⟨ob,0,none⟩)) rfl t0 ?_;go_simp;refine zTp 3 (.pointer (some ⟨ob,23,none⟩)) rfl t0 ?_;go_simp;refine zTa 4 (.slice a l.length k) rfl (by rintro w2 h2;obtain⟨cc,cd,ce⟩:=h2.cell;go_simp) t0 ?_;go_simp;refine zTa 5 (.agg #[.int .u64 r.cl,.int .u64 r.nu,.int .i64 r.op.k,.string r.op.name,.string r.op.to,.slice r.op.ao r.op.an r.op.ac,.slice r.op.bo r.op.bn r.op.bc,.slice r.op.co r.op.cn r.op.cc,.int .i64 r.op.n]) rfl (by rintro w2 h2;obtain⟨cc,cd,ce⟩:=h2.cell;exact kE (cs:=r.cells) cc rfl rfl (by kernel_rfl) (by kernel_rfl)) t0 ?_;go_simp;refine zT1 6 rfl (fun K hK=>?_);go_simp;obtain⟨V,hV⟩:∃V,X0.alloc (.cells (RV.cells r) 55)=V:=⟨_,rfl⟩
 have hbV:Below X0.heap.size X0 V:=by rw[<-hV];exact (Below.refl _ _).alloc (Nat.le_refl _) _
 have rV:Rd V 9 (some ⟨X0.heap.size,0,none⟩) 1 1 (RV.cells r).toList:=by rw[<-hV];exact Rd.new X0 (RV.cells r).toList 55 (0,0) 9 1 rfl (by unfold maxLen;omega)
 have sV:=s0.later hbV;have t1:=sV.cells;unfold RV.cells at hV;rw[hV];refine hK _ _ ⟨.inr t1,?_⟩;clear hK K hV hbV s0 t0;refine zT1 7 rfl (fun K hK=>?_);refine yU rfl (.tmp 16) (.tmp 18) 56 rfl q 55 dN.val 9 136 GL (.slice a l.length k) l.length (rpV l) rfl sV.own (some ⟨X0.heap.size,0,none⟩) 1 1 (RV.cells r).toList rfl rV (OX r) (by unfold maxLen;omega) (by omega) sV.hM.2.2 ?_;intro a4 k4 V4 own4 hg4 hb4 _;obtain⟨p1,p2,p3,p4,p5,c8,c9⟩:=sV.app own4 hg4 hb4;refine hK _ _ ⟨.inr p1,?_⟩;clear hK K own4 hg4 hb4 rV sV t1;refine zTp 8 (.pointer (some ⟨ob,0,none⟩)) rfl p1 ?_;go_simp;refine zTp 9 (.pointer (some ⟨ob,23,none⟩)) rfl p1 ?_;go_simp;have cO:=p1.cell.2.2;refine dH (by kernel_rfl) (by kernel_rfl) ?_;refine zA1 10 rfl (fun K hK=>?_);go_simp;refine hK _ _ ?_;clear hK K cO;refine wpAny_done (by kernel_rfl) ?_ _;have P:=hid (And.intro p3 (And.intro p4 p5));clear p1 p2 p3 p4 p5;generalize World.setCell _ ⟨ob,23,none⟩ _=W5 at *;have hG:Hid (∀bb:Bool,(bb=true->l.length<4096/\ok=true)->(bb=false->ok=false\/4096<=l.length)->rU q [ob] elQ mayQ 4096 (StP ob pb o) l b wr (.returned (.bool bb)) W5):=hid (by
  intro bb h1 h2;refine⟨bb,s',(r,x),rfl,P.out.2.1,P.out.1,P.out.2.2,HT.out.le,fun hb hs=>?_,fun h=>?_⟩
  ·obtain⟨k1,k2⟩:=h1 hb;obtain⟨-,k4,k5⟩:=HT.out.yes hs;rcases HA.out with ⟨-,m1,m2⟩ | ⟨m0,-⟩
   ·obtain⟨n1,n2,n3⟩:=P.out.1.ty (r,x) (by simp);refine⟨k1,?_,⟨m1,by dsimp only;rw[m2];exact k5,n3,_,n1⟩⟩;unfold elQ;dsimp only at k4 ⊢;rw[m2];exact k4
   rw[m0] at k2;cases k2
  have hno:s'.bad=true->∀z rest,mayQ z->b≠elQ z++rest:=fun hs z rest hz=>by
   rcases HT.out.no hs with h | h
   ·cases h
   exact h (eQ z.1 (opL z.1.op z.2)) rest hz.len
  cases hs:s'.bad with
  | true=>exact .inr (hno hs)
  | false=>
   rw[hs] at h;rcases h with rfl | h
   ·rcases h2 rfl with h3 | h3
    ·rcases HA.out with ⟨m0,-⟩ | ⟨-,nY⟩
     ·rw[m0] at h3;cases h3
     obtain⟨-,k4,k5⟩:=HT.out.yes hs;refine .inr (fun z rest hz e=>?_);rw[show b=val 1 y++s'.l from k4] at e;obtain⟨X,hX⟩:=hz.at_;exact nY X z.1 z.2 hX hz.may hz.u (ak (by decide) k5 hz.len e).1.symm
    exact .inl h3
   cases h)
 clear P HT HA;cases ok with
 | true=>
  by_cases h8:l.length<4096
  ·have f0:decide ((l.length:Int)+1<=4096)=true:=decide_eq_true (by omega);go_wp2_with fail;go_ret;exact hG.out true (fun _=>⟨h8,by first | rfl | trivial⟩) (fun h=>by cases h)
  have f0:decide ((l.length:Int)+1<=4096)=false:=decide_eq_false (by omega);go_wp2_with fail;go_ret;exact hG.out false (fun h=>by cases h) (fun _=>.inr (by omega))
 | false=>
  go_wp2_with fail;go_ret;exact hG.out false (fun h=>by cases h) (fun _=>.inl (by first | rfl | trivial))
theorem MW (B g ob:Nat)(w:World)(o:MV)(c:MC)(s:RS)(W:World)(h:RdM B g ob w o c s W)(hl:s.l.length<=100000000)(hz:o.lo=none/\o.ln=0/\o.lc=0):Calls Tryz.prog 206 #[.pointer (some ⟨g,0,none⟩),.pointer (some ⟨ob,0,none⟩)] W (lC B g ob w 108 o c s W):=by
 have hb:Below W.heap.size W (W.alloc (dP ob)):=(Below.refl _ _).alloc (Nat.le_refl _) _;have hp:(W.alloc (dP ob)).heap[W.heap.size]?=some (dP ob):=at_new _ _;have h1:=h.later hb;obtain⟨l1,l2⟩:=h.lt;have hgb:W.heap.size≠g:=by omega
 unfold dP at hb hp h1;go_in;go_upto_region 1 with fail;generalize hg:W.alloc _=W1 at *;have hp1:W1.heap[W.heap.size]?=some (dP ob):=hp;clear hg hp;have hno:∀q w1,W1.grownBy w1 (some g)->StP ob W.heap.size o q [] w1:=fun q w1 hgw=>by
  have q1:=(hgw.block _ h1.lt.2 (fun e=>h.ne (Option.some.inj e).symm)).trans h1.q;refine⟨⟨none,0,?_,World.ownsRow_nil _ _ _ _⟩,(hgw.block _ (Array.getElem?_eq_some_iff.1 hp1).1 (fun e=>hgb (Option.some.inj e))).trans hp1,fun p hp=>by cases hp⟩;have e:({ o with lo:=none,ln:=([]:List RP).length,lc:=0 }:MV)=o:=by
   obtain⟨z1,z2,z3⟩:=hz;cases o;dsimp only at z1 z2 z3;subst z1 z2 z3;rfl
  rw[e];exact q1
 have hli:=ut B g s 13 208 #[.pointer (some ⟨W.heap.size,0,none⟩)] W1 (by decide) h1.rd hl (enters_of Tryz.func208 (by kernel_rfl) rfl) [ob] (fun k hk=>by
  rw[List.mem_singleton.1 hk];exact⟨fun e=>h.ne e.symm,_,h1.q,RdM.not_u8 bZ⟩) elQ mayQ 4096 Ol Nc (StP ob W.heap.size o) hno (fun q l wx cs v _ k1 k2=>k1.set k2) (fun q l b wr hq k1 k2 k3 k4 _=>J7 ob W.heap.size q o l b wr (Nat.lt_of_lt_of_le h1.lt.2 hq) (Nat.lt_of_lt_of_le (Array.getElem?_eq_some_iff.1 hp1).1 hq) k1 k2 k3 k4)
 have H:=hid h;have H1:=hid h1;clear h h1 hno hz hp1 hgb;go_wp2_with fail;refine hli.mono ?_;rintro e W2 ⟨⟨r9,rfl⟩,s',q,l,hr2,hq,hst,hX,hln,T⟩;have HH:Hid (lC B g ob w 108 o c s W (.returned (.tuple #[])) W2):=hid (by
  obtain⟨⟨a,k,qo,own⟩,-,ty⟩:=hst;have h1:=H1.out;have hk:KeepM W1 W2:=KeepM.of_belX hX (fun k hk=>by
   simp only[List.mem_cons,List.not_mem_nil,or_false] at hk;rcases hk with rfl|rfl
   ·obtain⟨_,_,hr⟩:=h1.rd;exact⟨_,hr.at_,fun c t fr ht e=>by cases e;exact oh ht⟩
   exact⟨_,h1.q,fun c t fr ht e=>by cases e;exact bZ ht⟩)
  have A:=h1.at_.kpm h1.ty hk;have Y:=h1.ty.kpm hk;have S:StepX 108 s (aK 108 o { o with lo:=a,ln:=l.length,lc:=k }) (dE 108 c { c with log:=l }) s':=Gx T rfl;refine⟨rfl,(BelX.of_below hb [g,ob]).trans (hX.mono hb.size (fun _ hk _=>hk)),{ o with lo:=a,ln:=l.length,lc:=k },{ c with log:=l },s',h1.turn hX hr2 qo ⟨A.rq,A.rs,A.sn,⟨Rd.of_own_slice own,fun p hp=>(ty p hp).1⟩,A.se,A.ls,A.lh⟩ ⟨h1.u.vi,h1.u.no,h1.u.cl,h1.u.nu,h1.u.at_,h1.u.cm,h1.u.bs,h1.u.nc,h1.u.rq,fun p hp=>(ty p hp).2.2,h1.u.seen⟩ ⟨Y.rq,Y.rs,Y.sn,TyX.of_own own,fun p hp=>(ty p hp).2.1,Y.ho⟩ h1.fr (fun e=>⟨(T.yes e).2.2.2.1,(h1.cnt (T.yes e).1).2⟩),S⟩)
 clear hst hr2 hq hX hln T H H1 hb hli;go_wp2_with fail;refine bodyPost_end (results_none rfl _ _ _) rfl ?_;exact HH.out
end Go.Proofs.YtfmmandlmbcncaaGreatDoor.Msg
