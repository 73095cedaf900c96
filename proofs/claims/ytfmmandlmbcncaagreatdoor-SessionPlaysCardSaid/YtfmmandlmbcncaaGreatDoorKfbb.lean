/-A part of the proof.-/
import Derived.Test.YtfmmandlmbcncaaGreatDoorKfba
set_option maxHeartbeats 40000000
set_option maxRecDepth 100000
set_option linter.all false
namespace Go.Proofs.YtfmmandlmbcncaaGreatDoor
namespace Msg
open Go.RowKit Go.Lib Mem Tlv
variable{M k k' m n tb:Nat}{b w':World}{d:MC}{e:Ending}{t:UInt8}{u:MV}{v:OV}{y:List UInt8}{ys:List Nat}
def nH (B g ob:Nat)(w:World)(x:Int)(o:MV)(c:MC)(s:RS)(W:World)(e:Ending)(w':World):Prop:=e=.returned (.tuple #[])/\SwP B g ob w x o c s W w'
theorem Jc{x:Int}{s s':RS}{N:Nat}{o:MV}{c:MC}{f:MV->Int}(ht:0<t.toNat)(hN:N<18446744073709551616)(hf:∀m d,bW x m d=val t (au (f m).toNat))(hu:∀W m d,MAt W m d->U64M m d->MayF x m d->0<=f m/\f m<=(N:Int))
  (T:Took (fun n:Nat=>val t (au n)) (fun n=>n<=N) (fun n=>n<=N) s n s') (ho:f o=(n:Int)) (hg:n<=N->MayG x o c):StepX x s o c s' where
 yes:=fun h=>by
  obtain⟨a,b,g⟩:=T.yes h;refine⟨a,?_,hg g⟩;rw[hf,ho,yct];exact b
 go:=fun hb W m d r h1 h2 h3 e=>by
  obtain⟨u1,u2⟩:=hu W m d h1 h2 h3;rw[hf] at e;exact jh T (fun z r r' hz hy e=>(az ht (by rw[ai];omega) (by rw[ai];omega) e).2) hb (z:=(f m).toNat) (by omega) e
 le:=T.le
theorem CB{w:World}(h:xg OpTy (.int .i64 0) (.int .i64 4) y w e w'):∃(ok:Bool) (r:RV) (x:OC),e=.returned (.tuple #[r.val,.int .i64 (if ok then 0 else 4)])/\OpAt w' r.op x/\OpTy w' r.op/\U64R r/\Below w.heap.size w w'/\((ok=true/\aA r.op x=true/\dG r (opL r.op x)=y)\/(ok=false/\qW y)):=by
 obtain⟨hb,⟨r,x,rfl,h1,h2,h3,h4,h5⟩ | ⟨rfl,n1⟩⟩:=h
 ·exact⟨true,r,x,rfl,h1,h2,h3,hb,.inl ⟨rfl,h4,h5⟩⟩
 exact⟨false,bG,⟨[],[],[]⟩,rfl,⟨Rd.nil _ _,Rd.nil _ _,Rd.nil _ _,yam _,yam _,yam _⟩,⟨fun h=>absurd h (yaw 0),fun h=>absurd h (yaw 0),fun h=>absurd h (yaw 0)⟩,⟨by decide,by decide,by decide,by decide⟩,hb,.inr ⟨rfl,n1⟩⟩
theorem NU{w:World}(h:xu QTy (.int .i64 0) (.int .i64 4) y w e w'):∃(ok:Bool) (q:QV) (x:QC),e=.returned (.tuple #[q.val,.int .i64 (if ok then 0 else 4)])/\QAt w' q x/\QTy w' q x/\Below w.heap.size w w'/\((ok=true/\bz q x=true/\dM q x=y)\/(ok=false/\uI y)):=by
 obtain⟨hb,⟨q,x,rfl,h1,h2,h4,h5⟩ | ⟨rfl,n1⟩⟩:=h
 ·exact⟨true,q,x,rfl,h1,h2,hb,.inl ⟨rfl,h4,h5⟩⟩
 exact⟨false,aG,⟨[],[]⟩,rfl,⟨⟨Rd.nil _ _,fun _ hp=>absurd hp yal⟩,Rd.nil _ _,yam _⟩,⟨fun h=>absurd h (yaw 0),fun _ hp=>absurd hp yal,fun h=>absurd h (yaw 0)⟩,hb,.inr ⟨rfl,n1⟩⟩
section
variable (B g ob:Nat) (w:World) (o:MV) (c:MC) (s:RS) (W:World) (h:RdM B g ob w o c s W) (hl:s.l.length<=100000000)
include h hl
theorem PD:Calls Tryz.prog 188 #[.pointer (some ⟨g,0,none⟩),.pointer (some ⟨ob,0,none⟩)] W (nH B g ob w 102 o c s W):=by
 have T:=mG s 4 6 (by decide) (by decide);have hle:=nT s 4 6;have hc:=mW B g s 4 6 W h.rd hl (by decide);unfold jm at hc;generalize RS.numM s 4 6=nm at *;obtain⟨n,s'⟩:=nm;dsimp only at T hle hc;have S:StepX 102 s (aJ 102 o { o with fr:=(n:Int) }) (dA 102 c c) s':=Jc (f:=MV.fr) (N:=6) (by decide) (by decide) (fun _ _=>rfl) (fun _ m _ _ _ f=>by have:=f.fr rfl;omega) T rfl (fun hn=>⟨fun _=>by show 0<=(n:Int)/\(n:Int)<18446744073709551616;omega,fun e=>absurd e (by decide),fun e=>absurd e (by decide),fun e=>absurd e (by decide),fun e=>absurd e (by decide),fun e=>absurd e (by decide)⟩);have H:Hid (∀W1,W.grownBy W1 (some g)->RdS B g s' W1->SwP B g ob w 102 o c s W (W1.setCell ⟨ob,3,none⟩ (.int .i64 (n:Int)))):=hid (fun W1 hg hr=>h.num hg hr S rfl (fun X a=>⟨a.rq,a.rs,a.sn,a.lg,a.se,a.ls,a.lh⟩) ⟨h.u.vi,h.u.no,h.u.cl,h.u.nu,h.u.at_,h.u.cm,h.u.bs,h.u.nc,h.u.rq,h.u.log,h.u.seen⟩ (fun X a=>⟨a.rq,a.rs,a.sn,a.lo,a.log,a.ho⟩) (by show 0<=(n:Int)/\(n:Int)<7;omega) rfl rfl);have Hq:=hid h;clear T S hle h;go_in;go_wp2_with fail;refine hc.mono ?_;rintro e W1 ⟨rfl,hr1,hg1⟩;have q1:W1.heap[ob]?=some o.box:=(hg1.block _ Hq.out.lt.2 (fun e=>Hq.out.ne (yaf e).symm)).trans Hq.out.q;have c3:=(McAt.of q1).c3;have z0:=dR q1;clear q1;go_wp2_with fail;refine yaL (yaJ rfl _ _ _) rfl ?_;exact⟨rfl,H.out W1 hg1 hr1⟩
theorem QA:Calls Tryz.prog 211 #[.pointer (some ⟨g,0,none⟩),.pointer (some ⟨ob,0,none⟩)] W (nH B g ob w 119 o c s W):=by
 have T:=qJ s 15 (by decide);have hc:=yG B g s 15 W h.rd hl;unfold jm at hc;generalize RS.flag s 15=nm at *;obtain⟨y,s'⟩:=nm;dsimp only at T hc;have S:StepX 119 s (aJ 119 o { o with wh:=y }) (dA 119 c c) s':=zn T rfl;have H:Hid (∀W1,W.grownBy W1 (some g)->RdS B g s' W1->SwP B g ob w 119 o c s W (W1.setCell ⟨ob,25,none⟩ (.bool y))):=hid (fun W1 hg hr=>h.num hg hr S rfl (fun X a=>⟨a.rq,a.rs,a.sn,a.lg,a.se,a.ls,a.lh⟩) ⟨h.u.vi,h.u.no,h.u.cl,h.u.nu,h.u.at_,h.u.cm,h.u.bs,h.u.nc,h.u.rq,h.u.log,h.u.seen⟩ (fun X a=>⟨a.rq,a.rs,a.sn,a.lo,a.log,a.ho⟩) h.fr rfl rfl);have Hq:=hid h;clear T S h;go_in;go_wp2_with fail;refine hc.mono ?_;rintro e W1 ⟨rfl,hr1,hg1⟩;have q1:W1.heap[ob]?=some o.box:=(hg1.block _ Hq.out.lt.2 (fun e=>Hq.out.ne (yaf e).symm)).trans Hq.out.q;have c25:=(McAt.of q1).c25;have z0:=dR q1;clear q1;go_wp2_with fail;refine yaL (yaJ rfl _ _ _) rfl ?_;exact⟨rfl,H.out W1 hg1 hr1⟩
theorem PP:Calls Tryz.prog 202 #[.pointer (some ⟨g,0,none⟩),.pointer (some ⟨ob,0,none⟩)] W (nH B g ob w 115 o c s W):=by
 have T:=bC s 12 (by decide);have hle:=fU s 12;have hc:=iZ B g s 12 W h.rd hl;generalize RS.bytes s 12=nm at *;obtain⟨y,s'⟩:=nm;dsimp only at T hle hc;have H:Hid (∀W1 a k,W.grownBy W1 (some g)->RdS B g s' W1->Rd W1 1 a y.length k (byV y)->TyX 5 W1 a k->SwP B g ob w 115 o c s W (W1.setCell ⟨ob,22,none⟩ (.slice a y.length k))):=hid (fun W1 a k hg hr hrd hty=>by
  have S:StepX 115 s (aJ 115 o { o with so:=a,sn:=y.length,sc:=k }) (dA 115 c { c with snap:=y }) s':=BI T rfl;have A:=h.at_.kpm h.ty (h.kg hg);have Y:=h.ty.kpm (h.kg hg);exact h.put hg hr S rfl ⟨A.rq,A.rs,hrd,A.lg,A.se,by show y.length<=1000000000;omega,A.lh⟩ ⟨h.u.vi,h.u.no,h.u.cl,h.u.nu,h.u.at_,h.u.cm,h.u.bs,h.u.nc,h.u.rq,h.u.log,h.u.seen⟩ ⟨Y.rq,Y.rs,hty,Y.lo,Y.log,Y.ho⟩ h.fr (fun e=>h.cnt (S.yes e).1))
 have Hq:=hid h;clear T hle h;go_in;go_wp2_with fail;refine hc.mono ?_;rintro e W1 ⟨a,k,rfl,hrd,hty,hr1,hg1⟩;have q1:W1.heap[ob]?=some o.box:=(hg1.block _ Hq.out.lt.2 (fun e=>Hq.out.ne (yaf e).symm)).trans Hq.out.q;have c22:=(McAt.of q1).c22;have z0:=dR q1;clear q1;go_wp2_with fail;refine yaL (yaJ rfl _ _ _) rfl ?_;exact⟨rfl,H.out W1 a k hg1 hr1 hrd hty⟩
theorem PY:Calls Tryz.prog 192 #[.pointer (some ⟨g,0,none⟩),.pointer (some ⟨ob,0,none⟩)] W (nH B g ob w 113 o c s W):=by
 have T:=bC s 7 (by decide);have hle:=fU s 7;have hc:=iZ B g s 7 W h.rd hl;generalize RS.bytes s 7=nm at *;obtain⟨y,s'⟩:=nm;dsimp only at T hle hc;have HT:=hid T;have Hq:=hid h;clear T h;go_in;go_wp2_with fail;refine hc.mono ?_;rintro e W1 ⟨a,k,rfl,hrd,hty,hr1,hg1⟩;have h1:=hid (Hq.out.grown hg1 hr1 (fun e=>(HT.out.yes e).1));have hX1:=hid (BelX.of_grown hg1);clear hc hr1 hg1 hty Hq;go_wp2_with fail;refine (uS y a y.length k W1 hrd (by omega)).mono ?_;rintro e W2 hA;obtain⟨ok,r,x,rfl,oY,tY,uY,hb2,hans⟩:=CB hA;have HA:=hid hans;have h2:=hid (h1.out.later hb2);have hX2:=hid hb2;clear hA hans hrd;unfold RV.val RV.cells;go_upto_region 1 with (refine zNr rfl ?_;go_simp);generalize hg:W2.alloc _=W3;have e3:W2.alloc r.box=W3:=hg;have hb3:=bE e3
 have q3:W3.heap[W2.heap.size]?=some r.box:=aE e3
 have h3:=h2.out.later hb3;have oY3:=oY.later hb3;have tY3:=tY.kpr (KeepR.of_below hb3);have hb4:=hb2.trans (hb3.mono hb2.size);have hX3:BelX W.heap.size [g] W W3:=hX1.out.trans ((BelX.of_below hb4 [g]).mono hX1.out.size (fun _ hk _=>hk));clear hg e3 hb3 hb2 hb4 oY tY h1 h2 hX1 hX2;generalize W2.heap.size=yb at *;have qo:=h3.q;have c6:=(McAt.of qo).c6;have c7:=(McAt.of qo).c7;have c8:=(McAt.of qo).c8;have c9:=(McAt.of qo).c9;have c10:=(McAt.of qo).c10;have c11:=(McAt.of qo).c11;have c12:=(McAt.of qo).c12;have c13:=(McAt.of qo).c13;have c14:=(McAt.of qo).c14;have zo:=dR qo;have hX:BelX W3.heap.size [ob] W3 (jr W3 ob r):=zi (.inl (by simp));have hk:=h3.ko hX;have A:=h3.at_.kpm h3.ty hk;have Y:=h3.ty.kpm hk;have h4:RdM B g ob w (aJ 113 o { o with rq:=r }) (dA 113 c { c with rq:=x }) s' (jr W3 ob r):=h3.box hX ((Em h3.q).trans (by kernel_rfl)) ⟨oY3.kpr tY3 hk.kr,A.rs,A.sn,A.lg,A.se,A.ls,A.lh⟩ ⟨h3.u.vi,h3.u.no,h3.u.cl,h3.u.nu,h3.u.at_,h3.u.cm,h3.u.bs,h3.u.nc,uY,h3.u.log,h3.u.seen⟩ ⟨tY3.kpr hk.kr,Y.rs,Y.sn,Y.lo,Y.log,Y.ho⟩ h3.fr h3.cnt;have hXX:BelX W.heap.size [g,ob] W (jr W3 ob r):=Gn hX3 hX;have hS:StepX 113 s (aJ 113 o { o with rq:=r }) (dA 113 c { c with rq:=x }) ⟨s'.l,s'.bad||!ok⟩:=Es HT.out (fun hh=>by
   rcases HA.out with ⟨-,a2,a3⟩ | ⟨a1,-⟩
   ·exact⟨a2,a3⟩
   ·rw[a1] at hh;cases hh) (fun hh=>by
   rcases HA.out with ⟨a1,-⟩ | ⟨-,a2⟩
   ·rw[a1] at hh;cases hh
   exact a2)
 have H4:=hid h4;have HX:=hid hXX;have HS:=hid hS;clear hX hk A Y h4 hXX hS HT HA qo h3 hX3 oY3 tY3;unfold RV.box RV.cells at q3;go_upto_region 2 with (refine wpList_load_row (ty:=55) q3 rfl rfl rfl (by kernel_rfl) (by kernel_rfl) ?_;go_simp);obtain⟨W4,hW4⟩:∃W4,jr W3 ob r=W4:=⟨_,rfl⟩
 rw[hW4] at H4 HX;unfold jr at hW4;rw[hW4];clear hW4 q3 zo c6 c7 c8 c9 c10 c11 c12 c13 c14;cases ok with
 | true=>
  have H:Hid (SwP B g ob w 113 o c s W W4):=hid ⟨HX.out,_,_,s',H4.out,by
   have e:(⟨s'.l,s'.bad||!true⟩:RS)=s':=by cases s';simp
   rw[<-e];exact HS.out⟩
  clear H4 HX HS;go_wp2_with fail;refine yaL (yaJ rfl _ _ _) rfl ?_;exact⟨rfl,H.out⟩
 | false=>
  have hf:=mF B g s' W4 H4.out.rd;go_wp2_with fail;refine hf.mono ?_;rintro e W5 ⟨⟨r9,rfl⟩,hr5,hw5⟩;have hg5:W4.grownBy W5 (some g):=by rw[hw5];exact ak _ _ _ _
  have H:Hid (SwP B g ob w 113 o c s W W5):=hid ⟨HX.out.trans ((BelX.of_grown hg5).mono HX.out.size (fun k hk _=>by rw[yah.1 hk];simp)),_,_,⟨s'.l,true⟩,H4.out.grown hg5 hr5 (fun e=>by cases e),by
   have e:(⟨s'.l,s'.bad||!false⟩:RS)=⟨s'.l,true⟩:=by cases s';simp
   rw[<-e];exact HS.out⟩
  clear H4 HX HS hf hr5 hw5 hg5;go_wp2_with fail;refine yaL (yaJ rfl _ _ _) rfl ?_;exact⟨rfl,H.out⟩
theorem Qi:Calls Tryz.prog 198 #[.pointer (some ⟨g,0,none⟩),.pointer (some ⟨ob,0,none⟩)] W (nH B g ob w 114 o c s W):=by
 have T:=bC s 8 (by decide);have hle:=fU s 8;have hc:=iZ B g s 8 W h.rd hl;generalize RS.bytes s 8=nm at *;obtain⟨y,s'⟩:=nm;dsimp only at T hle hc;have HT:=hid T;have Hq:=hid h;clear T h;go_in;go_wp2_with fail;refine hc.mono ?_;rintro e W1 ⟨a,k,rfl,hrd,hty,hr1,hg1⟩;have h1:=hid (Hq.out.grown hg1 hr1 (fun e=>(HT.out.yes e).1));have hX1:=hid (BelX.of_grown hg1);clear hc hr1 hg1 hty Hq;go_wp2_with fail;refine (Ec y a y.length k W1 hrd (by omega)).mono ?_;rintro e W2 hA;obtain⟨ok,q,x,rfl,oY,tY,hb2,hans⟩:=NU hA;have HA:=hid hans;have h2:=hid (h1.out.later hb2);have hX2:=hid hb2;clear hA hans hrd;unfold QV.val QV.cells;go_upto_region 1 with (refine zNr rfl ?_;go_simp);generalize hg:W2.alloc _=W3;have e3:W2.alloc q.box=W3:=hg;have hb3:=bE e3
 have q3:W3.heap[W2.heap.size]?=some q.box:=aE e3
 have h3:=h2.out.later hb3;have oY3:=oY.later hb3;have tY3:=tY.kpm (KeepM.of_below hb3);have hb4:=hb2.trans (hb3.mono hb2.size);have hX3:BelX W.heap.size [g] W W3:=hX1.out.trans ((BelX.of_below hb4 [g]).mono hX1.out.size (fun _ hk _=>hk));clear hg e3 hb3 hb2 hb4 oY tY h1 h2 hX1 hX2;generalize W2.heap.size=yb at *;have qo:=h3.q;have c15:=(McAt.of qo).c15;have c16:=(McAt.of qo).c16;have c17:=(McAt.of qo).c17;have c18:=(McAt.of qo).c18;have zo:=dR qo;have hX:BelX W3.heap.size [ob] W3 (jl W3 ob q):=zl (.inl (by simp));have hk:=h3.ko hX;have A:=h3.at_.kpm h3.ty hk;have Y:=h3.ty.kpm hk;have h4:RdM B g ob w (aJ 114 o { o with rs:=q }) (dA 114 c { c with rs:=x }) s' (jl W3 ob q):=h3.box hX ((DW h3.q).trans (by kernel_rfl)) ⟨A.rq,oY3.kpm tY3 hk,A.sn,A.lg,A.se,A.ls,A.lh⟩ ⟨h3.u.vi,h3.u.no,h3.u.cl,h3.u.nu,h3.u.at_,h3.u.cm,h3.u.bs,h3.u.nc,h3.u.rq,h3.u.log,h3.u.seen⟩ ⟨Y.rq,tY3.kpm hk,Y.sn,Y.lo,Y.log,Y.ho⟩ h3.fr h3.cnt;have hXX:BelX W.heap.size [g,ob] W (jl W3 ob q):=Gn hX3 hX;have hS:StepX 114 s (aJ 114 o { o with rs:=q }) (dA 114 c { c with rs:=x }) ⟨s'.l,s'.bad||!ok⟩:=CG HT.out (fun hh=>by
   rcases HA.out with ⟨-,a2,a3⟩ | ⟨a1,-⟩
   ·exact⟨a2,a3⟩
   ·rw[a1] at hh;cases hh) (fun hh=>by
   rcases HA.out with ⟨a1,-⟩ | ⟨-,a2⟩
   ·rw[a1] at hh;cases hh
   exact a2)
 have H4:=hid h4;have HX:=hid hXX;have HS:=hid hS;clear hX hk A Y h4 hXX hS HT HA qo h3 hX3 oY3 tY3;unfold QV.box QV.cells at q3;go_upto_region 2 with (refine wpList_load_row (ty:=39) q3 rfl rfl rfl (by kernel_rfl) (by kernel_rfl) ?_;go_simp);obtain⟨W4,hW4⟩:∃W4,jl W3 ob q=W4:=⟨_,rfl⟩
 rw[hW4] at H4 HX;unfold jl at hW4;rw[hW4];clear hW4 q3 zo c15 c16 c17 c18;cases ok with
 | true=>
  have H:Hid (SwP B g ob w 114 o c s W W4):=hid ⟨HX.out,_,_,s',H4.out,by
   have e:(⟨s'.l,s'.bad||!true⟩:RS)=s':=by cases s';simp
   rw[<-e];exact HS.out⟩
  clear H4 HX HS;go_wp2_with fail;refine yaL (yaJ rfl _ _ _) rfl ?_;exact⟨rfl,H.out⟩
 | false=>
  have hf:=mF B g s' W4 H4.out.rd;go_wp2_with fail;refine hf.mono ?_;rintro e W5 ⟨⟨r9,rfl⟩,hr5,hw5⟩;have hg5:W4.grownBy W5 (some g):=by rw[hw5];exact ak _ _ _ _
  have H:Hid (SwP B g ob w 114 o c s W W5):=hid ⟨HX.out.trans ((BelX.of_grown hg5).mono HX.out.size (fun k hk _=>by rw[yah.1 hk];simp)),_,_,⟨s'.l,true⟩,H4.out.grown hg5 hr5 (fun e=>by cases e),by
   have e:(⟨s'.l,s'.bad||!false⟩:RS)=⟨s'.l,true⟩:=by cases s';simp
   rw[<-e];exact HS.out⟩
  clear H4 HX HS hf hr5 hw5 hg5;go_wp2_with fail;refine yaL (yaJ rfl _ _ _) rfl ?_;exact⟨rfl,H.out⟩
end
theorem plainAt.cells{W:World}{t:Int}{fo:Value}{ob:Nat}(h:plainAt W t fo tb ob):W.cell? ⟨ob,0,none⟩=some fo/\W.cell? ⟨tb,0,none⟩=some (.int .u8 t):=by
 have h1:=h.1;have h2:=h.2;simp[World.cell?,h1,h2]
theorem TC(ff:FuncId)(ix:Nat)(t:UInt8)(hall:∀(b:Nat) (w:World),Calls Tryz.prog ff #[.pointer (some ⟨b,0,none⟩)] w fun e w'=>e=.returned (.pointer (some ⟨b,ix,none⟩))/\w=w')
  (hen:∀args w,(callFunc ff args).run Tryz.prog w=.ok (.enter ff args) w) (B g fb tb ob:Nat) (s:RS) (cs:Array Value) (y0:Value) (w:World) (hr:RdS B g s w) (hl:s.l.length<=100000000) (h1:w.heap[fb]?=some (oJ cs)) (hy:cs[ix]?=some y0) (hf:plainAt w (t.toNat:Int) (.func (.func ff) #[] #[]) tb ob) (hgf:g≠fb) :
  Calls Tryz.prog 220 #[.pointer (some ⟨g,0,none⟩),.pointer (some ⟨fb,0,none⟩),.pointer (some ⟨tb,0,none⟩),.pointer (some ⟨ob,0,none⟩)] w fun e w'=>e=.returned (.tuple #[])/\∃w1,RdS B g (s.num t).2 w1/\w.grownBy w1 (some g)/\w'=w1.setCell ⟨fb,ix,none⟩ (.int .u64 ((s.num t).1:Int)):=by
 have hmo:=hmO
 have hd:Below w.heap.size w w.drew:=(yaj _ _).drew;have s0:plainAt w.drew (t.toNat:Int) (.func (.func ff) #[] #[]) tb ob:=hf.later hd;have hr0:=hr.later hd;have hq0:w.drew.heap[fb]?=some (oJ cs):=h1;have hlt:fb<w.drew.heap.size:=lA hq0;have hc:=pW B g s t w.drew hr0 hl;unfold jm at hc;generalize RS.num s t=nm at *;obtain⟨n,s'⟩:=nm;dsimp only at hc ⊢;clear hr hf h1 hr0;go_in;go_upto_region 0 with fail;refine dN (k:=5) (S:=fun W=>plainAt W (t.toNat:Int) (.func (.func ff) #[] #[]) tb ob) hmo ?_;change bV _ _ _ _ _ _ _ _ _ (World.drew w);have hD:=hid hd;clear hd;generalize World.drew w=W0 at *;have zf0 (w0:World) (h:plainAt w0 (t.toNat:Int) (.func (.func ff) #[] #[]) tb ob):=h.cells;refine ztv 0 (.func (.func ff) #[] #[]) rfl ?_;go_simp;refine ztp 1 (pp fb 0) rfl (ztp 3 (pp g 0) rfl ?_);go_simp;refine ztv 4 (.int .u8 (t.toNat:Int)) rfl ?_;go_simp;refine zT1 2 rfl (fun K hK=>?_);go_simp;refine (hall fb W0).mono ?_;rintro e _ ⟨rfl,rfl⟩;go_simp;refine hK _ _ ⟨.inr s0,?_⟩;clear hK K;refine nM (by kernel_rfl) (by kernel_rfl) ?_;refine zA1 5 rfl (fun K hK=>?_);go_simp;refine hc.mono ?_;rintro e W1 ⟨rfl,q1,q2⟩;go_simp;have m1:W1.heap[fb]?=some (oJ cs):=(q2.block _ hlt (fun e=>hgf (yaf e).symm)).trans hq0;have c9:=qG m1 ix y0 hy;have z9:=xC m1 ix;refine hK _ _ ?_;clear hK K;refine zA1 6 rfl (fun K hK=>?_);go_simp;refine hK _ _ ?_;clear hK K;refine zA1 7 rfl (fun K hK=>?_);go_simp;go_simp;refine hK _ _ ?_;clear hK K;refine yby (by kernel_rfl) ?_ _;refine yaL (yaJ rfl _ _ _) rfl ?_;exact⟨rfl,W1,q1,bi (gU hD.out _) q2,rfl⟩
structure TakeOk (t0 t1 t2 t3 t4 t5 t6 t7:Nat)(f:FV)(tf:FuncId)(tc:Array Value):Prop where
 eq:f.tk=.func (.func tf) #[] tc
 en:∀args w,(callFunc tf args).run Tryz.prog w=.ok (.enter tf args) w
 calls:∀(B g ob:Nat) (w:World) (o:MV) (c:MC) (s:RS) (W:World),AllAt t0 t1 t2 t3 t4 t5 t6 t7 W->RdM B g ob w o c s W->s.l.length<=100000000->(f.l=108->o.lo=none/\o.ln=0/\o.lc=0)->(f.l=101->o.ho=none/\o.hn=0/\o.hc=0)->Calls Tryz.prog tf (#[.pointer (some ⟨g,0,none⟩),.pointer (some ⟨ob,0,none⟩)]++tc) W (nH B g ob w f.l o c s W)
theorem takeN{x:Int}{ff:FuncId}{ix:Nat}{fo:Nat}{fv:Int->MV->MV}{fld:MV->Int}(ht:0<t.toNat)(hall:∀(b:Nat) (w:World),Calls Tryz.prog ff #[.pointer (some ⟨b,0,none⟩)] w fun e w'=>e=.returned (.pointer (some ⟨b,ix,none⟩))/\w=w')
  (hen:∀args w,(callFunc ff args).run Tryz.prog w=.ok (.enter ff args) w) (hx:x≠102/\x≠113/\x≠114/\x≠115/\x≠108/\x≠101) {B g ob:Nat} {w:World} {o:MV} {c:MC} {s:RS} {W:World} (h:RdM B g ob w o c s W) (hl:s.l.length<=100000000)
  (hf:plainAt W (t.toNat:Int) (.func (.func ff) #[] #[]) tb fo) (hy:∃y,o.cells[ix]?=some y) (hfl:∀m d,bW x m d=val t (au (fld m).toNat)) (hu:∀m d,U64M m d->0<=fld m/\fld m<18446744073709551616) (hfv:∀n,fld (aJ x o (fv n o))=n)
  (hbox:∀n:Int,(match o.box with | .cells cs t fr=>Obj.cells (cs.setIfInBounds ix (.int .u64 n)) t fr | o=>o)=(aJ x o (fv n o)).box) (hat:∀n X,MAt X o c->MAt X (aJ x o (fv n o)) (dA x c c)) (huu:∀n:Int,0<=n->n<18446744073709551616->U64M (aJ x o (fv n o)) (dA x c c)) (hty:∀n X,MTyP X o c->MTyP X (aJ x o (fv n o)) (dA x c c)) (hfr:∀n,(aJ x o (fv n o)).fr=o.fr/\(aJ x o (fv n o)).ln=o.ln/\(aJ x o (fv n o)).hn=o.hn) :
  Calls Tryz.prog 220 (#[.pointer (some ⟨g,0,none⟩),.pointer (some ⟨ob,0,none⟩)]++#[.pointer (some ⟨tb,0,none⟩),.pointer (some ⟨fo,0,none⟩)]) W (nH B g ob w x o c s W):=by
 obtain⟨y,hy⟩:=hy;have T:=iL s t ht;have hn:=FN s t;refine (TC ff ix t hall hen B g ob tb fo s o.cells y W h.rd hl h.q hy hf h.ne).mono ?_;rintro e w' ⟨rfl,w1,hr,hg,rfl⟩;refine⟨rfl,?_⟩;have S:StepX x s (aJ x o (fv ((s.num t).1:Int) o)) (dA x c c) (s.num t).2:=jE ht hfl (fun _ m d _ hu' _=>hu m d hu') T (hfv _) (fun _=>⟨fun e=>absurd e hx.1,fun e=>absurd e hx.2.1,fun e=>absurd e hx.2.2.1,fun e=>absurd e hx.2.2.2.1,fun e=>absurd e hx.2.2.2.2.1,fun e=>absurd e hx.2.2.2.2.2⟩);have hf3:=hfr ((s.num t).1:Int);exact h.num hg hr S (hbox _) (hat _) (huu _ (by omega) (by omega)) (hty _) (by rw[hf3.1];exact h.fr) hf3.2.1 hf3.2.2
structure ApartC (v:OV)(l:Value):Prop where
 a:0<v.ac->∀x,v.ao=some x->some x.block≠l.ownBlock
 b:0<v.bc->∀x,v.bo=some x->some x.block≠l.ownBlock
 c:0<v.cc->∀x,v.co=some x->some x.block≠l.ownBlock
theorem ApartC.next{W:World}{c:OC}{l l':Value}(h:ApartC v l)(ho:OpAt W v c)(hn:∀k,l'.ownBlock=some k->l.ownBlock=some k\/W.heap.size<=k):ApartC v l':=by
 refine⟨fun h0 x hx e=>?_,fun h0 x hx e=>?_,fun h0 x hx e=>?_⟩
 ·rcases hn _ e.symm with h1 | h1
  ·exact h.a h0 x hx h1.symm
  have:=ho.a.lt h0 x hx;omega
 ·rcases hn _ e.symm with h1 | h1
  ·exact h.b h0 x hx h1.symm
  have:=ho.b.lt h0 x hx;omega
 rcases hn _ e.symm with h1 | h1
 ·exact h.c h0 x hx h1.symm
 have:=ho.c.lt h0 x hx;omega
structure FreshO (k:Nat)(v:OV):Prop where
 a:∀x,v.ao=some x->k<=x.block
 b:∀x,v.bo=some x->k<=x.block
 c:∀x,v.co=some x->k<=x.block
theorem FreshO.mono(h:FreshO k v)(hk:k'<=k):FreshO k' v:=⟨fun x hx=>yae hk (h.a x hx),fun x hx=>yae hk (h.b x hx),fun x hx=>yae hk (h.c x hx)⟩
theorem FreshO.apart{l:Value}(h:FreshO k v)(hl:∀j,l.ownBlock=some j->j<k):ApartC v l:=
 ⟨fun _ x hx e=>by have:=h.a x hx;have:=hl _ e.symm;omega,fun _ x hx e=>by have:=h.b x hx;have:=hl _ e.symm;omega,fun _ x hx e=>by have:=h.c x hx;have:=hl _ e.symm;omega⟩
theorem CopyOf.same{W:World}{u:OV}(h:CopyOf W v u)(c:OC):bg u c v c=true:=by unfold bg;exact yaa ⟨h.ek,h.ename,h.eto,rfl,rfl,rfl,h.en⟩
structure FreshM (k:Nat)(u:MV)(d:MC):Prop where
 so:∀a,u.so=some a->k<=a.block
 lo:∀a,u.lo=some a->k<=a.block
 ho:∀a,u.ho=some a->k<=a.block
 rq:FreshO k u.rq.op
 rs:FreshQ k u.rs d.rs.ents
 log:∀p∈d.log,FreshO k p.1.op
theorem FreshM.mono(h:FreshM k u d)(hk:k'<=k):FreshM k' u d:=⟨fun a ha=>yae hk (h.so a ha),fun a ha=>yae hk (h.lo a ha),fun a ha=>yae hk (h.ho a ha),h.rq.mono hk,h.rs.mono hk,fun p hp=>(h.log p hp).mono hk⟩
theorem uM{a:World}{size cap:Nat}{ao:Option Addr}{xs:List Value}(hr:Rd a size ao n cap xs)(hX:BelX M ys a b)(hM:a.heap.size<=M)(hy:∀k∈ys,k<m)(hf:∀x,ao=some x->m<=x.block):Rd b size ao n cap xs:=
 wW hr hX (fun h0 x hx=>⟨yaz (hr.lt h0 x hx) hM,fun hm=>by have:=hy _ hm;have:=hf x hx;omega⟩)
theorem OpAt.freshX{a:World}{c:OC}(h:OpAt a v c)(hf:FreshO m v)(hX:BelX M ys a b)(hM:a.heap.size<=M)(hy:∀k∈ys,k<m):OpAt b v c:=
 ⟨uM h.a hX hM hy hf.a,uM h.b hX hM hy hf.b,uM h.c hX hM hy hf.c,h.la,h.lb,h.lc⟩
theorem MAt.freshX{a:World}(h:MAt a u d)(hf:FreshM m u d)(hX:BelX M ys a b)(hM:a.heap.size<=M)(hy:∀k∈ys,k<m):MAt b u d:=
 ⟨h.rq.freshX hf.rq hX hM hy,h.rs.freshX hf.rs hX hM hy,uM h.sn hX hM hy hf.so,⟨uM h.lg.r hX hM hy hf.lo,fun p hp=>(h.lg.each p hp).freshX (hf.log p hp) hX hM hy⟩,uM h.se hX hM hy hf.ho,h.ls,h.lh⟩
theorem wE:SliceT Tryz.prog 56 55 bG.val 9 136:=⟨Tryz.underlying56,by kernel_rfl,rfl,by decide⟩
theorem Cb(r:RV):∀u∈r.cells.toList,u.oneCell'=true:=by
 intro u hu;simp only[RV.cells,yas,yal,or_false] at hu;rcases hu with rfl|rfl|rfl|rfl|rfl|rfl|rfl|rfl|rfl<;>rfl
def RqTy (W:World)(l:List RP):Prop:=∀p∈l,OpAt W p.1.op p.2/\OpTy W p.1.op/\U64R p.1
theorem RqTy.kpr{W W':World}{l:List RP}(h:RqTy W l)(hk:KeepR W W'):RqTy W' l:=fun p hp=>⟨(h p hp).1.kpr (h p hp).2.1 hk,(h p hp).2.1.kpr hk,(h p hp).2.2⟩
theorem RqTy.snoc{W:World}{l:List RP}{p:RP}(h:RqTy W l)(h1:OpAt W p.1.op p.2)(h2:OpTy W p.1.op)(h3:U64R p.1):RqTy W (l++[p]):=by
 intro q hq;rcases yaQ.1 hq with hq | hq
 ·exact h q hq
 rw[yah] at hq;subst hq;exact⟨h1,h2,h3⟩
structure StP (ob pb:Nat)(o:MV)(q:Nat)(l:List RP)(W:World):Prop where
 ex:∃a k,W.heap[ob]?=some (MV.box { o with lo:=a,ln:=l.length,lc:=k })/\W.ownsRow q 55 9 (.slice a l.length k) l.length (rpV l)
 pb:W.heap[pb]?=some (fB ob)
 ty:RqTy W l
theorem Gq:∀t:TypeId,(t=5\/t=9\/t=106)->55≠t:=fun t ht e=>by rcases ht with rfl|rfl|rfl<;>exact absurd e (by decide)
theorem EJ:∀t:TypeId,(t=5\/t=9\/t=106)->59≠t:=fun t ht e=>by rcases ht with rfl|rfl|rfl<;>exact absurd e (by decide)
theorem EQ:∀t:TypeId,(t=5\/t=9\/t=106)->237≠t:=fun t ht e=>by rcases ht with rfl|rfl|rfl<;>exact absurd e (by decide)
theorem StP.set{ob pb g q i:Nat}{o:MV}{l:List RP}{W:World}{cs:Array Value}{x:Value}(h:StP ob pb o q l W)(hg:W.heap[g]?=some (.cells cs 237)):StP ob pb o q l (W.setCell ⟨g,i,none⟩ x):=by
 obtain⟨⟨a,k,h1,h2⟩,h3,h4⟩:=h;refine⟨⟨a,k,ah h1 (fun e=>?_),dw h2 (fun j hj=>yaA _ _ _ _ (fun e=>?_))⟩,ah h3 (fun e=>?_),h4.kpr (oZ hg EQ)⟩
 ·rw[e,hg] at h1;cases h1
 ·obtain⟨-,-,cur,h5⟩:=aU h2 hj;have e:j=g:=e;rw[e,hg] at h5;cases h5
 rw[e,hg] at h3;cases h3
structure LpS (q ob pb yb:Nat)(o:MV)(s':RS)(wr:World)(l:List RP)(a:Option Addr)(kc:Nat)(r:RV)(x:OC)(W:World):Prop where
 X:BelX q [ob] wr W
 qo:W.heap[ob]?=some (MV.box { o with lo:=a,ln:=l.length,lc:=kc })
 own:W.ownsRow q 55 9 (.slice a l.length kc) l.length (rpV l)
 ty:RqTy W l
 rd:RdS q q s' W
 qy:W.heap[yb]?=some r.box
 qp:W.heap[pb]?=some (fB ob)
 oy:OpAt W r.op x
 ry:OpTy W r.op
 uy:U64R r
 hM:ob<q/\pb<q/\q<=W.heap.size
 hyb:∀j,(Value.slice a l.length kc).ownBlock=some j->j<yb
section
variable {q ob pb yb:Nat} {o:MV} {s':RS} {wr:World} {l:List RP} {a:Option Addr} {kc:Nat} {r:RV} {x:OC} {W W':World}
theorem LpS.later(h:LpS q ob pb yb o s' wr l a kc r x W)(hb:Below W.heap.size W W'):LpS q ob pb yb o s' wr l a kc r x W':=
 have hk:=KeepR.of_below hb
 ⟨h.X.trans ((BelX.of_below hb [ob]).mono h.hM.2.2 (fun _ hk _=>hk)),af h.qo hb,ag h.own hb,h.ty.kpr hk,h.rd.later hb,(hb.q h.qy),(hb.q h.qp),h.oy.later hb,h.ry.kpr hk,h.uy,⟨h.hM.1,h.hM.2.1,yae h.hM.2.2 hb.size⟩,h.hyb⟩
def LpC (yb pb ob:Nat)(r:RV)(v:Value)(W:World):Prop:=W.heap[yb]?=some r.box/\W.cell? ⟨pb,0,none⟩=some (.pointer (some ⟨ob,0,none⟩))/\W.cell? ⟨ob,23,none⟩=some v
theorem LpS.cells(h:LpS q ob pb yb o s' wr l a kc r x W):LpC yb pb ob r (.slice a l.length kc) W:=⟨h.qy,by have:=h.qp;simp[World.cell?,this,fB],(McAt.of h.qo).c23⟩
theorem LpS.app{a4:Option Addr}{k4:Nat}(h:LpS q ob pb yb o s' wr l a kc r x W)(h4:W'.ownsRow q 55 9 (.slice a4 (l.length+1) k4) (l.length+1) (rpV l++(RV.cells r).toList))(hg:W.grownBy W' (Value.slice a l.length kc).ownBlock)(hb:Below q W W') :
  LpC yb pb ob r (.slice a l.length kc) W'/\W'.frozen? ⟨ob,23,none⟩=false/\StP ob pb o q (l++[(r,x)]) (W'.setCell ⟨ob,23,none⟩ (.slice a4 (l.length+1) k4))/\RdS q q s' (W'.setCell ⟨ob,23,none⟩ (.slice a4 (l.length+1) k4))/\BelX q [ob] wr (W'.setCell ⟨ob,23,none⟩ (.slice a4 (l.length+1) k4)) /\
  (W'.setCell ⟨ob,23,none⟩ (.slice a4 (l.length+1) k4)).cell? ⟨pb,0,none⟩=some (.pointer (some ⟨ob,0,none⟩))/\(W'.setCell ⟨ob,23,none⟩ (.slice a4 (l.length+1) k4)).cell? ⟨ob,23,none⟩=some (.slice a4 (l.length+1) k4):=by
 obtain⟨m1,m2,m3⟩:=h.hM;have hk:=pG hg h.own Gq;have q1:W'.heap[ob]?=some (MV.box { o with lo:=a,ln:=l.length,lc:=kc }):=(hb.block _ m1).trans h.qo;have p1:W'.heap[pb]?=some (fB ob):=(hb.block _ m2).trans h.qp;have y1:W'.heap[yb]?=some r.box:=(hg.block _ (lA h.qy) (fun e=>by have:=h.hyb _ e.symm;omega)).trans h.qy;have r1:RdS q q s' W':=wS h.rd hg h.own (by decide) (by decide);have t1:=(h.ty.snoc (p:=(r,x)) h.oy h.ry h.uy).kpr hk;have hpo:pb≠ob:=fun e=>by rw[e,q1] at p1;cases p1
 have q2:(W'.setCell ⟨ob,23,none⟩ (.slice a4 (l.length+1) k4)).heap[ob]?=some (MV.box { o with lo:=a4,ln:=l.length+1,lc:=k4 }):=(at_set q1).trans (by kernel_rfl);have p2:=ah (b:=ob) (i:=23) (x:=.slice a4 (l.length+1) k4) p1 hpo;have eln:(l++[(r,x)]).length=l.length+1:=by simp
 refine⟨⟨y1,by simp[World.cell?,p1,fB],(McAt.of q1).c23⟩,dR q1 23,⟨⟨a4,k4,by rw[eln];exact q2,?_⟩,p2,t1.kpr (oZ q1 EJ)⟩,r1.grown (ak _ _ _ _) q1 (RdM.not_u8 bJ) (by omega),(h.X.trans (BelX.of_below hb [ob])).set _ _ _ (.inl (by simp)),by simp[World.cell?,p2,fB],(McAt.of q2).c23⟩;rw[eln,D9];exact dw h4 (fun j hj=>yaA _ _ _ _ (by have:=(aU h4 hj).1;show j≠ob;omega))
end
theorem LpC.cell{yb pb ob:Nat}{r:RV}{v:Value}{W:World}(h:LpC yb pb ob r v W):W.heap[yb]?=some r.box/\W.cell? ⟨pb,0,none⟩=some (.pointer (some ⟨ob,0,none⟩))/\W.cell? ⟨ob,23,none⟩=some v:=h
theorem Lh(ob pb q:Nat)(o:MV)(l:List RP)(b:List UInt8)(wr:World)(hob:ob<q)(hpb:pb<q)(hst:StP ob pb o q l wr)(hr:RdS q q ⟨b,false⟩ wr)(hb:b.length<=4194304)(hl:l.length<=4194304) :
  Calls Tryz.prog 208 #[.pointer (some ⟨q,0,none⟩),.pointer (some ⟨pb,0,none⟩)] wr (um q [ob] elQ mayQ 4096 (StP ob pb o) l b wr):=by
 have hmo:=hmO
 obtain⟨⟨a,k,ho,hown⟩,hp,hE⟩:=hst;have T:=bC ⟨b,false⟩ 1 (by decide);have hl3:=fU ⟨b,false⟩ 1;have hby:=iZ q q ⟨b,false⟩ 1 wr hr (by dsimp only;omega);generalize RS.bytes ⟨b,false⟩ 1=y at *;obtain⟨y,s'⟩:=y;dsimp only at T hby hl3;have hqs:q<wr.heap.size:=by obtain⟨_,_,h⟩:=hr;exact h.lt
 have HT:=hid T;clear T;go_in;go_wp2_with fail;refine hby.mono ?_;rintro e W1 ⟨a1,c1,rfl,hrd1,hty1,hr1,hg1⟩;have hE1:=hE.kpr (yK hr hg1);have ho1:=(hg1.block _ (by omega) (fun e=>by have:=yaf e;omega)).trans ho;have hp1:=(hg1.block _ (by omega) (fun e=>by have:=yaf e;omega)).trans hp;have own1:W1.ownsRow q 55 9 (.slice a l.length k) l.length (rpV l):=dw hown (fun k hk=>hg1.block k (aU hown hk).2.1 (fun e=>by obtain⟨_,_,cur,h3⟩:=aU hown hk;obtain⟨_,_,h⟩:=hr;have h4:=h.at_;rw[<-yaf e,h3] at h4;cases h4));have X1:BelX q [ob] wr W1:=(jo hg1 (M:=q) (by omega)).mono (yag _) (fun k hk h=>by rw[yah.1 hk] at h;omega);have hz1:=hg1.size;clear hby hE ho hp hown hr hg1;go_wp2_with fail;refine (uS y a1 y.length c1 W1 hrd1 (by omega)).mono ?_;rintro e W2 hO;obtain⟨ok,r,x,rfl,oY,tY,uY,hb2,hans⟩:=CB hO;have HA:=hid hans;clear hO hans hrd1 hty1;unfold RV.val RV.cells;go_upto_region 2 with (refine zNr rfl ?_;go_simp);generalize hg:W2.alloc _=W3;have e3:W2.alloc r.box=W3:=hg;have hb3':Below W2.heap.size W2 W3:=bE e3
 have hb3:=hb2.trans (hb3'.mono hb2.size);have q3:W3.heap[W2.heap.size]?=some r.box:=aE e3
 have s3:LpS q ob pb W2.heap.size o s' wr l a k r x W3:=⟨X1.trans ((BelX.of_below hb3 [ob]).mono (by omega) (fun _ hk _=>hk)),af ho1 hb3,ag own1 hb3,hE1.kpr (KeepR.of_below hb3),hr1.later hb3,q3,(hb3.q hp1),oY.later hb3',tY.kpr (KeepR.of_below hb3'),uY,⟨hob,hpb,by have:=hb3.size;omega⟩,fun j hj=>by have:=(aU own1 hj).2.1;have:=hb2.size;omega⟩
 clear hg e3 hb3' hb3 hb2 ho1 hp1 own1 hr1 hE1 X1 q3 oY tY uY;generalize W2.heap.size=yb at *;refine dN (k:=10) (S:=LpC yb pb ob r (.slice a l.length k)) hmo ?_;change bV _ _ _ _ _ _ _ _ _ (World.drew W3);have hd:Below W3.heap.size W3 W3.drew:=(yaj _ _).drew;have s0:=s3.later hd;generalize World.drew W3=X0 at *;clear hd s3;have t0:=s0.cells;have zf0 w0 (h:LpC yb pb ob r (.slice a l.length k) w0):=h.cell;refine ztv 0 (pp ob 0) rfl ?_;go_simp;refine ztv 1 (pp ob 0) rfl ?_;go_simp;refine ztp 2 (pp ob 0) rfl (ztp 3 (pp ob 23) rfl ?_);go_simp;refine ztv 4 (.slice a l.length k) rfl ?_;go_simp;refine zTa 5 (.agg #[.int .u64 r.cl,.int .u64 r.nu,.int .i64 r.op.k,.string r.op.name,.string r.op.to,.slice r.op.ao r.op.an r.op.ac,.slice r.op.bo r.op.bn r.op.bc,.slice r.op.co r.op.cn r.op.cc,.int .i64 r.op.n]) rfl (by rintro w2 h2;obtain⟨cc,cd,ce⟩:=h2.cell;exact gK (cs:=r.cells) cc rfl rfl (by kernel_rfl) (by kernel_rfl)) t0 ?_;go_simp;refine zT1 6 rfl (fun K hK=>?_);go_simp;obtain⟨V,hV⟩:∃V,X0.alloc (.cells (RV.cells r) 55)=V:=⟨_,rfl⟩
 have hbV:=bE hV
 have rV:Rd V 9 (some ⟨X0.heap.size,0,none⟩) 1 1 (RV.cells r).toList:=by rw[<-hV];exact Rd.new X0 (RV.cells r).toList 55 (0,0) 9 1 rfl (by unfold maxLen;omega)
 have sV:=s0.later hbV;have t1:=sV.cells;unfold RV.cells at hV;rw[hV];refine hK _ _ ⟨.inr t1,?_⟩;clear hK K hV hbV s0 t0;refine zT1 7 rfl (fun K hK=>?_);refine oh rfl (.tmp 16) (.tmp 18) 56 rfl q 55 bG.val 9 136 wE (.slice a l.length k) l.length (rpV l) rfl sV.own (some ⟨X0.heap.size,0,none⟩) 1 1 (RV.cells r).toList rfl rV (Cb r) (by unfold maxLen;omega) (by omega) sV.hM.2.2 ?_;intro a4 k4 V4 own4 hg4 hb4 _;obtain⟨p1,p2,p3,p4,p5,c8,c9⟩:=sV.app own4 hg4 hb4;refine hK _ _ ⟨.inr p1,?_⟩;clear hK K own4 hg4 hb4 rV sV t1;refine ztp 8 (pp ob 0) rfl (ztp 9 (pp ob 23) rfl ?_);go_simp;have cO:=p1.cell.2.2;refine nM (by kernel_rfl) (by kernel_rfl) ?_;refine zA1 10 rfl (fun K hK=>?_);go_simp;refine hK _ _ ?_;clear hK K cO;refine yby (by kernel_rfl) ?_ _;have P:=hid (yax p3 (yax p4 p5));clear p1 p2 p3 p4 p5;generalize World.setCell _ ⟨ob,23,none⟩ _=W5 at *;have hG:Hid (∀bb:Bool,(bb=true->l.length<4096/\ok=true)->(bb=false->ok=false\/4096<=l.length)->um q [ob] elQ mayQ 4096 (StP ob pb o) l b wr (.returned (.bool bb)) W5):=hid (by
  intro bb h1 h2;refine⟨bb,s',(r,x),rfl,P.out.2.1,P.out.1,P.out.2.2,HT.out.le,fun hb hs=>?_,fun h=>?_⟩
  ·obtain⟨k1,k2⟩:=h1 hb;obtain⟨-,k4,k5⟩:=HT.out.yes hs;rcases HA.out with ⟨-,m1,m2⟩ | ⟨m0,-⟩
   ·obtain⟨n1,n2,n3⟩:=P.out.1.ty (r,x) (by simp);refine⟨k1,?_,⟨m1,by dsimp only;rw[m2];exact k5,n3,_,n1⟩⟩;unfold elQ;dsimp only at k4 ⊢;rw[m2];exact k4
   rw[m0] at k2;cases k2
  have hno:s'.bad=true->∀z rest,mayQ z->b≠elQ z++rest:=fun hs z rest hz=>by
   rcases HT.out.no hs with h | h
   ·cases h
   exact h (dG z.1 (opL z.1.op z.2)) rest hz.len
  cases hs:s'.bad with
  | true=>exact .inr (hno hs)
  | false=>
   rw[hs] at h;rcases h with rfl | h
   ·rcases h2 rfl with h3 | h3
    ·rcases HA.out with ⟨m0,-⟩ | ⟨-,nY⟩
     ·rw[m0] at h3;cases h3
     obtain⟨-,k4,k5⟩:=HT.out.yes hs;refine .inr (fun z rest hz e=>?_);rw[show b=val 1 y++s'.l from k4] at e;obtain⟨X,hX⟩:=hz.at_;exact nY X z.1 z.2 hX hz.may hz.u (az (by decide) k5 hz.len e).1.symm
    exact .inl h3
   cases h)
 clear P HT HA;cases ok with
 | true=>
  by_cases h8:l.length<4096
  ·have f0:decide ((l.length:Int)+1<=4096)=true:=yaa (by omega);go_wp2_with fail;go_ret;exact hG.out true (fun _=>⟨h8,by first | rfl | trivial⟩) (fun h=>by cases h)
  have f0:decide ((l.length:Int)+1<=4096)=false:=yad (by omega);go_wp2_with fail;go_ret;exact hG.out false (fun h=>by cases h) (fun _=>.inr (by omega))
 | false=>
  go_wp2_with fail;go_ret;exact hG.out false (fun h=>by cases h) (fun _=>.inl (by first | rfl | trivial))
theorem PN(B g ob:Nat)(w:World)(o:MV)(c:MC)(s:RS)(W:World)(h:RdM B g ob w o c s W)(hl:s.l.length<=100000000)(hz:o.lo=none/\o.ln=0/\o.lc=0):Calls Tryz.prog 206 #[.pointer (some ⟨g,0,none⟩),.pointer (some ⟨ob,0,none⟩)] W (nH B g ob w 108 o c s W):=by
 have hb:=bN W (fB ob);have hp:=aN W (fB ob);have h1:=h.later hb;obtain⟨l1,l2⟩:=h.lt;have hgb:W.heap.size≠g:=by omega
 unfold fB at hb hp h1;go_in;go_upto_region 1 with fail;generalize hg:W.alloc _=W1 at *;have hp1:W1.heap[W.heap.size]?=some (fB ob):=hp;clear hg hp;have hno:∀q w1,W1.grownBy w1 (some g)->StP ob W.heap.size o q [] w1:=fun q w1 hgw=>by
  have q1:=(hgw.block _ h1.lt.2 (fun e=>h.ne (yaf e).symm)).trans h1.q;refine⟨⟨none,0,?_,yaC _ _ _ _⟩,(hgw.block _ (lA hp1) (fun e=>hgb (yaf e))).trans hp1,fun p hp=>by cases hp⟩;have e:({ o with lo:=none,ln:=([]:List RP).length,lc:=0 }:MV)=o:=by
   obtain⟨z1,z2,z3⟩:=hz;cases o;dsimp only at z1 z2 z3;subst z1 z2 z3;rfl
  rw[e];exact q1
 have hli:=wM B g s 13 208 #[.pointer (some ⟨W.heap.size,0,none⟩)] W1 (by decide) h1.rd hl (enters_of Tryz.func208 (by kernel_rfl) rfl) [ob] (fun k hk=>by
  rw[yah.1 hk];exact⟨fun e=>h.ne e.symm,_,h1.q,RdM.not_u8 bJ⟩) elQ mayQ 4096 OO Py (StP ob W.heap.size o) hno (fun q l wx cs v _ k1 k2=>k1.set k2) (fun q l b wr hq k1 k2 k3 k4 _=>Lh ob W.heap.size q o l b wr (yaz h1.lt.2 hq) (yaz (lA hp1) hq) k1 k2 k3 k4)
 have H:=hid h;have H1:=hid h1;clear h h1 hno hz hp1 hgb;go_wp2_with fail;refine hli.mono ?_;rintro e W2 ⟨⟨r9,rfl⟩,s',q,l,hr2,hq,hst,hX,hln,T⟩;have HH:Hid (nH B g ob w 108 o c s W (.returned (.tuple #[])) W2):=hid (by
  obtain⟨⟨a,k,qo,own⟩,-,ty⟩:=hst;have h1:=H1.out;have hk:KeepM W1 W2:=KeepM.of_belX hX (fun k hk=>by
   simp only[yas,yal,or_false] at hk;rcases hk with rfl|rfl
   ·obtain⟨_,_,hr⟩:=h1.rd;exact⟨_,hr.at_,fun c t fr ht e=>by cases e;exact pX ht⟩
   exact⟨_,h1.q,fun c t fr ht e=>by cases e;exact bJ ht⟩)
  have A:=h1.at_.kpm h1.ty hk;have Y:=h1.ty.kpm hk;have S:StepX 108 s (aJ 108 o { o with lo:=a,ln:=l.length,lc:=k }) (dA 108 c { c with log:=l }) s':=JW T rfl;refine⟨rfl,(BelX.of_below hb [g,ob]).trans (hX.mono hb.size (fun _ hk _=>hk)),{ o with lo:=a,ln:=l.length,lc:=k },{ c with log:=l },s',h1.turn hX hr2 qo ⟨A.rq,A.rs,A.sn,⟨Rd.of_own_slice own,fun p hp=>(ty p hp).1⟩,A.se,A.ls,A.lh⟩ ⟨h1.u.vi,h1.u.no,h1.u.cl,h1.u.nu,h1.u.at_,h1.u.cm,h1.u.bs,h1.u.nc,h1.u.rq,fun p hp=>(ty p hp).2.2,h1.u.seen⟩ ⟨Y.rq,Y.rs,Y.sn,TyX.of_own own,fun p hp=>(ty p hp).2.1,Y.ho⟩ h1.fr (fun e=>⟨(T.yes e).2.2.2.1,(h1.cnt (T.yes e).1).2⟩),S⟩)
 clear hst hr2 hq hX hln T H H1 hb hli;go_wp2_with fail;refine yaL (yaJ rfl _ _ _) rfl ?_;exact HH.out
