/-
  A part of the proof.
-/
import Derived.Test.YtfmmandlmbcncaaGreatDoorKbbm
import Derived.Test.YtfmmandlmbcncaaGreatDoorKbab
set_option maxHeartbeats 40000000
namespace Go.Proofs.YtfmmandlmbcncaaGreatDoor.Msg
open Go.RowKit Go.Lib Go.Proofs.YtfmmandlmbcncaaGreatDoor.Mem Go.Proofs.YtfmmandlmbcncaaGreatDoor.Tlv
def Takes (B g ob:Nat)(w:World)(x:Int)(o:MV)(c:MC)(s:RS)(W:World)(e:Ending)(w':World):Prop:=e=.returned (.tuple #[])∧SwP B g ob w x o c s W w'
theorem step_numN {x:Int}{t:UInt8}{s s':RS}{n N:Nat}{o:MV}{c:MC}{f:MV→Int}(ht:0<t.toNat)(hN:N<18446744073709551616)(hf:∀m d,fieldL x m d=val t (num8 (f m).toNat))(hu:∀W m d,MAt W m d→U64M m d→MayF x m d→0≤f m∧f m≤(N:Int))
  (T:Took (fun n:Nat=>val t (num8 n)) (fun n=>n≤N) (fun n=>n≤N) s n s') (ho:f o=(n:Int)) (hg:n≤N→MayG x o c):StepX x s o c s' where
 yes:=fun h=>by
  obtain⟨a,b,g⟩:=T.yes h
  refine⟨a,?_,hg g⟩
  rw[hf,ho,Int.toNat_natCast]
  exact b
 go:=fun hb W m d r h1 h2 h3 e=>by
  obtain⟨u1,u2⟩:=hu W m d h1 h2 h3
  rw[hf] at e
  exact took_go T (fun z r r' hz hy e=>(val_inj ht (by rw[num8_len];omega) (by rw[num8_len];omega) e).2) hb (z:=(f m).toNat) (by omega) e
 le:=T.le
theorem req_ansP {w w':World}{y:List UInt8}{e:Ending}(h:GivesRq OpTy (.int .i64 0) (.int .i64 4) y w e w'):∃(ok:Bool) (r:RV) (x:OC),e=.returned (.tuple #[r.val,.int .i64 (if ok then 0 else 4)])∧OpAt w' r.op x∧OpTy w' r.op∧U64R r∧Below w.heap.size w w'∧((ok=true∧mayOp r.op x=true∧reqL r (opL r.op x)=y)∨(ok=false∧NoReq y)):=by
 obtain⟨hb,⟨r,x,rfl,h1,h2,h3,h4,h5⟩ | ⟨rfl,n1⟩⟩:=h
 ·exact⟨true,r,x,rfl,h1,h2,h3,hb,.inl ⟨rfl,h4,h5⟩⟩
 exact⟨false,zeroR,⟨[],[],[]⟩,rfl,⟨Rd.nil _ _,Rd.nil _ _,Rd.nil _ _,Nat.zero_le _,Nat.zero_le _,Nat.zero_le _⟩,⟨fun h=>absurd h (Nat.lt_irrefl 0),fun h=>absurd h (Nat.lt_irrefl 0),fun h=>absurd h (Nat.lt_irrefl 0)⟩,⟨by decide,by decide,by decide,by decide⟩,hb,.inr ⟨rfl,n1⟩⟩
theorem res_ansP {w w':World}{y:List UInt8}{e:Ending}(h:GivesQo QTy (.int .i64 0) (.int .i64 4) y w e w'):∃(ok:Bool) (q:QV) (x:QC),e=.returned (.tuple #[q.val,.int .i64 (if ok then 0 else 4)])∧QAt w' q x∧QTy w' q x∧Below w.heap.size w w'∧((ok=true∧mayRes q x=true∧resL q x=y)∨(ok=false∧NoRes y)):=by
 obtain⟨hb,⟨q,x,rfl,h1,h2,h4,h5⟩ | ⟨rfl,n1⟩⟩:=h
 ·exact⟨true,q,x,rfl,h1,h2,hb,.inl ⟨rfl,h4,h5⟩⟩
 exact⟨false,zeroQ,⟨[],[]⟩,rfl,⟨⟨Rd.nil _ _,fun _ hp=>absurd hp List.not_mem_nil⟩,Rd.nil _ _,Nat.zero_le _⟩,⟨fun h=>absurd h (Nat.lt_irrefl 0),fun _ hp=>absurd hp List.not_mem_nil,fun h=>absurd h (Nat.lt_irrefl 0)⟩,hb,.inr ⟨rfl,n1⟩⟩
section
variable (B g ob:Nat) (w:World) (o:MV) (c:MC) (s:RS) (W:World) (h:RdM B g ob w o c s W) (hl:s.l.length≤100000000)
include h hl
set_option maxRecDepth 100000 in
theorem take102:Calls Tryz.prog 188 #[.pointer (some ⟨g,0,none⟩),.pointer (some ⟨ob,0,none⟩)] W (Takes B g ob w 102 o c s W):=by
 have T:=took_numM s 4 6 (by decide) (by decide)
 have hle:=numM_le s 4 6
 have hc:=number_any B g s 4 6 W h.rd hl (by decide)
 unfold GivesR at hc
 generalize RS.numM s 4 6=nm at *
 obtain⟨n,s'⟩:=nm
 dsimp only at T hle hc
 have S:StepX 102 s (setF 102 o { o with fr:=(n:Int) }) (setC 102 c c) s':=step_numN (f:=MV.fr) (N:=6) (by decide) (by decide) (fun _ _=>rfl) (fun _ m _ _ _ f=>by have:=f.fr rfl;omega) T rfl (fun hn=>⟨fun _=>by show 0≤(n:Int)∧(n:Int)<18446744073709551616;omega,fun e=>absurd e (by decide),fun e=>absurd e (by decide),fun e=>absurd e (by decide),fun e=>absurd e (by decide),fun e=>absurd e (by decide)⟩)
 have H:Hid (∀W1,W.grownBy W1 (some g)→RdS B g s' W1→SwP B g ob w 102 o c s W (W1.setCell ⟨ob,3,none⟩ (.int .i64 (n:Int)))):=hid (fun W1 hg hr=>h.num hg hr S rfl (fun X a=>⟨a.rq,a.rs,a.sn,a.lg,a.se,a.ls,a.lh⟩) ⟨h.u.vi,h.u.no,h.u.cl,h.u.nu,h.u.at_,h.u.cm,h.u.bs,h.u.nc,h.u.rq,h.u.log,h.u.seen⟩ (fun X a=>⟨a.rq,a.rs,a.sn,a.lo,a.log,a.ho⟩) (by show 0≤(n:Int)∧(n:Int)<7;omega) rfl rfl)
 have Hq:=hid h
 clear T S hle h
 go_enter Tryz.func188,Tryz.ntmps188
 go_wp2_with fail
 refine hc.mono ?_
 rintro e W1 ⟨rfl,hr1,hg1⟩
 have q1:W1.heap[ob]?=some o.box:=(hg1.block _ Hq.out.lt.2 (fun e=>Hq.out.ne (Option.some.inj e).symm)).trans Hq.out.q
 have c3:=(McAt.of q1).c3
 have z0:=mfrozen q1
 clear q1
 go_wp2_with fail
 refine bodyPost_end (results_none rfl _ _ _) rfl ?_
 exact⟨rfl,H.out W1 hg1 hr1⟩
set_option maxRecDepth 100000 in
theorem take119:Calls Tryz.prog 211 #[.pointer (some ⟨g,0,none⟩),.pointer (some ⟨ob,0,none⟩)] W (Takes B g ob w 119 o c s W):=by
 have T:=took_flag s 15 (by decide)
 have hc:=rflag2_any B g s 15 W h.rd hl
 unfold GivesR at hc
 generalize RS.flag s 15=nm at *
 obtain⟨y,s'⟩:=nm
 dsimp only at T hc
 have S:StepX 119 s (setF 119 o { o with wh:=y }) (setC 119 c c) s':=step_whole T rfl
 have H:Hid (∀W1,W.grownBy W1 (some g)→RdS B g s' W1→SwP B g ob w 119 o c s W (W1.setCell ⟨ob,25,none⟩ (.bool y))):=hid (fun W1 hg hr=>h.num hg hr S rfl (fun X a=>⟨a.rq,a.rs,a.sn,a.lg,a.se,a.ls,a.lh⟩) ⟨h.u.vi,h.u.no,h.u.cl,h.u.nu,h.u.at_,h.u.cm,h.u.bs,h.u.nc,h.u.rq,h.u.log,h.u.seen⟩ (fun X a=>⟨a.rq,a.rs,a.sn,a.lo,a.log,a.ho⟩) h.fr rfl rfl)
 have Hq:=hid h
 clear T S h
 go_enter Tryz.func211,Tryz.ntmps211
 go_wp2_with fail
 refine hc.mono ?_
 rintro e W1 ⟨rfl,hr1,hg1⟩
 have q1:W1.heap[ob]?=some o.box:=(hg1.block _ Hq.out.lt.2 (fun e=>Hq.out.ne (Option.some.inj e).symm)).trans Hq.out.q
 have c25:=(McAt.of q1).c25
 have z0:=mfrozen q1
 clear q1
 go_wp2_with fail
 refine bodyPost_end (results_none rfl _ _ _) rfl ?_
 exact⟨rfl,H.out W1 hg1 hr1⟩
set_option maxRecDepth 100000 in
theorem take115:Calls Tryz.prog 202 #[.pointer (some ⟨g,0,none⟩),.pointer (some ⟨ob,0,none⟩)] W (Takes B g ob w 115 o c s W):=by
 have T:=took_bytes s 12 (by decide)
 have hle:=bytes_le s 12
 have hc:=rbytes2_any B g s 12 W h.rd hl
 generalize RS.bytes s 12=nm at *
 obtain⟨y,s'⟩:=nm
 dsimp only at T hle hc
 have H:Hid (∀W1 a k,W.grownBy W1 (some g)→RdS B g s' W1→Rd W1 1 a y.length k (byV y)→TyX 5 W1 a k→SwP B g ob w 115 o c s W (W1.setCell ⟨ob,22,none⟩ (.slice a y.length k))):=hid (fun W1 a k hg hr hrd hty=>by
  have S:StepX 115 s (setF 115 o { o with so:=a,sn:=y.length,sc:=k }) (setC 115 c { c with snap:=y }) s':=step_snap T rfl
  have A:=h.at_.kpm h.ty (h.kg hg)
  have Y:=h.ty.kpm (h.kg hg)
  exact h.put hg hr S rfl ⟨A.rq,A.rs,hrd,A.lg,A.se,by show y.length≤1000000000;omega,A.lh⟩ ⟨h.u.vi,h.u.no,h.u.cl,h.u.nu,h.u.at_,h.u.cm,h.u.bs,h.u.nc,h.u.rq,h.u.log,h.u.seen⟩ ⟨Y.rq,Y.rs,hty,Y.lo,Y.log,Y.ho⟩ h.fr (fun e=>h.cnt (S.yes e).1))
 have Hq:=hid h
 clear T hle h
 go_enter Tryz.func202,Tryz.ntmps202
 go_wp2_with fail
 refine hc.mono ?_
 rintro e W1 ⟨a,k,rfl,hrd,hty,hr1,hg1⟩
 have q1:W1.heap[ob]?=some o.box:=(hg1.block _ Hq.out.lt.2 (fun e=>Hq.out.ne (Option.some.inj e).symm)).trans Hq.out.q
 have c22:=(McAt.of q1).c22
 have z0:=mfrozen q1
 clear q1
 go_wp2_with fail
 refine bodyPost_end (results_none rfl _ _ _) rfl ?_
 exact⟨rfl,H.out W1 a k hg1 hr1 hrd hty⟩
set_option maxRecDepth 100000 in
theorem take113:Calls Tryz.prog 192 #[.pointer (some ⟨g,0,none⟩),.pointer (some ⟨ob,0,none⟩)] W (Takes B g ob w 113 o c s W):=by
 have T:=took_bytes s 7 (by decide)
 have hle:=bytes_le s 7
 have hc:=rbytes2_any B g s 7 W h.rd hl
 generalize RS.bytes s 7=nm at *
 obtain⟨y,s'⟩:=nm
 dsimp only at T hle hc
 have HT:=hid T
 have Hq:=hid h
 clear T h
 go_enter Tryz.func192,Tryz.ntmps192
 go_wp2_with fail
 refine hc.mono ?_
 rintro e W1 ⟨a,k,rfl,hrd,hty,hr1,hg1⟩
 have h1:=hid (Hq.out.grown hg1 hr1 (fun e=>(HT.out.yes e).1))
 have hX1:=hid (BelX.of_grown hg1)
 clear hc hr1 hg1 hty Hq
 go_wp2_with fail
 refine (requestOf_any y a y.length k W1 hrd (by omega)).mono ?_
 rintro e W2 hA
 obtain⟨ok,r,x,rfl,oY,tY,uY,hb2,hans⟩:=req_ansP hA
 have HA:=hid hans
 have h2:=hid (h1.out.later hb2)
 have hX2:=hid hb2
 clear hA hans hrd
 unfold RV.val RV.cells
 go_upto_region 1 with (refine wpList_store_new rfl rfl rfl rfl (by kernel_rfl) rfl (by kernel_rfl) ?_;go_simp)
 generalize hg:W2.alloc _=W3
 have e3:W2.alloc r.box=W3:=hg
 have hb3:Below W2.heap.size W2 W3:=by rw[←e3];exact (Below.refl _ _).alloc (Nat.le_refl _) _
 have q3:W3.heap[W2.heap.size]?=some r.box:=by rw[←e3];exact at_new _ _
 have h3:=h2.out.later hb3
 have oY3:=oY.later hb3
 have tY3:=tY.kpr (KeepR.of_below hb3)
 have hb4:=hb2.trans (hb3.mono hb2.size)
 have hX3:BelX W.heap.size [g] W W3:=hX1.out.trans ((BelX.of_below hb4 [g]).mono hX1.out.size (fun _ hk _=>hk))
 clear hg e3 hb3 hb2 hb4 oY tY h1 h2 hX1 hX2
 generalize W2.heap.size=yb at *
 have qo:=h3.q
 have c6:=(McAt.of qo).c6
 have c7:=(McAt.of qo).c7
 have c8:=(McAt.of qo).c8
 have c9:=(McAt.of qo).c9
 have c10:=(McAt.of qo).c10
 have c11:=(McAt.of qo).c11
 have c12:=(McAt.of qo).c12
 have c13:=(McAt.of qo).c13
 have c14:=(McAt.of qo).c14
 have zo:=mfrozen qo
 have hX:BelX W3.heap.size [ob] W3 (setRq W3 ob r):=setRq_belX (.inl (by simp))
 have hk:=h3.ko hX
 have A:=h3.at_.kpm h3.ty hk
 have Y:=h3.ty.kpm hk
 have h4:RdM B g ob w (setF 113 o { o with rq:=r }) (setC 113 c { c with rq:=x }) s' (setRq W3 ob r):=h3.box hX ((setRq_at h3.q).trans (by kernel_rfl)) ⟨oY3.kpr tY3 hk.kr,A.rs,A.sn,A.lg,A.se,A.ls,A.lh⟩ ⟨h3.u.vi,h3.u.no,h3.u.cl,h3.u.nu,h3.u.at_,h3.u.cm,h3.u.bs,h3.u.nc,uY,h3.u.log,h3.u.seen⟩ ⟨tY3.kpr hk.kr,Y.rs,Y.sn,Y.lo,Y.log,Y.ho⟩ h3.fr h3.cnt
 have hXX:BelX W.heap.size [g,ob] W (setRq W3 ob r):=belX2 hX3 hX
 have hS:StepX 113 s (setF 113 o { o with rq:=r }) (setC 113 c { c with rq:=x }) ⟨s'.l,s'.bad||!ok⟩:=step_req HT.out (fun hh=>by
   rcases HA.out with ⟨-,a2,a3⟩ | ⟨a1,-⟩
   ·exact⟨a2,a3⟩
   ·rw[a1] at hh;cases hh) (fun hh=>by
   rcases HA.out with ⟨a1,-⟩ | ⟨-,a2⟩
   ·rw[a1] at hh;cases hh
   exact a2)
 have H4:=hid h4
 have HX:=hid hXX
 have HS:=hid hS
 clear hX hk A Y h4 hXX hS HT HA qo h3 hX3 oY3 tY3
 unfold RV.box RV.cells at q3
 go_upto_region 2 with (refine wpList_load_row (ty:=55) q3 rfl rfl rfl (by kernel_rfl) (by kernel_rfl) ?_;go_simp)
 obtain⟨W4,hW4⟩:∃W4,setRq W3 ob r=W4:=⟨_,rfl⟩
 rw[hW4] at H4 HX
 unfold setRq at hW4
 rw[hW4]
 clear hW4 q3 zo c6 c7 c8 c9 c10 c11 c12 c13 c14
 cases ok with
 | true=>
  have H:Hid (SwP B g ob w 113 o c s W W4):=hid ⟨HX.out,_,_,s',H4.out,by
   have e:(⟨s'.l,s'.bad||!true⟩:RS)=s':=by cases s';simp
   rw[←e];exact HS.out⟩
  clear H4 HX HS
  go_wp2_with fail
  refine bodyPost_end (results_none rfl _ _ _) rfl ?_
  exact⟨rfl,H.out⟩
 | false=>
  have hf:=rfail_any B g s' W4 H4.out.rd
  go_wp2_with fail
  refine hf.mono ?_
  rintro e W5 ⟨⟨r9,rfl⟩,hr5,hw5⟩
  have hg5:W4.grownBy W5 (some g):=by rw[hw5];exact grown_set _ _ _ _
  have H:Hid (SwP B g ob w 113 o c s W W5):=hid ⟨HX.out.trans ((BelX.of_grown hg5).mono HX.out.size (fun k hk _=>by rw[List.mem_singleton.1 hk];simp)),_,_,⟨s'.l,true⟩,H4.out.grown hg5 hr5 (fun e=>by cases e),by
   have e:(⟨s'.l,s'.bad||!false⟩:RS)=⟨s'.l,true⟩:=by cases s';simp
   rw[←e];exact HS.out⟩
  clear H4 HX HS hf hr5 hw5 hg5
  go_wp2_with fail
  refine bodyPost_end (results_none rfl _ _ _) rfl ?_
  exact⟨rfl,H.out⟩
set_option maxRecDepth 100000 in
theorem take114:Calls Tryz.prog 198 #[.pointer (some ⟨g,0,none⟩),.pointer (some ⟨ob,0,none⟩)] W (Takes B g ob w 114 o c s W):=by
 have T:=took_bytes s 8 (by decide)
 have hle:=bytes_le s 8
 have hc:=rbytes2_any B g s 8 W h.rd hl
 generalize RS.bytes s 8=nm at *
 obtain⟨y,s'⟩:=nm
 dsimp only at T hle hc
 have HT:=hid T
 have Hq:=hid h
 clear T h
 go_enter Tryz.func198,Tryz.ntmps198
 go_wp2_with fail
 refine hc.mono ?_
 rintro e W1 ⟨a,k,rfl,hrd,hty,hr1,hg1⟩
 have h1:=hid (Hq.out.grown hg1 hr1 (fun e=>(HT.out.yes e).1))
 have hX1:=hid (BelX.of_grown hg1)
 clear hc hr1 hg1 hty Hq
 go_wp2_with fail
 refine (resultOf_any y a y.length k W1 hrd (by omega)).mono ?_
 rintro e W2 hA
 obtain⟨ok,q,x,rfl,oY,tY,hb2,hans⟩:=res_ansP hA
 have HA:=hid hans
 have h2:=hid (h1.out.later hb2)
 have hX2:=hid hb2
 clear hA hans hrd
 unfold QV.val QV.cells
 go_upto_region 1 with (refine wpList_store_new rfl rfl rfl rfl (by kernel_rfl) rfl (by kernel_rfl) ?_;go_simp)
 generalize hg:W2.alloc _=W3
 have e3:W2.alloc q.box=W3:=hg
 have hb3:Below W2.heap.size W2 W3:=by rw[←e3];exact (Below.refl _ _).alloc (Nat.le_refl _) _
 have q3:W3.heap[W2.heap.size]?=some q.box:=by rw[←e3];exact at_new _ _
 have h3:=h2.out.later hb3
 have oY3:=oY.later hb3
 have tY3:=tY.kpm (KeepM.of_below hb3)
 have hb4:=hb2.trans (hb3.mono hb2.size)
 have hX3:BelX W.heap.size [g] W W3:=hX1.out.trans ((BelX.of_below hb4 [g]).mono hX1.out.size (fun _ hk _=>hk))
 clear hg e3 hb3 hb2 hb4 oY tY h1 h2 hX1 hX2
 generalize W2.heap.size=yb at *
 have qo:=h3.q
 have c15:=(McAt.of qo).c15
 have c16:=(McAt.of qo).c16
 have c17:=(McAt.of qo).c17
 have c18:=(McAt.of qo).c18
 have zo:=mfrozen qo
 have hX:BelX W3.heap.size [ob] W3 (setRs W3 ob q):=setRs_belX (.inl (by simp))
 have hk:=h3.ko hX
 have A:=h3.at_.kpm h3.ty hk
 have Y:=h3.ty.kpm hk
 have h4:RdM B g ob w (setF 114 o { o with rs:=q }) (setC 114 c { c with rs:=x }) s' (setRs W3 ob q):=h3.box hX ((setRs_at h3.q).trans (by kernel_rfl)) ⟨A.rq,oY3.kpm tY3 hk,A.sn,A.lg,A.se,A.ls,A.lh⟩ ⟨h3.u.vi,h3.u.no,h3.u.cl,h3.u.nu,h3.u.at_,h3.u.cm,h3.u.bs,h3.u.nc,h3.u.rq,h3.u.log,h3.u.seen⟩ ⟨Y.rq,tY3.kpm hk,Y.sn,Y.lo,Y.log,Y.ho⟩ h3.fr h3.cnt
 have hXX:BelX W.heap.size [g,ob] W (setRs W3 ob q):=belX2 hX3 hX
 have hS:StepX 114 s (setF 114 o { o with rs:=q }) (setC 114 c { c with rs:=x }) ⟨s'.l,s'.bad||!ok⟩:=step_res HT.out (fun hh=>by
   rcases HA.out with ⟨-,a2,a3⟩ | ⟨a1,-⟩
   ·exact⟨a2,a3⟩
   ·rw[a1] at hh;cases hh) (fun hh=>by
   rcases HA.out with ⟨a1,-⟩ | ⟨-,a2⟩
   ·rw[a1] at hh;cases hh
   exact a2)
 have H4:=hid h4
 have HX:=hid hXX
 have HS:=hid hS
 clear hX hk A Y h4 hXX hS HT HA qo h3 hX3 oY3 tY3
 unfold QV.box QV.cells at q3
 go_upto_region 2 with (refine wpList_load_row (ty:=39) q3 rfl rfl rfl (by kernel_rfl) (by kernel_rfl) ?_;go_simp)
 obtain⟨W4,hW4⟩:∃W4,setRs W3 ob q=W4:=⟨_,rfl⟩
 rw[hW4] at H4 HX
 unfold setRs at hW4
 rw[hW4]
 clear hW4 q3 zo c15 c16 c17 c18
 cases ok with
 | true=>
  have H:Hid (SwP B g ob w 114 o c s W W4):=hid ⟨HX.out,_,_,s',H4.out,by
   have e:(⟨s'.l,s'.bad||!true⟩:RS)=s':=by cases s';simp
   rw[←e];exact HS.out⟩
  clear H4 HX HS
  go_wp2_with fail
  refine bodyPost_end (results_none rfl _ _ _) rfl ?_
  exact⟨rfl,H.out⟩
 | false=>
  have hf:=rfail_any B g s' W4 H4.out.rd
  go_wp2_with fail
  refine hf.mono ?_
  rintro e W5 ⟨⟨r9,rfl⟩,hr5,hw5⟩
  have hg5:W4.grownBy W5 (some g):=by rw[hw5];exact grown_set _ _ _ _
  have H:Hid (SwP B g ob w 114 o c s W W5):=hid ⟨HX.out.trans ((BelX.of_grown hg5).mono HX.out.size (fun k hk _=>by rw[List.mem_singleton.1 hk];simp)),_,_,⟨s'.l,true⟩,H4.out.grown hg5 hr5 (fun e=>by cases e),by
   have e:(⟨s'.l,s'.bad||!false⟩:RS)=⟨s'.l,true⟩:=by cases s';simp
   rw[←e];exact HS.out⟩
  clear H4 HX HS hf hr5 hw5 hg5
  go_wp2_with fail
  refine bodyPost_end (results_none rfl _ _ _) rfl ?_
  exact⟨rfl,H.out⟩
end
theorem plainAt.cells {W:World}{t:Int}{fo:Value}{tb ob:Nat}(h:plainAt W t fo tb ob):W.cell? ⟨ob,0,none⟩=some fo∧W.cell? ⟨tb,0,none⟩=some (.int .u8 t):=by
 have h1:=h.1
 have h2:=h.2
 simp[World.cell?,h1,h2]
set_option maxRecDepth 100000 in
theorem takeP (ff:FuncId)(ix:Nat)(t:UInt8)(hall:∀(b:Nat) (w:World),Calls Tryz.prog ff #[.pointer (some ⟨b,0,none⟩)] w fun e w'=>e=.returned (.pointer (some ⟨b,ix,none⟩))∧w=w')
  (hen:∀args w,(callFunc ff args).run Tryz.prog w=.ok (.enter ff args) w) (B g fb tb ob:Nat) (s:RS) (cs:Array Value) (y0:Value) (w:World) (hr:RdS B g s w) (hl:s.l.length≤100000000) (h1:w.heap[fb]?=some (msgO cs)) (hy:cs[ix]?=some y0) (hf:plainAt w (t.toNat:Int) (.func (.func ff) #[] #[]) tb ob) (hgf:g≠fb) :
  Calls Tryz.prog 220 #[.pointer (some ⟨g,0,none⟩),.pointer (some ⟨fb,0,none⟩),.pointer (some ⟨tb,0,none⟩),.pointer (some ⟨ob,0,none⟩)] w fun e w'=>e=.returned (.tuple #[])∧∃w1,RdS B g (s.num t).2 w1∧w.grownBy w1 (some g)∧w'=w1.setCell ⟨fb,ix,none⟩ (.int .u64 ((s.num t).1:Int)):=by
 have hmo:Tryz.prog.follows .mixedOrders=true:=by kernel_rfl
 have hd:Below w.heap.size w w.drew:=(Below.refl _ _).drew
 have s0:plainAt w.drew (t.toNat:Int) (.func (.func ff) #[] #[]) tb ob:=hf.later hd
 have hr0:=hr.later hd
 have hq0:w.drew.heap[fb]?=some (msgO cs):=h1
 have hlt:fb<w.drew.heap.size:=(Array.getElem?_eq_some_iff.1 hq0).1
 have hc:=rnum_any B g s t w.drew hr0 hl
 unfold GivesR at hc
 generalize RS.num s t=nm at *
 obtain⟨n,s'⟩:=nm
 dsimp only at hc ⊢
 clear hr hf h1 hr0
 go_enter Tryz.func220,Tryz.ntmps220
 go_upto_region 0 with fail
 refine wp_region_T (k:=5) (S:=fun W=>plainAt W (t.toNat:Int) (.func (.func ff) #[] #[]) tb ob) hmo ?_
 change wpAnyT _ _ _ _ _ _ _ _ _ (World.drew w)
 have hD:=hid hd
 clear hd
 generalize World.drew w=W0 at *
 refine zTa 0 (.func (.func ff) #[] #[]) rfl (by rintro w h;obtain⟨c0,d0⟩:=h.cells;go_simp) s0 ?_
 go_simp
 refine zTp 1 (.pointer (some ⟨fb,0,none⟩)) rfl s0 ?_
 go_simp
 refine zTp 3 (.pointer (some ⟨g,0,none⟩)) rfl s0 ?_
 go_simp
 refine zTa 4 (.int .u8 (t.toNat:Int)) rfl (by rintro w h;obtain⟨c0,d0⟩:=h.cells;go_simp) s0 ?_
 go_simp
 refine zT1 2 rfl (fun K hK=>?_)
 go_simp
 refine (hall fb W0).mono ?_
 rintro e _ ⟨rfl,rfl⟩
 go_simp
 refine hK _ _ ⟨.inr s0,?_⟩
 clear hK K
 refine wpAnyT_last (by kernel_rfl) (by kernel_rfl) ?_
 refine zA1 5 rfl (fun K hK=>?_)
 go_simp
 refine hc.mono ?_
 rintro e W1 ⟨rfl,q1,q2⟩
 go_simp
 have m1:W1.heap[fb]?=some (msgO cs):=(q2.block _ hlt (fun e=>hgf (Option.some.inj e).symm)).trans hq0
 have c9:=msgO_cell m1 ix y0 hy
 have z9:=msgO_frozen m1 ix
 refine hK _ _ ?_
 clear hK K
 refine zA1 6 rfl (fun K hK=>?_)
 go_simp
 refine hK _ _ ?_
 clear hK K
 refine zA1 7 rfl (fun K hK=>?_)
 go_simp
 go_simp
 refine hK _ _ ?_
 clear hK K
 refine wpAny_done (by kernel_rfl) ?_ _
 refine bodyPost_end (results_none rfl _ _ _) rfl ?_
 exact⟨rfl,W1,q1,grown_trans (grown_any hD.out _) q2,rfl⟩
structure TakeOk (t0 t1 t2 t3 t4 t5 t6 t7:Nat)(f:FV)(tf:FuncId)(tc:Array Value):Prop where
 eq:f.tk=.func (.func tf) #[] tc
 en:∀args w,(callFunc tf args).run Tryz.prog w=.ok (.enter tf args) w
 calls:∀(B g ob:Nat) (w:World) (o:MV) (c:MC) (s:RS) (W:World),AllAt t0 t1 t2 t3 t4 t5 t6 t7 W→RdM B g ob w o c s W→s.l.length≤100000000→(f.l=108→o.lo=none∧o.ln=0∧o.lc=0)→(f.l=101→o.ho=none∧o.hn=0∧o.hc=0)→Calls Tryz.prog tf (#[.pointer (some ⟨g,0,none⟩),.pointer (some ⟨ob,0,none⟩)]++tc) W (Takes B g ob w f.l o c s W)
theorem takeN {x:Int}{ff:FuncId}{ix:Nat}{t:UInt8}{tb fo:Nat}{fv:Int→MV→MV}{fld:MV→Int}(ht:0<t.toNat)(hall:∀(b:Nat) (w:World),Calls Tryz.prog ff #[.pointer (some ⟨b,0,none⟩)] w fun e w'=>e=.returned (.pointer (some ⟨b,ix,none⟩))∧w=w')
  (hen:∀args w,(callFunc ff args).run Tryz.prog w=.ok (.enter ff args) w) (hx:x≠102∧x≠113∧x≠114∧x≠115∧x≠108∧x≠101) {B g ob:Nat} {w:World} {o:MV} {c:MC} {s:RS} {W:World} (h:RdM B g ob w o c s W) (hl:s.l.length≤100000000)
  (hf:plainAt W (t.toNat:Int) (.func (.func ff) #[] #[]) tb fo) (hy:∃y,o.cells[ix]?=some y) (hfl:∀m d,fieldL x m d=val t (num8 (fld m).toNat)) (hu:∀m d,U64M m d→0≤fld m∧fld m<18446744073709551616) (hfv:∀n,fld (setF x o (fv n o))=n)
  (hbox:∀n:Int,(match o.box with | .cells cs t fr=>Obj.cells (cs.setIfInBounds ix (.int .u64 n)) t fr | o=>o)=(setF x o (fv n o)).box) (hat:∀n X,MAt X o c→MAt X (setF x o (fv n o)) (setC x c c)) (huu:∀n:Int,0≤n→n<18446744073709551616→U64M (setF x o (fv n o)) (setC x c c)) (hty:∀n X,MTyP X o c→MTyP X (setF x o (fv n o)) (setC x c c)) (hfr:∀n,(setF x o (fv n o)).fr=o.fr∧(setF x o (fv n o)).ln=o.ln∧(setF x o (fv n o)).hn=o.hn) :
  Calls Tryz.prog 220 (#[.pointer (some ⟨g,0,none⟩),.pointer (some ⟨ob,0,none⟩)]++#[.pointer (some ⟨tb,0,none⟩),.pointer (some ⟨fo,0,none⟩)]) W (Takes B g ob w x o c s W):=by
 obtain⟨y,hy⟩:=hy
 have T:=took_num s t ht
 have hn:=numR_lt s t
 refine (takeP ff ix t hall hen B g ob tb fo s o.cells y W h.rd hl h.q hy hf h.ne).mono ?_
 rintro e w' ⟨rfl,w1,hr,hg,rfl⟩
 refine⟨rfl,?_⟩
 have S:StepX x s (setF x o (fv ((s.num t).1:Int) o)) (setC x c c) (s.num t).2:=step_num ht hfl (fun _ m d _ hu' _=>hu m d hu') T (hfv _) (fun _=>⟨fun e=>absurd e hx.1,fun e=>absurd e hx.2.1,fun e=>absurd e hx.2.2.1,fun e=>absurd e hx.2.2.2.1,fun e=>absurd e hx.2.2.2.2.1,fun e=>absurd e hx.2.2.2.2.2⟩)
 have hf3:=hfr ((s.num t).1:Int)
 exact h.num hg hr S (hbox _) (hat _) (huu _ (by omega) (by omega)) (hty _) (by rw[hf3.1];exact h.fr) hf3.2.1 hf3.2.2
end Go.Proofs.YtfmmandlmbcncaaGreatDoor.Msg
