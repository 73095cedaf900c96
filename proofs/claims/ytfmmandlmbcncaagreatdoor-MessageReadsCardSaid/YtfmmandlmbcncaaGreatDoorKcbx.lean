/-
  A part of the proof.
-/
import Derived.Stop.IfaceNil
import Derived.Test.YtfmmandlmbcncaaGreatDoorKcbv
import Derived.Test.YtfmmandlmbcncaaGreatDoorKcbw
set_option maxHeartbeats 40000000
set_option maxRecDepth 100000
namespace Go.Proofs.YtfmmandlmbcncaaGreatDoor.Msg
open Go.RowKit Go.Lib Mem Tlv
theorem yI {W:World}{m:MV}{c:MC}(h:MAt W m c)(hu:U64M m c)(hf:FitsM m c)(hm:bZ m c=true):MayM W m c/\m.sn<=4194304/\∀x∈dJ,x∉lettersOf m.k m.wh->agree x m c (aj m.k) dK=true:=by
 unfold bZ at hm;rw[Bool.and_eq_true] at hm;have hs:=(WellP.of hm.1).sn;obtain⟨h1,h2,h3⟩:=(pg h hs).1 hm.1;refine⟨Dw h hu hf hs h1 h2,hs,fun x hx hn=>?_⟩;exact dZ ((same_iff.1 h3).2 x hx) ((qM m c _ (fun x hx=>jv x hx) x hx (aj m.k) dK).2 hn)
theorem IJ {W W':World}{m m':MV}{c c':MC}(h:MAt W m c)(h':MAt W' m' c')(hu:U64M m c)(hu':U64M m' c')(hf:FitsM m c)(hf':FitsM m' c')(hm:bZ m c=true)(hm':bZ m' c'=true)(e:dO m c=dO m' c'):aG m c m' c'=true:=by
 obtain⟨M,-,z⟩:=yI h hu hf hm;obtain⟨M',-,z'⟩:=yI h' hu' hf' hm';obtain⟨k1,k2,k3,-⟩:=yE (r:=[]) (r':=[]) h h' hu hu' M.k M'.k (fun x hx=>(M.may x hx).g h) (fun x hx=>(M'.may x hx).g h') (by rw[e]);refine same_iff.2 ⟨k1,fun x hx=>?_⟩;by_cases hn:x∈lettersOf m.k m.wh
 ·exact k3 x hn
 have a:=z x hx hn;have b:=z' x hx (by rw[<-k2];exact hn);rw[<-k1] at b;exact dZ a (iI b)
theorem rU {W:World}{m:MV}{c:MC}(h:MAt W m c)(hu:U64M m c)(hf:FitsM m c)(hm:bZ m c=true):¬jY (dO m c):=fun hn=>hn W m c (yI h hu hf hm).1 rfl
def Mc (b:List UInt8)(w:World)(e:Ending)(w':World):Prop:=
 (e=.returned .nilIface/\Below w.heap.size w w'/\∃(X:World) (m:MV) (c:MC),MAt X m c/\U64M m c/\FitsM m c/\bZ m c=true/\dO m c=b) \/
 (∃(p:Nat) (what:ByteArray),e=.returned (.iface 82 (.pointer (some ⟨p,0,none⟩)))/\Below w.heap.size w w'/\w'.heap[p]?=some (.cells #[.string what,.int .i64 4] 87)/\((what=sN/\NoKind b)\/(what=jU/\HasKind b/\jY b)))
theorem F6 (b:List UInt8)(ao:Option Addr)(n cap:Nat)(w:World)(hr:Rd w 1 ao n cap (byV b))(hn:n<=8388608):Calls Tryz.prog 33 #[.slice ao n cap] w (Mc b w):=by
 go_in;go_wp2_with fail;refine (zk b ao n cap w hr hn).mono ?_;rintro e W1 (⟨m,c,rfl,hb1,hat,hu,-,hfit,hmay,hml⟩ | ⟨what,⟨p,rfl,hb1,hp,q1⟩,hwhat⟩)
 ·have HA:Hid (∃(X:World) (m:MV) (c:MC),MAt X m c/\U64M m c/\FitsM m c/\bZ m c=true/\dO m c=b):=hid ⟨W1,m,c,hat,hu,hfit,hmay,hml⟩;clear hat hu hfit hmay hml hr;unfold MV.val MV.cells;go_upto_region 2 with (refine zNr rfl ?_;go_simp);generalize hg:W1.alloc _=W2;have hb2:Below W1.heap.size W1 W2:=by rw[<-hg];exact (Below.refl _ _).alloc (Nat.le_refl _) _
  have bel:=hb1.trans (hb2.mono hb1.size);clear hg hb1 hb2;go_wp2_with fail;go_ret;exact .inl ⟨rfl,bel,HA.out⟩
 have HW:=hid hwhat;clear hwhat hr;unfold MV.val MV.cells;go_upto_region 2 with (refine zNr rfl ?_;go_simp);generalize hg:W1.alloc _=W2;have hb2:Below W1.heap.size W1 W2:=by rw[<-hg];exact (Below.refl _ _).alloc (Nat.le_refl _) _
 have q2:=(hb2.block _ (Array.getElem?_eq_some_iff.1 q1).1).trans q1;have bel:=hb1.trans (hb2.mono hb1.size);clear hg hb1 hb2 q1;go_wp2_with fail;go_ret;exact .inr ⟨p,what,rfl,bel,q2,HW.out⟩
theorem G8 (m:MV)(c:MC):aG m c m c=true:=same_iff.2 ⟨rfl,fun x _=>nN x m c⟩
theorem HasKind.not {b:List UInt8}(h:HasKind b)(h':NoKind b):False:=by
 obtain⟨n,r,h1,h2,h3⟩:=h;exact h' n r h1 h2 h3
theorem wB (b:List UInt8)(ao:Option Addr)(n cap:Nat)(w:World)(hE:ErrG w)(hr:Rd w 1 ao n cap (byV b)):Calls Tryz.prog 5 #[.slice ao n cap] w (aN true w):=by
 by_cases hbig:30000<n
 ·have f0:decide ((30000:Int)<(n:Int))=true:=decide_eq_true (by omega);clear hbig hr hE;go_in;go_wp2_with fail;refine (uJ w).mono ?_;rintro e W1 ⟨rfl,hb1⟩;go_wp2_with fail;go_ret;exact⟨rfl,hb1⟩
 have f0:decide ((30000:Int)<(n:Int))=false:=decide_eq_false (by omega);have hn8:n<=8388608:=by omega
 have HN8:=hid hn8;clear hbig hn8;go_in;go_wp2_with fail;refine (MM b ao n cap w hr HN8.out hE).mono ?_;rintro e W1 ⟨hb1,hA1⟩;obtain⟨m,c,z,rfl,at1,hz⟩:∃(m:MV) (c:MC) (z:Int),e=.returned (.tuple #[m.val,.int .i64 z])/\MAt W1 m c/\((z=0/\U64M m c/\FitsM m c/\bZ m c=true/\dO m c=b)\/(z=4/\m=aj 0/\c=dK/\jY b)):=by
  rcases hA1 with ⟨m,c,rfl,a1,a2,-,a4,a5,a6⟩ | ⟨rfl,a1⟩
  ·exact⟨m,c,0,rfl,a1,.inl ⟨rfl,a2,a4,a5,a6⟩⟩
  exact⟨aj 0,dK,4,rfl,jG _ _,.inr ⟨rfl,rfl,rfl,a1⟩⟩
 have HZ:=hid hz;clear hA1 hz;unfold MV.val MV.cells;go_upto_region 4 with (refine zNr rfl ?_;go_simp);generalize hg:W1.alloc _=W2;have e2:W1.alloc m.box=W2:=hg;have hb2:Below W1.heap.size W1 W2:=by rw[<-e2];exact (Below.refl _ _).alloc (Nat.le_refl _) _
 have q2:W2.heap[W1.heap.size]?=some m.box:=by rw[<-e2];exact at_new _ _
 have at2:=at1.later hb2;have bel2:=hb1.trans (hb2.mono hb1.size);clear hg e2 hb1 hb2 at1;generalize W1.heap.size=mb at *;go_wp2_with fail;refine (Kt b ao n cap W2 (hr.later (bel2.mono (Nat.le_refl _))) HN8.out).mono ?_;rintro e W3 ⟨hb3,hA3⟩;obtain⟨v,cv,s,rfl,at3,hs⟩:∃(v:MV) (cv:MC) (s:ByteArray),e=.returned (.tuple #[v.val,.string s])/\MAt W3 v cv/\((s=⟨#[]⟩/\U64M v cv/\FitsM v cv/\bZ v cv=true/\dO v cv=b)\/(s=sN/\NoKind b)\/(s=jU/\HasKind b/\jY b)):=by
  rcases hA3 with ⟨v,cv,rfl,a1,a2,a4,a5,a6⟩ | ⟨rfl,a1⟩ | ⟨rfl,a1,a2⟩
  ·exact⟨v,cv,_,rfl,a1,.inl ⟨rfl,a2,a4,a5,a6⟩⟩
  ·exact⟨aj 0,dK,_,rfl,jG _ _,.inr (.inl ⟨rfl,a1⟩)⟩
  exact⟨aj 0,dK,_,rfl,jG _ _,.inr (.inr ⟨rfl,a1,a2⟩)⟩
 have HS:=hid hs;have q3:=ae q2 hb3;have at2':=at2.later hb3;have bel3:=bel2.trans (hb3.mono bel2.size);clear hA3 hs hb3 q2 at2 bel2;unfold MV.val MV.cells;go_upto_region 5 with (refine zNr rfl ?_;go_simp);generalize hg:W3.alloc _=W4;have e4:W3.alloc v.box=W4:=hg;have hb4:Below W3.heap.size W3 W4:=by rw[<-e4];exact (Below.refl _ _).alloc (Nat.le_refl _) _
 have v4:W4.heap[W3.heap.size]?=some v.box:=by rw[<-e4];exact at_new _ _
 have q4:=ae q3 hb4;have at4:=at2'.later hb4;have av4:=at3.later hb4;have bel4:=bel3.trans (hb4.mono bel3.size);clear hg e4 hb4 q3 at2' at3 bel3;generalize W3.heap.size=vb at *;go_wp2_with fail;refine (F6 b ao n cap W4 (hr.later (bel4.mono (Nat.le_refl _))) HN8.out).mono ?_;rintro e W5 (⟨rfl,hb5,X,x,cx,x1,x2,x3,x4,x5⟩ | ⟨p,what,rfl,hb5,qp,hwhat⟩)
 ·have hmsg:¬jY b:=by rw[<-x5];exact rU x1 x2 x3 x4
  have q5:=ae q4 hb5;have v5:=ae v4 hb5;have at5:=at4.later hb5;have av5:=av4.later hb5;have bel5:=bel4.trans (hb5.mono bel4.size);have hsame:aG m c v cv=true/\z=0/\s=⟨#[]⟩:=by
   rcases HZ.out with ⟨z0,a2,a4,a5,a6⟩ | ⟨-,-,-,hno⟩
   ·rcases HS.out with ⟨s0,b2,b4,b5,b6⟩ | ⟨-,hk⟩ | ⟨-,-,hno⟩
    ·exact⟨IJ at5 av5 a2 b2 a4 b4 a5 b5 (a6.trans b6.symm),z0,s0⟩
    ·exact absurd hk.msg hmsg
    exact absurd hno hmsg
   exact absurd hno hmsg
  obtain⟨hsm,rfl,rfl⟩:=hsame;have hc:=pJ m v c cv W5 at5 av5;rw[hsm] at hc;unfold MV.val MV.cells at hc;have hnil:∀(w:World),Sem.run Tryz.prog (binOp BinOp.eql 80 .nilIface .nilIface) w=.ok (.bool true) w:=fun _=>by kernel_rfl
  clear hmsg hsm HZ HS x1 x2 x3 x4 x5 q4 v4 at4 av4 bel4 hb5 at5 av5;go_wp2_with (first | (refine wpList_load_row (ty:=59) q5 rfl rfl rfl (by kernel_rfl) (by kernel_rfl) ?_;go_simp) | (refine wpList_load_row (ty:=59) v5 rfl rfl rfl (by kernel_rfl) (by kernel_rfl) ?_;go_simp));refine hc.mono ?_;rintro e W6 ⟨rfl,hb6⟩;have bel6:=bel5.trans (hb6.mono bel5.size);clear hc hb6 q5 v5 bel5;go_wp2_with fail;refine (vM 0 W6).mono ?_;rintro e _ ⟨rfl,rfl⟩;go_wp2_with fail;refine (uJ W6).mono ?_;rintro e W7 ⟨rfl,hb7⟩;have bel7:=bel6.trans (hb7.mono bel6.size);go_wp2_with fail;go_ret;exact⟨rfl,bel7⟩
 have q5:=ae q4 hb5;have bel5:=bel4.trans (hb5.mono bel4.size);have hE5:=hE.below (bel5.mono (Nat.le_refl _));obtain⟨hno,hsw⟩:jY b/\s=what:=by
  rcases hwhat with ⟨rfl,hk⟩ | ⟨rfl,hk,hno⟩
  ·refine⟨hk.msg,?_⟩;rcases HS.out with ⟨-,b2,b4,b5,b6⟩ | ⟨h,-⟩ | ⟨-,h,-⟩
   ·exact absurd (by rw[b6];exact hk.msg) (rU av4 b2 b4 b5)
   ·exact h
   exact absurd hk (fun h'=>h.not h')
  refine⟨hno,?_⟩;rcases HS.out with ⟨-,b2,b4,b5,b6⟩ | ⟨-,h⟩ | ⟨h,-,-⟩
  ·exact absurd (by rw[b6];exact hno) (rU av4 b2 b4 b5)
  ·exact absurd h (fun h'=>hk.not h')
  exact h
 obtain⟨rfl,rfl,rfl⟩:z=4/\m=aj 0/\c=dK:=by
  rcases HZ.out with ⟨-,a2,a4,a5,a6⟩ | ⟨h1,h2,h3,-⟩
  ·exact absurd (by rw[a6];exact hno) (rU at4 a2 a4 a5)
  exact⟨h1,h2,h3⟩
 obtain⟨wl,rfl,hwl⟩:∃wl:List UInt8,what=⟨wl.toArray⟩/\wl.isEmpty=false:=by
  rcases hwhat with ⟨rfl,-⟩ | ⟨rfl,-,-⟩
  ·exact⟨[107,105,110,100],rfl,rfl⟩
  exact⟨[102,105,101,108,100,115],rfl,rfl⟩
 subst hsw;clear hno HZ HS hwhat q4 v4 at4 av4 bel4 hb5;go_upto_region 9 with fail;generalize hg:W5.alloc _=W6;have hb6:Below W5.heap.size W5 W6:=by rw[<-hg];exact (Below.refl _ _).alloc (Nat.le_refl _) _
 have t6:W6.heap[W5.heap.size]?=some (.cells #[.pointer none] 82):=by rw[<-hg];exact at_new _ _
 have q6:=ae q5 hb6;have p6:=(hb6.block _ (Array.getElem?_eq_some_iff.1 qp).1).trans qp;have bel6:=bel5.trans (hb6.mono bel5.size);have hE6:=hE5.below hb6;have hpt:p<W5.heap.size:=(Array.getElem?_eq_some_iff.1 qp).1;have htw:w.heap.size<=W5.heap.size:=bel5.size;clear hg hb6 q5 qp bel5 hE5;obtain⟨tb,htb⟩:∃tb,W5.heap.size=tb:=⟨_,rfl⟩
 rw[htb] at t6 hpt htw;rw[htb];clear htb;have hc:=pJ (aj 0) (aj 0) dK dK W6 (jG _ _) (jG _ _);rw[G8] at hc;unfold aj bM bG zeroV MV.val MV.cells at hc;dsimp only at hc;unfold aj bM bG zeroV MV.box MV.cells at q6;dsimp only at q6;have hni:∀(w:World),Sem.run Tryz.prog (binOp BinOp.eql 80 (.iface 82 (.pointer (some ⟨p,0,none⟩))) .nilIface) w=.ok (.bool false) w:=fun w=>run_eql_iface_nil w 80 (by kernel_rfl) _ _;have hpn:∀(w:World),Sem.run Tryz.prog (binOp BinOp.eql 82 (.pointer (some ⟨p,0,none⟩)) (.pointer none)) w=.ok (.bool false) w:=fun _=>by kernel_rfl
 go_wp2_with (refine wpList_load_row (ty:=59) q6 rfl rfl rfl (by kernel_rfl) (by kernel_rfl) ?_;go_simp);refine hc.mono ?_;rintro e W7 ⟨rfl,hb7⟩;have t7:=(hb7.block _ (Array.getElem?_eq_some_iff.1 t6).1).trans t6;have p7:=(hb7.block _ (Array.getElem?_eq_some_iff.1 p6).1).trans p6;have bel7:=bel6.trans (hb7.mono bel6.size);have hE7:=hE6.below hb7;clear hc hb7 t6 p6 q6 bel6 hE6;go_wp2_with fail;refine (vM 4 W7).mono ?_;rintro e _ ⟨rfl,rfl⟩;have d1:W7.cell? ⟨tb,0,none⟩=some (.pointer none):=by simp[World.cell?,t7]
 have d2:W7.frozen? ⟨tb,0,none⟩=false:=by simp[World.frozen?,t7]
 have HAS:=Err.as_hit ⟨p,0,none⟩ ⟨tb,0,none⟩ _ W7 hE7 d1 d2;clear hE7 d1 d2;go_wp2_with fail;refine HAS.mono ?_;rintro e W8 ⟨rfl,hw8⟩;obtain⟨X,hX⟩:∃X,(((W7.alloc (.cells #[.pointer (some ⟨tb,0,none⟩)] 84)).alloc (.cells #[.pointer (some ⟨2,84,none⟩),.pointer (some ⟨W7.heap.size,0,none⟩),.int .u64 150] 132)).alloc (.cells #[.pointer (some ⟨2,84,none⟩),.pointer (some ⟨W7.heap.size,0,none⟩),.int .u64 150] 132)).alloc (.cells #[.pointer (some ⟨p,0,none⟩)] 82)=X:=⟨_,rfl⟩
 have hbX:Below W7.heap.size W7 X:=by
  rw[<-hX];exact ((((Below.refl _ _).alloc (Nat.le_refl _) _).alloc (by rw[World.size_alloc];omega) _).alloc (by rw[World.size_alloc,World.size_alloc];omega) _).alloc (by rw[World.size_alloc,World.size_alloc,World.size_alloc];omega) _
 rw[hX] at hw8;have pX:=(hbX.block _ (Array.getElem?_eq_some_iff.1 p7).1).trans p7;have tX:=(hbX.block _ (Array.getElem?_eq_some_iff.1 t7).1).trans t7;have p8:W8.heap[p]?=some (.cells #[.string ⟨wl.toArray⟩,.int .i64 4] 87):=by rw[hw8];exact ai pX (by omega)
 have t8:W8.heap[tb]?=some (.cells #[.pointer (some ⟨p,0,none⟩)] 82):=by rw[hw8];exact (at_set tX).trans (by rfl)
 have bel8:Below w.heap.size w W8:=by rw[hw8];exact (bel7.trans (hbX.mono bel7.size)).setCell (by show w.heap.size<=tb;omega) _
 clear hX hbX hw8 pX tX p7 t7 bel7 HAS;have c0:W8.cell? ⟨p,0,none⟩=some (.string ⟨wl.toArray⟩):=by simp[World.cell?,p8]
 have c1:W8.cell? ⟨p,1,none⟩=some (.int .i64 4):=by simp[World.cell?,p8]
 have c2:W8.cell? ⟨tb,0,none⟩=some (.pointer (some ⟨p,0,none⟩)):=by simp[World.cell?,t8]
 have H4:=Err.is_msg p 4 4 W8 c1;have H3:=Err.is_msg p 4 3 W8 c1;rw[show decide ((4:Int)=4)=true from by decide] at H4;rw[show decide ((4:Int)=3)=false from by decide] at H3;clear p8 t8;go_wp2_with fail;refine H4.mono ?_;rintro e W9 ⟨rfl,hw9⟩;rw[hw9];clear hw9 W9 H4;go_wp2_with fail;refine H3.mono ?_;rintro e W9 ⟨rfl,hw9⟩;rw[hw9];clear hw9 W9 H3;go_wp2_with fail;refine (vM 4 W8).mono ?_;rintro e _ ⟨rfl,rfl⟩;go_wp2_with fail;refine (uJ W8).mono ?_;rintro e W10 ⟨rfl,hb10⟩;have bel10:=bel8.trans (hb10.mono bel8.size);go_wp2_with fail;go_ret;exact⟨rfl,bel10⟩
end Go.Proofs.YtfmmandlmbcncaaGreatDoor.Msg
