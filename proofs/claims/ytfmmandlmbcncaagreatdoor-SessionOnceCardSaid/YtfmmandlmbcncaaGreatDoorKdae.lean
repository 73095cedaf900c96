/-
  A part of the proof.
-/
import Derived.Test.YtfmmandlmbcncaaGreatDoorKdad
set_option maxHeartbeats 40000000
set_option maxRecDepth 100000
namespace Go.Proofs.YtfmmandlmbcncaaGreatDoor.Tlv
def ln (l:List UInt8):Nat:=16777216*(l[1]?.getD 0).toNat+65536*(l[2]?.getD 0).toNat+256*(l[3]?.getD 0).toNat+(l[4]?.getD 0).toNat
def fs (l:List UInt8):Nat:=if l.length<5\/l[0]?.getD 0=0\/4194304<ln l\/l.length-5<ln l then 0 else 5+ln l
abbrev It:=UInt8×List UInt8
def hd1 (l:List UInt8):It:=(l[0]?.getD 0,(l.drop 5).take (fs l-5))
theorem jU (l:List UInt8):fs l<=l.length:=by unfold fs;split<;>omega
theorem gm (l:List UInt8)(h:fs l≠0):5<=fs l:=by unfold fs at *;split<;>simp_all<;>omega
theorem nI (l:List UInt8)(h:fs l≠0):5+(hd1 l).2.length=fs l:=by
 have h1:=jU l;have h2:=gm l h;simp only[hd1,List.length_take,List.length_drop];omega
theorem xN {l:List UInt8}(h:l.length<5\/l[0]?.getD 0=0\/4194304<ln l\/l.length-5<ln l):fs l=0:=if_pos h
theorem xw {l:List UInt8}(h:¬(l.length<5\/l[0]?.getD 0=0\/4194304<ln l\/l.length-5<ln l)):fs l=5+ln l:=if_neg h
def dW:Nat->List UInt8->List It
 | 0,_=>[]
 | k+1,l=>if fs l=0 then [] else hd1 l::dW k (l.drop (fs l))
def its (l:List UInt8):List It:=dW l.length l
def ip:List It->Nat->Nat
 | [],_=>0
 | _,0=>0
 | x::rs,k+1=>5+x.2.length+ip rs k
theorem ny (rs:List It):ip rs 0=0:=by cases rs<;>rfl
theorem NI (f:Nat):∀(l:List UInt8),l.length<=f->∀k,k<(dW f l).length ->
  (dW f l)[k]?.getD (0,[])=hd1 (l.drop (ip (dW f l) k))/\fs (l.drop (ip (dW f l) k))≠0 /\
   ip (dW f l) (k+1)=ip (dW f l) k+fs (l.drop (ip (dW f l) k))/\ip (dW f l) (k+1)<=l.length:=by
 induction f with
 | zero=>intro l _ k hk;simp[dW] at hk
 | succ f ih=>
  intro l hl k hk;by_cases h0:fs l=0
  ·simp[dW,h0] at hk
  have hd:=nI l h0;have h5:=gm l h0;have hle:=jU l;simp only[dW,if_neg h0] at hk ⊢;cases k with
  | zero=>
   refine⟨by simp[ip],by simpa [ip] using h0,?_,?_⟩
   ·simp[ip,ny];omega
   simp[ip,ny];omega
  | succ k=>
   obtain⟨h1,h2,h3,h4⟩:=ih (l.drop (fs l)) (by rw[List.length_drop];omega) k (by simpa using hk);rw[List.length_drop] at h4;have e:l.drop (5+(hd1 l).2.length+ip (dW f (l.drop (fs l))) k)=(l.drop (fs l)).drop (ip (dW f (l.drop (fs l))) k):=by rw[List.drop_drop,hd]
   simp only[ip,List.getElem?_cons_succ,e];exact⟨h1,h2,by omega,by omega⟩
theorem Gl (f:Nat):∀(l:List UInt8),l.length<=f->fs (l.drop (ip (dW f l) (dW f l).length))=0/\ip (dW f l) (dW f l).length<=l.length:=by
 induction f with
 | zero=>
  intro l hl;have:l=[]:=List.eq_nil_of_length_eq_zero (by omega);subst this;exact⟨by decide,Nat.le_refl _⟩
 | succ f ih=>
  intro l hl;by_cases h0:fs l=0
  ·simp[dW,h0,ip]
  have hd:=nI l h0;have h5:=gm l h0;have hle:=jU l;obtain⟨h1,h2⟩:=ih (l.drop (fs l)) (by rw[List.length_drop];omega);rw[List.length_drop] at h2;simp only[dW,if_neg h0,List.length_cons,ip];rw[<-List.drop_drop,hd];exact⟨h1,by omega⟩
theorem Am (l:List UInt8)(k:Nat)(hk:k<(its l).length):(its l)[k]?.getD (0,[])=hd1 (l.drop (ip (its l) k))/\fs (l.drop (ip (its l) k))≠0 /\
   ip (its l) (k+1)=ip (its l) k+fs (l.drop (ip (its l) k))/\ip (its l) (k+1)<=l.length:=NI _ l (Nat.le_refl _) k hk
theorem wu (l:List UInt8):fs (l.drop (ip (its l) (its l).length))=0/\ip (its l) (its l).length<=l.length:=Gl _ l (Nat.le_refl _)
theorem JU (f:Nat):∀(l:List UInt8),(dW f l).length*5<=l.length:=by
 induction f with
 | zero=>intro l;simp[dW]
 | succ f ih=>
  intro l;by_cases h0:fs l=0
  ·simp[dW,h0]
  have h5:=gm l h0;have hle:=jU l;have:=ih (l.drop (fs l));rw[List.length_drop] at this;simp only[dW,if_neg h0,List.length_cons];omega
theorem xR (l:List UInt8):(its l).length*5<=l.length:=JU _ l
end Go.Proofs.YtfmmandlmbcncaaGreatDoor.Tlv
namespace Go.Proofs.YtfmmandlmbcncaaGreatDoor.Tlv
open Go.RowKit Mem
theorem fQ (l:List UInt8)(k:Nat)(h:k<l.length):(byV l)[k]?=some (.int .u8 ((l[k]?.getD 0).toNat:Int)):=by
 simp[byV,List.getElem?_map,List.getElem?_eq_getElem h]
theorem gB (n:Int)(h₀:0<=n)(h₁:n<2 ^ 63):IntKind.i64.wrap n=n:=by rw[IntKind.wrap_i64];omega
theorem uO (q:Nat):(4194304:Int)<(q:Int)↔4194304<q:=by omega
theorem LP {n q:Nat}(hn:n<=1000000000)(h:(5:Int)+q<=n):IntKind.i64.wrap (5+(q:Int))=5+(q:Int):=by rw[IntKind.wrap_i64];omega
theorem sub_lt {n q:Nat}(h5:¬n<5)(h:n-5<q):decide ((n:Int)-5<(q:Int))=true:=decide_eq_true (by omega)
theorem IW {n q cap:Nat}(h5:¬n<5)(h:¬n-5<q)(hc:n<=cap):decide ((n:Int)-5<(q:Int))=false/\(0:Int)<=q/\(5:Int)+q<=n/\(5:Int)+q<=cap:=⟨decide_eq_false (by omega),by omega,by omega,by omega⟩
theorem Ji {w:World}{b off n cap:Nat}{l:List UInt8}(h:Rd w 1 (some ⟨b,off,none⟩) n cap (byV l))(a m c:Nat)(hm:a+m<=n)(hc:m<=c)(hc2:a+c<=cap) :
  Rd w 1 (some ⟨b,off+a,none⟩) m c (byV ((l.drop a).take m)):=by
 obtain⟨h1,h2,h3,h4,h5⟩:=h;rw[aS] at h1;refine⟨by rw[aS,List.length_take,List.length_drop];omega,hc,by omega,(fun h=>by cases h),fun h0 a' ha=>?_⟩;cases ha;obtain⟨s,lt,cc⟩:=h5 (by omega) _ rfl;refine⟨rfl,lt,fun j u hu=>?_⟩;dsimp only at cc ⊢;rw[show off+a+j=off+(a+j) by omega];refine cc (a+j) u ?_;unfold byV at hu ⊢;rw[List.getElem?_map] at hu ⊢;rw[List.getElem?_take] at hu;split at hu
 ·rwa [List.getElem?_drop] at hu
 simp at hu
theorem DL (w:World)(a:Addr):Rd w 1 (some a) 0 0 (byV []):=⟨rfl,Nat.le_refl _,Nat.zero_le _,(fun _=>rfl),fun h=>absurd h (Nat.lt_irrefl 0)⟩
def FirstAns (w:World)(ao0:Option Addr)(l:List UInt8)(e:Ending)(w':World):Prop:=Below w.heap.size w w' /\
 ((fs l=0/\e=.returned (.tuple #[.int .u8 0,.slice none 0 0,.int .i64 0])) \/
 (fs l≠0/\∃ao cap,e=.returned (.tuple #[.int .u8 ((hd1 l).1.toNat:Int),.slice ao (hd1 l).2.length cap,.int .i64 (fs l:Int)])/\Rd w' 1 ao (hd1 l).2.length cap (byV (hd1 l).2)/\(0<cap->∀a,ao=some a->∃a0,ao0=some a0/\a.block=a0.block)))
theorem FirstAns.no {w:World}{ao0:Option Addr}{l:List UInt8}{e:Ending}(h:fs l=0)(he:e=.returned (.tuple #[.int .u8 0,.slice none 0 0,.int .i64 0]))(q:Nat):FirstAns w ao0 l e (w.drewN q):=
 ⟨below_drewN (Below.refl _ _) _,.inl ⟨h,he⟩⟩
theorem FirstAns.yes {w:World}{b off n cap q c x0:Nat}{l:List UInt8}{e:Ending}{ao:Option Addr}(hr:Rd w 1 (some ⟨b,off,none⟩) n cap (byV l))(hx:(l[0]?.getD 0).toNat=x0)(hf:fs l=5+q)(hq:5+q<=n)(hc:q<=c)(hc2:5+c<=cap)
  (hao:ao=some ⟨b,off+5,none⟩\/(q=0/\c=0/\∃a,ao=some a)) (he:e=.returned (.tuple #[.int .u8 (x0:Int),.slice ao q c,.int .i64 (5+(q:Int))])) {w':World} (hb:Below w.heap.size w w'):FirstAns w (some ⟨b,off,none⟩) l e w':=by
 have hl:l.length=n:=by have:=hr.1;rw[aS] at this;omega
 have h2:(hd1 l).2=(l.drop 5).take q:=by simp only[hd1,hf];congr 1;omega
 have h3:(hd1 l).2.length=q:=by rw[h2,List.length_take,List.length_drop];omega
 refine⟨hb,.inr ⟨by omega,ao,c,?_,?_,fun h0 a ha=>?_⟩⟩
 ·rw[he,h3,hf,<-hx];rfl
 ·rw[h3,h2];refine Rd.later (w:=w) ?_ hb;rcases hao with rfl | ⟨rfl,rfl,a,rfl⟩
  ·exact Ji hr 5 q c hq hc hc2
  exact DL _ _
 rcases hao with rfl | ⟨rfl,rfl,a,rfl⟩
 ·cases ha;exact⟨_,rfl,rfl⟩
 exact absurd h0 (Nat.lt_irrefl 0)
theorem FirstAns.yes0 {w:World}{b off n cap x0:Nat}{l:List UInt8}{e:Ending}{a:Addr}(hr:Rd w 1 (some ⟨b,off,none⟩) n cap (byV l))(hx:(l[0]?.getD 0).toNat=x0)(hf:fs l=5+0)(hq:5<=n)
  (he:e=.returned (.tuple #[.int .u8 (x0:Int),.slice (some a) 0 0,.int .i64 5])) {w':World} (hb:Below w.heap.size w w'):FirstAns w (some ⟨b,off,none⟩) l e w':=
 FirstAns.yes (q:=0) (c:=0) hr hx hf (by omega) (by omega) (by have:=hr.le;omega) (.inr ⟨rfl,rfl,_,rfl⟩) he hb
theorem first_any (ao:Option Addr)(n cap:Nat)(l:List UInt8)(w:World)(hr:Rd w 1 ao n cap (byV l))(hn:n<=1000000000) :
  Calls Tryz.prog 151 #[.slice ao n cap] w (FirstAns w ao l):=by
 have ll:l.length=n:=by have:=hr.1;rw[aS] at this;omega
 by_cases h5:n<5
 ·have hf:=xN (l:=l) (.inl (by omega));go_in;go_wp2
  go_ret3
  exact FirstAns.no hf (by first | rfl | simp) 0
 obtain⟨b,off,e1,hlt,hc⟩:=hr.some (by have:=hr.le;omega);subst e1;have c0:w.cell? ⟨b,off,none⟩=_:=hc 0 _ (fQ l 0 (by omega));have c1:=hc 1 _ (fQ l 1 (by omega));have c2:=hc 2 _ (fQ l 2 (by omega));have c3:=hc 3 _ (fQ l 3 (by omega));have c4:=hc 4 _ (fQ l 4 (by omega));have hle:=hr.le;have hcap:=hr.2.2.1;unfold maxLen at hcap;have b1:(l[1]?.getD 0).toNat<256:=UInt8.toNat_lt _;have b2:(l[2]?.getD 0).toNat<256:=UInt8.toNat_lt _;have b3:(l[3]?.getD 0).toNat<256:=UInt8.toNat_lt _;have b4:(l[4]?.getD 0).toNat<256:=UInt8.toNat_lt _;have hln:ln l=16777216*(l[1]?.getD 0).toNat+65536*(l[2]?.getD 0).toNat+256*(l[3]?.getD 0).toNat+(l[4]?.getD 0).toNat:=rfl;have hx0:l[0]?.getD 0=0↔(l[0]?.getD 0).toNat=0:=by rw[<-UInt8.toNat_inj];rfl
 have hn1:=xN (l:=l);have hn2:=xw (l:=l);rw[ll] at hn1 hn2;have b0:(l[0]?.getD 0).toNat<256:=UInt8.toNat_lt _;rw[hx0] at hn1 hn2;generalize hX:(l[0]?.getD 0).toNat=x0 at *;have HX:=Lib.hid hX;clear hX;generalize (l[1]?.getD 0).toNat=x1 at *;generalize (l[2]?.getD 0).toNat=x2 at *;generalize (l[3]?.getD 0).toNat=x3 at *;generalize (l[4]?.getD 0).toNat=x4 at *;clear ll hx0;generalize hF:fs l=f at *;have HF0:=Lib.hid hF;clear hF;generalize ln l=q at *;by_cases h0:x0=0
 ·have:=hn1 (.inr (.inl h0));have HF:=Lib.hid this;clear this hn1 hn2;have f1:((x0:Int)==0)=true:=by simp[h0]
  clear h0;go_in;go_wp2
  go_ret3
  exact FirstAns.no (HF0.out.trans HF.out) (by first | rfl | simp) 0
 have f1:((x0:Int)==0)=false:=by simp[h0]
 have f5:decide ((n:Int)<5)=false:=by simp;omega
 have j1:bits BinOp.or IntKind.i64 ((x1:Int)*16777216) ((x2:Int)*65536)=(x1:Int)*16777216+(x2:Int)*65536:=bits_join .i64 63 (by decide) gB 24 _ _ (by omega) (by omega) (by omega) (by omega) (by omega) (by omega);have j2:bits BinOp.or IntKind.i64 ((x1:Int)*16777216+(x2:Int)*65536) ((x3:Int)*256)=(x1:Int)*16777216+(x2:Int)*65536+(x3:Int)*256:=bits_join .i64 63 (by decide) gB 16 _ _ (by omega) (by omega) (by omega) (by omega) (by omega) (by omega);have j3:bits BinOp.or IntKind.i64 ((x1:Int)*16777216+(x2:Int)*65536+(x3:Int)*256) (x4:Int)=(q:Int):=by
  rw[show (q:Int)=(x1:Int)*16777216+(x2:Int)*65536+(x3:Int)*256+(x4:Int) by omega];exact bits_join .i64 63 (by decide) gB 8 _ _ (by omega) (by omega) (by omega) (by omega) (by omega) (by omega)
 by_cases hq:4194304<q\/n-5<q
 ·have:=hn1 (.inr (.inr hq));have HF:=Lib.hid this;clear this hn1 hn2 h0;by_cases hq1:(4194304:Int)<(q:Int)
  ·have g1:decide ((4194304:Int)<(q:Int))=true:=decide_eq_true hq1;clear hln;go_in;go_wp2
   go_quiet (fail)
   go_wp2
   go_ret3
   exact FirstAns.no (HF0.out.trans HF.out) (by first | rfl | simp) _
  have hq2:n-5<q:=hq.resolve_left (fun h=>hq1 ((uO q).2 h));have g1:decide ((4194304:Int)<(q:Int))=false:=decide_eq_false hq1;clear hq hq1;have g2:=sub_lt h5 hq2;clear hln;go_in;go_wp2
  go_quiet (fail)
  go_wp2
  go_ret3
  exact FirstAns.no (HF0.out.trans HF.out) (by first | rfl | simp) _
 have:=hn2 (fun h=>by
  rcases h with h | h | h
  ·exact h5 h
  ·exact h0 h
  exact hq h)
 have HF:=Lib.hid this;have g1:decide ((4194304:Int)<(q:Int))=false:=decide_eq_false (fun h=>hq (.inl ((uO q).1 h)));have hq2:¬n-5<q:=fun h=>hq (.inr h);clear this hn1 hn2 h0 hq;obtain⟨g2,i0,i1,i2⟩:=IW h5 hq2 hle;clear hln;by_cases hq0:q=0
 ·subst hq0;go_in;go_wp2
  go_quiet (fail)
  go_wp2
  go_quiet (fail)
  go_wp2
  go_ret3
  refine FirstAns.yes0 (a:=⟨b,off,none⟩) hr HX.out (HF0.out.trans HF.out) (by omega) (by rfl) (by first | exact below_drewN (Below.refl _ _) _ | exact below_drewN (below_drewN (Below.refl _ _) _) _)
 have i3:(0:Int)<q:=by omega
 clear hq0;go_in;go_wp2
 go_quiet (fail)
 go_wp2;have wq:=LP hn i1
 go_quiet (fail)
 go_wp2
 go_ret3
 have e5:5+q-5=q:=by omega
 refine FirstAns.yes (q:=q) (c:=q) (ao:=some ⟨b,off+5,none⟩) hr HX.out (HF0.out.trans HF.out) (by omega) (by omega) (by omega) (.inl rfl) ?_ (by first | exact below_drewN (Below.refl _ _) _ | exact below_drewN (below_drewN (Below.refl _ _) _) _);show Ending.returned (.tuple #[.int .u8 (x0:Int),.slice (some ⟨b,off+5,none⟩) (5+q-5) (5+q-5),.int .i64 (5+(q:Int))])=_;rw[e5]
theorem xI (ao:Option Addr)(n cap:Nat)(l:List UInt8)(w:World)(hr:Rd w 1 ao n cap (byV l))(hn:n<=1000000000) :
  Calls Tryz.prog 132 #[.slice ao n cap] w (FirstAns w ao l):=by
 have ll:l.length=n:=by have:=hr.1;rw[aS] at this;omega
 by_cases h5:n<5
 ·have hf:=xN (l:=l) (.inl (by omega));go_in;go_wp2
  go_ret3
  exact FirstAns.no hf (by first | rfl | simp) 0
 obtain⟨b,off,e1,hlt,hc⟩:=hr.some (by have:=hr.le;omega);subst e1;have c0:w.cell? ⟨b,off,none⟩=_:=hc 0 _ (fQ l 0 (by omega));have c1:=hc 1 _ (fQ l 1 (by omega));have c2:=hc 2 _ (fQ l 2 (by omega));have c3:=hc 3 _ (fQ l 3 (by omega));have c4:=hc 4 _ (fQ l 4 (by omega));have hle:=hr.le;have hcap:=hr.2.2.1;unfold maxLen at hcap;have b1:(l[1]?.getD 0).toNat<256:=UInt8.toNat_lt _;have b2:(l[2]?.getD 0).toNat<256:=UInt8.toNat_lt _;have b3:(l[3]?.getD 0).toNat<256:=UInt8.toNat_lt _;have b4:(l[4]?.getD 0).toNat<256:=UInt8.toNat_lt _;have hln:ln l=16777216*(l[1]?.getD 0).toNat+65536*(l[2]?.getD 0).toNat+256*(l[3]?.getD 0).toNat+(l[4]?.getD 0).toNat:=rfl;have hx0:l[0]?.getD 0=0↔(l[0]?.getD 0).toNat=0:=by rw[<-UInt8.toNat_inj];rfl
 have hn1:=xN (l:=l);have hn2:=xw (l:=l);rw[ll] at hn1 hn2;have b0:(l[0]?.getD 0).toNat<256:=UInt8.toNat_lt _;rw[hx0] at hn1 hn2;generalize hX:(l[0]?.getD 0).toNat=x0 at *;have HX:=Lib.hid hX;clear hX;generalize (l[1]?.getD 0).toNat=x1 at *;generalize (l[2]?.getD 0).toNat=x2 at *;generalize (l[3]?.getD 0).toNat=x3 at *;generalize (l[4]?.getD 0).toNat=x4 at *;clear ll hx0;generalize hF:fs l=f at *;have HF0:=Lib.hid hF;clear hF;generalize ln l=q at *;by_cases h0:x0=0
 ·have:=hn1 (.inr (.inl h0));have HF:=Lib.hid this;clear this hn1 hn2;have f1:((x0:Int)==0)=true:=by simp[h0]
  clear h0;go_in;go_wp2
  go_ret3
  exact FirstAns.no (HF0.out.trans HF.out) (by first | rfl | simp) 0
 have f1:((x0:Int)==0)=false:=by simp[h0]
 have f5:decide ((n:Int)<5)=false:=by simp;omega
 have j1:IntKind.i64.wrap (16777216*(x1:Int))=16777216*(x1:Int):=by rw[IntKind.wrap_i64];omega
 have j2:IntKind.i64.wrap (65536*(x2:Int))=65536*(x2:Int):=by rw[IntKind.wrap_i64];omega
 have j3:IntKind.i64.wrap (256*(x3:Int))=256*(x3:Int):=by rw[IntKind.wrap_i64];omega
 have j4:IntKind.i64.wrap (16777216*(x1:Int)+65536*(x2:Int))=16777216*(x1:Int)+65536*(x2:Int):=by rw[IntKind.wrap_i64];omega
 have j5:IntKind.i64.wrap (16777216*(x1:Int)+65536*(x2:Int)+256*(x3:Int))=16777216*(x1:Int)+65536*(x2:Int)+256*(x3:Int):=by rw[IntKind.wrap_i64];omega
 have j6:IntKind.i64.wrap (16777216*(x1:Int)+65536*(x2:Int)+256*(x3:Int)+(x4:Int))=(q:Int):=by rw[IntKind.wrap_i64];omega
 by_cases hq:4194304<q\/n-5<q
 ·have:=hn1 (.inr (.inr hq));have HF:=Lib.hid this;clear this hn1 hn2 h0;by_cases hq1:(4194304:Int)<(q:Int)
  ·have g1:decide ((4194304:Int)<(q:Int))=true:=decide_eq_true hq1;clear hln;go_in;go_wp2
   go_quiet (fail)
   go_wp2
   go_ret3
   exact FirstAns.no (HF0.out.trans HF.out) (by first | rfl | simp) _
  have hq2:n-5<q:=hq.resolve_left (fun h=>hq1 ((uO q).2 h));have g1:decide ((4194304:Int)<(q:Int))=false:=decide_eq_false hq1;clear hq hq1;have g2:=sub_lt h5 hq2;clear hln;go_in;go_wp2
  go_quiet (fail)
  go_wp2
  go_ret3
  exact FirstAns.no (HF0.out.trans HF.out) (by first | rfl | simp) _
 have:=hn2 (fun h=>by
  rcases h with h | h | h
  ·exact h5 h
  ·exact h0 h
  exact hq h)
 have HF:=Lib.hid this;have g1:decide ((4194304:Int)<(q:Int))=false:=decide_eq_false (fun h=>hq (.inl ((uO q).1 h)));have hq2:¬n-5<q:=fun h=>hq (.inr h);clear this hn1 hn2 h0 hq;obtain⟨g2,i0,i1,i2⟩:=IW h5 hq2 hle;clear hln;by_cases hq0:cap=5
 ·obtain rfl:q=0:=by omega
  obtain rfl:n=5:=by omega
  subst hq0;go_in;go_wp2
  go_quiet (fail)
  go_wp2
  go_quiet (fail)
  go_wp2
  go_ret3
  refine FirstAns.yes0 (a:=⟨b,off,none⟩) hr HX.out (HF0.out.trans HF.out) (by omega) (by rfl) (by first | exact below_drewN (Below.refl _ _) _ | exact below_drewN (below_drewN (Below.refl _ _) _) _)
 have i3:(0:Int)<(cap:Int)-5:=by omega
 go_in;go_wp2
 go_quiet (fail)
 go_wp2;have wq:=LP hn i1
 go_quiet (fail)
 go_wp2
 go_ret3
 have e5:5+q-5=q:=by omega
 refine FirstAns.yes (q:=q) (c:=cap-5) (ao:=some ⟨b,off+5,none⟩) hr HX.out (HF0.out.trans HF.out) (by omega) (by omega) (by omega) (.inl rfl) ?_ (by first | exact below_drewN (Below.refl _ _) _ | exact below_drewN (below_drewN (Below.refl _ _) _) _);show Ending.returned (.tuple #[.int .u8 (x0:Int),.slice (some ⟨b,off+5,none⟩) (5+q-5) (cap-5),.int .i64 (5+(q:Int))])=_;rw[e5]
theorem byT:SliceT Tryz.prog 34 5 (.int .u8 0) 1 1:=⟨Tryz.underlying34,by kernel_rfl,rfl,by decide⟩
theorem Pz (a:Addr)(n cap:Nat)(w:World):Sem.run Tryz.prog (binOp BinOp.eql 34 (.slice (some a) n cap) (.slice none 0 0)) w=.ok (.bool false) w:=by kernel_rfl
theorem OB (n cap:Nat)(w:World):Sem.run Tryz.prog (binOp BinOp.eql 34 (.slice none n cap) (.slice none 0 0)) w=.ok (.bool true) w:=by kernel_rfl
def Gs (w:World)(l:List UInt8)(e:Ending)(w':World):Prop:=∃ao cap,e=.returned (.slice ao l.length cap)/\Rd w' 1 ao l.length cap (byV l)/\Below w.heap.size w w'/\(ao=none\/∃b,w.heap.size<=b/\ao=some ⟨b,0,none⟩)
def kz (w:World)(l:List UInt8)(e:Ending)(w':World):Prop:=∃v,e=.returned v/\w'.ownsRow w.heap.size 5 1 v l.length (byV l)/\Below w.heap.size w w'
theorem KH {w:World}{l:List UInt8}{e:Ending}{w1:World}(h:kz w l e w1):Gs w l e w1:=by
 obtain⟨v,rfl,ho,hb⟩:=h;obtain⟨ao,cap,rfl,hr⟩:=Rd.of_own ho;refine⟨ao,cap,rfl,hr,hb,?_⟩;rcases ho.2 with ⟨h,_⟩ | ⟨g,c,cur,h,hg,_⟩
 ·exact .inl (Value.slice.inj h).1
 exact .inr ⟨g,hg,(Value.slice.inj h).1⟩
theorem GI {w w1:World}{l:List UInt8}{n:Nat}{ao:Option Addr}{cap:Nat}(hl:l.length=n)(ho:w1.ownsRow w.heap.size 5 1 (.slice ao (0+n) cap) (0+n) (byV []++byV l))(hb:Below w.heap.size w w1):kz w l (.returned (.slice ao n cap)) w1:=by
 subst hl;rw[Nat.zero_add] at ho;exact⟨_,rfl,ho,hb⟩
theorem uu (ao:Option Addr)(n cap:Nat)(l:List UInt8)(w:World)(hr:Rd w 1 ao n cap (byV l))(hn:n<=1000000000) :
  Calls Tryz.prog 98 #[.slice ao n cap] w (kz w l):=by
 have ll:l.length=n:=by have:=hr.1;rw[aS] at this;omega
 cases ao with
 | none=>
  have hc:=hr.2.2.2.1 rfl;obtain⟨h0,hx⟩:=hr.empty hc;subst hc;subst h0;have hl:l=[]:=List.eq_nil_of_length_eq_zero ll;subst hl;have hn0:=OB 0 0 w;go_in;go_wp2;go_ret;exact⟨_,rfl,World.ownsRow_nil _ _ _ _,Below.refl _ _⟩
 | some a=>
  have hn0:=Pz a n cap w;go_in;have ho0:(w.alloc (.cells #[] 5)).ownsRow w.heap.size 5 1 (.slice (some ⟨w.heap.size,0,none⟩) 0 0) 0 (byV []):=by
   refine⟨rfl,.inr ⟨w.heap.size,0,#[],rfl,?_⟩⟩;exact⟨Nat.le_refl _,(by show (w.heap.push _)[w.heap.size]?=some _;simp),Nat.le_refl _,Nat.zero_le _,rfl,rfl⟩
  go_wp2_with (at_builtin;refine gz _ rfl (.tmp 5) (.tmp 6) 34 rfl w.heap.size 5 (.int .u8 0) 1 1 byT _ 0 (byV []) rfl ho0 (some a) n cap (byV l) rfl (hr.later ((Below.refl _ w).alloc (Nat.le_refl _) _)) (eP _) (by unfold maxLen;omega) (by omega) (by simp) ?_;intro ao' cap' w1 ho1 _ hb1 _);go_ret;exact GI ll ho1 (((Below.refl _ w).alloc (Nat.le_refl _) _).trans hb1)
theorem clone_any (ao:Option Addr)(n cap:Nat)(l:List UInt8)(w:World)(hr:Rd w 1 ao n cap (byV l))(hn:n<=1000000000) :
  Calls Tryz.prog 98 #[.slice ao n cap] w (Gs w l):=(uu ao n cap l w hr hn).mono fun _ _ h=>KH h
end Go.Proofs.YtfmmandlmbcncaaGreatDoor.Tlv
namespace Go.Proofs.YtfmmandlmbcncaaGreatDoor.Msg
open Go.RowKit Mem
def txV (l:List ByteArray):List Value:=l.map Value.string
theorem iZ (l:List ByteArray):(txV l).length=l.length:=by simp[txV]
def atV (l:List (ByteArray×ByteArray)):List Value:=l.flatMap fun x=>[.string x.1,.string x.2]
theorem fE (l:List (ByteArray×ByteArray)):(atV l).length=l.length*2:=by
 induction l with
 | nil=>rfl
 | cons x l ih=>simp only[atV,List.flatMap_cons,List.length_append,List.length_cons,List.length_nil] at ih ⊢;omega
theorem jE (l:List (ByteArray×ByteArray))(k:Nat)(y:ByteArray×ByteArray)(h:l[k]?=some y):(atV l)[k*2]?=some (.string y.1)/\(atV l)[k*2+1]?=some (.string y.2):=by
 induction l generalizing k with
 | nil=>simp at h
 | cons z xs ih=>
  cases k with
  | zero=>rw[List.getElem?_cons_zero,Option.some.injEq] at h;subst h;exact⟨rfl,rfl⟩
  | succ k=>
   rw[List.getElem?_cons_succ] at h;obtain⟨h1,h2⟩:=ih k h;simp only[atV,List.flatMap_cons,List.cons_append,List.nil_append] at h1 h2 ⊢;rw[show (k+1)*2=k*2+1+1 by omega];simp only[List.getElem?_cons_succ];exact⟨h1,h2⟩
theorem pW (l:List ByteArray)(k:Nat)(y:ByteArray)(h:l[k]?=some y):(txV l)[k]?=some (.string y):=by simp[txV,h]
theorem fQ (l:List UInt8)(k:Nat)(y:UInt8)(h:l[k]?=some y):(byV l)[k]?=some (.int .u8 (y.toNat:Int)):=by simp[byV,h]
def aY (b:Bool)(w:World)(e:Ending)(w':World):Prop:=e=.returned (.bool b)/\Below w.heap.size w w'
theorem nD {α:Type}[DecidableEq α](x y:List α)(k:Nat)(a b:α)(ht:x.take k=y.take k)(ha:x[k]?=some a)(hb:y[k]?=some b)(h:a=b):x.take (k+1)=y.take (k+1):=by
 subst h;obtain⟨h1,e1⟩:=List.getElem?_eq_some_iff.1 ha;obtain⟨h2,e2⟩:=List.getElem?_eq_some_iff.1 hb;rw[List.take_succ_eq_append_getElem h1,List.take_succ_eq_append_getElem h2,ht,e1,e2]
theorem uK {α:Type}[DecidableEq α](x y:List α)(k:Nat)(a b:α)(ha:x[k]?=some a)(hb:y[k]?=some b)(h:a≠b):decide (x=y)=false:=by
 apply decide_eq_false;rintro rfl;rw[ha] at hb;exact h (Option.some.inj hb)
theorem zI {a b:ByteArray}(h:a.toList=b.toList):a=b:=by
 rw[ByteArray.toList_eq,ByteArray.toList_eq] at h;exact ByteArray.ext (Array.toList_inj.1 h)
theorem P8 {a b:ByteArray}:a.toList=b.toList↔a=b:=⟨zI,fun h=>by rw[h]⟩
theorem uQ (a:ByteArray):(a.toList==a.toList)=true:=by simp
theorem lw {a b:ByteArray}(h:a≠b):(a.toList==b.toList)=false:=beq_eq_false_iff_ne.2 (fun e=>h (zI e))
theorem yB (x y:ByteArray×ByteArray)(w:World):Sem.run Tryz.prog (binOp .neq 106 (.agg #[.string x.1,.string x.2]) (.agg #[.string y.1,.string y.2])) w=.ok (.bool (!decide (x=y))) w:=by
 have u3:=Tryz.underlying9;have a3:=Tryz.isAgg9;have z3:=Tryz.sizeOf9;have hS:Tryz.prog.underlying 106=some (.struct (Tryz.prog.fieldsOf 106)):=by kernel_rfl
 have hp:Tryz.prog.stoodInHeld 106=false:=by kernel_rfl
 rw[run_neq_struct,show (10000:Nat)=9999+1 from rfl,run_equalIn_agg w 9999 106 _ _ hS hp];simp only[Program.fieldsOf,Tryz.underlying106];go_simp;by_cases h1:x.1=y.1<;>by_cases h2:x.2=y.2<;>simp[h1,h2,P8,Prod.ext_iff]
theorem tH {α:Type}[DecidableEq α](x y:List α)(h:x.length≠y.length):decide (x=y)=false:=decide_eq_false (fun e=>h (by rw[e]))
theorem GV (ao bo:Option Addr)(n m cap cbp:Nat)(x y:List ByteArray)(w:World)(hx:Rd w 1 ao n cap (txV x))(hy:Rd w 1 bo m cbp (txV y))(hn:n<=1000000000) :
  Calls Tryz.prog 120 #[.slice ao n cap,.slice bo m cbp] w (aY (decide (x=y)) w):=by
 have lx:x.length=n:=by have:=hx.1;rw[iZ] at this;omega
 have ly:y.length=m:=by have:=hy.1;rw[iZ] at this;omega
 by_cases hnm:n=m
 ·subst hnm;have LX:=Lib.hid lx;have LY:=Lib.hid ly;clear lx ly;go_in;go_wp2_with fail;go_loopw [13] (fun p wr=>∃k:Nat,k<=n/\p=.int .i64 (k:Int)/\Hid (x.take k=y.take k)/\Below w.heap.size w wr) (fun p _=>n-(intOf p).toNat)
  case atStart=>exact⟨0,by omega,rfl,Lib.hid (by simp),Below.refl _ _⟩
  case round=>
   obtain⟨k,hk,rfl,Ht,hbr⟩:=hrel;by_cases hkn:k<n
   ·obtain⟨b1,o1,rfl,hl1,hc1⟩:=hx.some (by have:=hx.le;omega);obtain⟨b2,o2,rfl,hl2,hc2⟩:=hy.some (by have:=hy.le;omega);obtain⟨u,hu⟩:∃u,x[k]?=some u:=⟨_,List.getElem?_eq_getElem (by rw[LX.out];exact hkn)⟩
    obtain⟨v,hv⟩:∃v,y[k]?=some v:=⟨_,List.getElem?_eq_getElem (by rw[LY.out];exact hkn)⟩
    have c1:=(hbr.cell (p:=⟨b1,o1+k,none⟩) hl1).trans (hc1 k _ (pW x k u hu));have c2:=(hbr.cell (p:=⟨b2,o2+k,none⟩) hl2).trans (hc2 k _ (pW y k v hv));have i0:(0:Int)<=(k:Int):=by omega
    have i1:(k:Int)<(n:Int):=by omega
    by_cases huv:u=v
    ·have Hs:=Lib.hid (nD x y k u v Ht.out hu hv huv);subst huv;have f1:=uQ u;go_wp2_with fail
     go_quiet (fail)
     go_wp2;go_roundw
     case rel=>exact⟨k+1,by omega,by go_num,Hs,below_drewN hbr _⟩
     case measure=>simp[intOf];omega
    have Hs:=Lib.hid (uK x y k u v hu hv huv);have f1:=lw huv;go_wp2_with fail
    go_quiet (fail)
    go_wp2;go_ret;exact⟨by rw[Hs.out];rfl,below_drewN hbr _⟩
   have hkn2:k=n:=by omega
   have Hs:Hid (decide (x=y)=true):=Lib.hid (decide_eq_true (by have:=Ht.out;rw[List.take_of_length_le (by rw[LX.out];omega),List.take_of_length_le (by rw[LY.out];omega)] at this;exact this));subst hkn2;go_wp2_with fail;go_ret;exact⟨by rw[Hs.out];rfl,hbr⟩
 have f1:((n:Int)==(m:Int))=false:=by simp;omega
 have f2:((n:Int) != (m:Int))=true:=by simp;omega
 have Hs:=Lib.hid (tH x y (by omega));clear hnm lx ly;go_in;go_wp2_with fail;go_ret;exact⟨by rw[Hs.out];rfl,Below.refl _ _⟩
theorem sW (ao bo:Option Addr)(n m cap cbp:Nat)(x y:List UInt8)(w:World)(hx:Rd w 1 ao n cap (byV x))(hy:Rd w 1 bo m cbp (byV y))(hn:n<=1000000000) :
  Calls Tryz.prog 121 #[.slice ao n cap,.slice bo m cbp] w (aY (decide (x=y)) w):=by
 have lx:x.length=n:=by have:=hx.1;rw[aS] at this;omega
 have ly:y.length=m:=by have:=hy.1;rw[aS] at this;omega
 by_cases hnm:n=m
 ·subst hnm;have LX:=Lib.hid lx;have LY:=Lib.hid ly;clear lx ly;go_in;go_wp2_with fail;go_loopw [13] (fun p wr=>∃k:Nat,k<=n/\p=.int .i64 (k:Int)/\Hid (x.take k=y.take k)/\Below w.heap.size w wr) (fun p _=>n-(intOf p).toNat)
  case atStart=>exact⟨0,by omega,rfl,Lib.hid (by simp),Below.refl _ _⟩
  case round=>
   obtain⟨k,hk,rfl,Ht,hbr⟩:=hrel;by_cases hkn:k<n
   ·obtain⟨b1,o1,rfl,hl1,hc1⟩:=hx.some (by have:=hx.le;omega);obtain⟨b2,o2,rfl,hl2,hc2⟩:=hy.some (by have:=hy.le;omega);obtain⟨u,hu⟩:∃u,x[k]?=some u:=⟨_,List.getElem?_eq_getElem (by rw[LX.out];exact hkn)⟩
    obtain⟨v,hv⟩:∃v,y[k]?=some v:=⟨_,List.getElem?_eq_getElem (by rw[LY.out];exact hkn)⟩
    have c1:=(hbr.cell (p:=⟨b1,o1+k,none⟩) hl1).trans (hc1 k _ (fQ x k u hu));have c2:=(hbr.cell (p:=⟨b2,o2+k,none⟩) hl2).trans (hc2 k _ (fQ y k v hv));have i0:(0:Int)<=(k:Int):=by omega
    have i1:(k:Int)<(n:Int):=by omega
    by_cases huv:u=v
    ·have Hs:=Lib.hid (nD x y k u v Ht.out hu hv huv);subst huv;have f1:((u.toNat:Int) != (u.toNat:Int))=false:=by simp
     go_wp2_with fail
     go_quiet (fail)
     go_wp2;go_roundw
     case rel=>exact⟨k+1,by omega,by go_num,Hs,below_drewN hbr _⟩
     case measure=>simp[intOf];omega
    have Hs:=Lib.hid (uK x y k u v hu hv huv);have f1:((u.toNat:Int) != (v.toNat:Int))=true:=by simp only[bne_iff_ne,ne_eq];exact fun h=>huv (UInt8.toNat_inj.1 (Int.ofNat.inj h))
    go_wp2_with fail
    go_quiet (fail)
    go_wp2;go_ret;exact⟨by rw[Hs.out];rfl,below_drewN hbr _⟩
   have hkn2:k=n:=by omega
   have Hs:Hid (decide (x=y)=true):=Lib.hid (decide_eq_true (by have:=Ht.out;rw[List.take_of_length_le (by rw[LX.out];omega),List.take_of_length_le (by rw[LY.out];omega)] at this;exact this));subst hkn2;go_wp2_with fail;go_ret;exact⟨by rw[Hs.out];rfl,hbr⟩
 have f1:((n:Int)==(m:Int))=false:=by simp;omega
 have f2:((n:Int) != (m:Int))=true:=by simp;omega
 have Hs:=Lib.hid (tH x y (by omega));clear hnm lx ly;go_in;go_wp2_with fail;go_ret;exact⟨by rw[Hs.out];rfl,Below.refl _ _⟩
theorem zA (ao bo:Option Addr)(n m cap cbp:Nat)(x y:List (ByteArray×ByteArray))(w:World)(hx:Rd w 2 ao n cap (atV x))(hy:Rd w 2 bo m cbp (atV y))(hn:n<=9223372036854775807) :
  Calls Tryz.prog 119 #[.slice ao n cap,.slice bo m cbp] w (aY (decide (x=y)) w):=by
 have lx:x.length=n:=by have:=hx.1;rw[fE] at this;omega
 have ly:y.length=m:=by have:=hy.1;rw[fE] at this;omega
 by_cases hnm:n=m
 ·subst hnm;have LX:=Lib.hid lx;have LY:=Lib.hid ly;clear lx ly;go_in;go_wp2_with fail;go_loopw [13] (fun p wr=>∃k:Nat,k<=n/\p=.int .i64 (k:Int)/\Hid (x.take k=y.take k)/\Below w.heap.size w wr) (fun p _=>n-(intOf p).toNat)
  case atStart=>exact⟨0,by omega,rfl,Lib.hid (by simp),Below.refl _ _⟩
  case round=>
   obtain⟨k,hk,rfl,Ht,hbr⟩:=hrel;by_cases hkn:k<n
   ·obtain⟨b1,o1,rfl,hl1,hc1⟩:=hx.some (by have:=hx.le;omega);obtain⟨b2,o2,rfl,hl2,hc2⟩:=hy.some (by have:=hy.le;omega);obtain⟨u,hu⟩:∃u,x[k]?=some u:=⟨_,List.getElem?_eq_getElem (by rw[LX.out];exact hkn)⟩
    obtain⟨v,hv⟩:∃v,y[k]?=some v:=⟨_,List.getElem?_eq_getElem (by rw[LY.out];exact hkn)⟩
    obtain⟨v1,v2⟩:=jE x k u hu;obtain⟨v3,v4⟩:=jE y k v hv;have c1:=(hbr.cell (p:=⟨b1,o1+k*2,none⟩) hl1).trans (hc1 (k*2) _ v1);have c2:wr.cell? ⟨b1,o1+k*2+1,none⟩=_:=(hbr.cell (p:=⟨b1,o1+(k*2+1),none⟩) hl1).trans (hc1 (k*2+1) _ v2);have c3:=(hbr.cell (p:=⟨b2,o2+k*2,none⟩) hl2).trans (hc2 (k*2) _ v3);have c4:wr.cell? ⟨b2,o2+k*2+1,none⟩=_:=(hbr.cell (p:=⟨b2,o2+(k*2+1),none⟩) hl2).trans (hc2 (k*2+1) _ v4);clear v1 v2 v3 v4;have i0:(0:Int)<=(k:Int):=by omega
    have i1:(k:Int)<(n:Int):=by omega
    by_cases huv:u=v
    ·have Hs:=Lib.hid (nD x y k u v Ht.out hu hv huv);subst huv;have f1:=yB u u;have f2:(!decide (u=u))=false:=by simp
     go_wp2_with fail
     go_quiet (fail)
     go_wp2;go_roundw
     case rel=>exact⟨k+1,by omega,by go_num,Hs,below_drewN hbr _⟩
     case measure=>simp[intOf];omega
    have Hs:=Lib.hid (uK x y k u v hu hv huv);have f1:=yB u v;have f2:(!decide (u=v))=true:=by simp[huv]
    go_wp2_with fail
    go_quiet (fail)
    go_wp2;go_ret;exact⟨by rw[Hs.out];rfl,below_drewN hbr _⟩
   have hkn2:k=n:=by omega
   have Hs:Hid (decide (x=y)=true):=Lib.hid (decide_eq_true (by have:=Ht.out;rw[List.take_of_length_le (by rw[LX.out];omega),List.take_of_length_le (by rw[LY.out];omega)] at this;exact this));subst hkn2;go_wp2_with fail;go_ret;exact⟨by rw[Hs.out];rfl,hbr⟩
 have f1:((n:Int)==(m:Int))=false:=by simp;omega
 have f2:((n:Int) != (m:Int))=true:=by simp;omega
 have Hs:=Lib.hid (tH x y (by omega));clear hnm lx ly;go_in;go_wp2_with fail;go_ret;exact⟨by rw[Hs.out];rfl,Below.refl _ _⟩
structure OV where
 k:Int
 name:ByteArray
 «to»:ByteArray
 ao:Option Addr
 an:Nat
 ac:Nat
 bo:Option Addr
 bn:Nat
 bc:Nat
 co:Option Addr
 cn:Nat
 cc:Nat
 n:Int
structure OC where
 attrs:List (ByteArray×ByteArray)
 parts:List ByteArray
 cursor:List UInt8
def OV.val (v:OV):Value:=.agg #[.int .i64 v.k,.string v.name,.string v.to,.slice v.ao v.an v.ac,.slice v.bo v.bn v.bc,.slice v.co v.cn v.cc,.int .i64 v.n]
structure OpAt (W:World)(v:OV)(c:OC):Prop where
 a:Rd W 2 v.ao v.an v.ac (atV c.attrs)
 b:Rd W 1 v.bo v.bn v.bc (txV c.parts)
 c:Rd W 1 v.co v.cn v.cc (byV c.cursor)
 la:v.an<=1000000000
 lb:v.bn<=1000000000
 lc:v.cn<=1000000000
theorem OpAt.later {W W':World}{v:OV}{c:OC}(h:OpAt W v c)(hb:Below W.heap.size W W'):OpAt W' v c:=⟨h.a.later hb,h.b.later hb,h.c.later hb,h.la,h.lb,h.lc⟩
def bK (v:OV)(c:OC)(v':OV)(c':OC):Bool:=decide (v.k=v'.k/\v.name=v'.name/\v.to=v'.to/\c.attrs=c'.attrs/\c.parts=c'.parts/\c.cursor=c'.cursor/\v.n=v'.n)
theorem bU (w:World)(o p:Obj):Below w.heap.size w ((w.alloc o).alloc p):=((Below.refl _ w).alloc (Nat.le_refl _) _).alloc (by simp) _
def OV.box (v:OV):Obj:=.cells #[.int .i64 v.k,.string v.name,.string v.to,.slice v.ao v.an v.ac,.slice v.bo v.bn v.bc,.slice v.co v.cn v.cc,.int .i64 v.n] 36
theorem gQ {W:World}{B:Nat}{v:OV}(h:W.heap[B]?=some v.box):W.cell? ⟨B,3,none⟩=some (.slice v.ao v.an v.ac)/\W.cell? ⟨B,4,none⟩=some (.slice v.bo v.bn v.bc)/\W.cell? ⟨B,5,none⟩=some (.slice v.co v.cn v.cc)/\W.cell? ⟨B,6,none⟩=some (.int .i64 v.n):=by
 unfold OV.box at h;simp[World.cell?,h]
theorem bY (w:World)(o p:Obj):((w.alloc o).alloc p).heap[w.heap.size]?=some o/\((w.alloc o).alloc p).heap[w.heap.size+1]?=some p:=by
 constructor
 ·show ((w.heap.push o).push p)[w.heap.size]?=some o;simp[Array.getElem?_push]
 show ((w.heap.push o).push p)[w.heap.size+1]?=some p;rw[<-Array.size_push (xs:=w.heap) o];exact Array.getElem?_push_size
theorem nH {v v':OV}{c c':OC}(h:¬(v.k=v'.k/\v.name=v'.name/\v.to=v'.to/\c.attrs=c'.attrs/\c.parts=c'.parts/\c.cursor=c'.cursor/\v.n=v'.n)):bK v c v' c'=false:=decide_eq_false h
theorem KL {v v':OV}{c c':OC}(h:(v.k=v'.k/\v.name=v'.name/\v.to=v'.to/\c.attrs=c'.attrs/\c.parts=c'.parts/\c.cursor=c'.cursor/\v.n=v'.n)):bK v c v' c'=true:=decide_eq_true h
theorem xh (v v':OV)(c c':OC)(w:World)(h:OpAt w v c)(h':OpAt w v' c') :
  Calls Tryz.prog 76 #[v.val,v'.val] w (aY (bK v c v' c') w):=by
 have hb0:Below w.heap.size w ((w.alloc v.box).alloc v'.box):=bU w _ _;obtain⟨hx,hx'⟩:=bY w v.box v'.box;have ho:=h.later hb0;have ho':=h'.later hb0;have hz:((w.alloc v.box).alloc v'.box).heap.size=w.heap.size+1+1:=by simp
 have key:∀e1:v.k=v'.k,∀e2:v.name=v'.name,∀e3:v.to=v'.to,Hid (bK v c v' c'=decide (c.attrs=c'.attrs/\c.parts=c'.parts/\c.cursor=c'.cursor/\v.n=v'.n)):=fun e1 e2 e3=>Lib.hid (by simp[bK,e1,e2,e3]);unfold OV.box at hb0 hx hx' ho ho' hz;by_cases e1:v.k=v'.k
 ·have f1:(v.k==v'.k)=true:=by simp[e1]
  by_cases e2:v.name=v'.name
  ·have f2:(v.name.toList==v'.name.toList)=true:=by simp[e2]
   by_cases e3:v.to=v'.to
   ·have f3:(v.to.toList==v'.to.toList)=true:=by simp[e3]
    have Hk:=key e1 e2 e3;unfold OV.val;clear e1 e2 e3 key;go_in;go_wp2_with fail;refine (zA _ _ _ _ _ _ c.attrs c'.attrs _ ho.a ho'.a (Nat.le_trans ho.la (by decide))).mono ?_;rintro e w1 ⟨rfl,hb1⟩;have hb2:=hb0.trans (hb1.mono hb0.size);have k1:=(hb1.block w.heap.size (by rw[hz];omega)).trans hx;have k2:=(hb1.block (w.heap.size+1) (by rw[hz];omega)).trans hx';have q1:=ho.later hb1;have q1':=ho'.later hb1;obtain⟨-,c1,c2,c3⟩:=gQ (v:=v) k1;obtain⟨-,c4,c5,c6⟩:=gQ (v:=v') k2;have hz1:=hb1.size;rw[hz] at hz1;by_cases e4:c.attrs=c'.attrs
    ·rw[decide_eq_true e4];go_wp2_with fail;refine (GV _ _ _ _ _ _ c.parts c'.parts _ q1.b q1'.b q1.lb).mono ?_;rintro e w2 ⟨rfl,hb3⟩;have hb4:=hb2.trans (hb3.mono hb2.size);have k3:=(hb3.block w.heap.size (by omega)).trans k1;have k4:=(hb3.block (w.heap.size+1) (by omega)).trans k2;have q2:=q1.later hb3;have q2':=q1'.later hb3;clear c1 c2 c3 c4 c5 c6;obtain⟨-,-,c2,c3⟩:=gQ (v:=v) k3;obtain⟨-,-,c5,c6⟩:=gQ (v:=v') k4;have hz2:=hb3.size;by_cases e5:c.parts=c'.parts
     ·rw[decide_eq_true e5];go_wp2_with fail;refine (sW _ _ _ _ _ _ c.cursor c'.cursor _ q2.c q2'.c q2.lc).mono ?_;rintro e w3 ⟨rfl,hb5⟩;have hb6:=hb4.trans (hb5.mono hb4.size);have k5:=(hb5.block w.heap.size (by omega)).trans k3;have k6:=(hb5.block (w.heap.size+1) (by omega)).trans k4;clear c2 c3 c5 c6;obtain⟨-,-,-,c3⟩:=gQ (v:=v) k5;obtain⟨-,-,-,c6⟩:=gQ (v:=v') k6;by_cases e6:c.cursor=c'.cursor
      ·rw[decide_eq_true e6];by_cases e7:v.n=v'.n
       ·have f7:(v.n==v'.n)=true:=by simp[e7]
        have Hs:Hid (bK v c v' c'=true):=Lib.hid (by rw[Hk.out];simp[e4,e5,e6,e7]);clear e7;go_wp2_with fail;go_ret;exact⟨by rw[Hs.out];rfl,hb6⟩
       have f7:(v.n==v'.n)=false:=by simp[e7]
       have Hs:Hid (bK v c v' c'=false):=Lib.hid (by rw[Hk.out];simp[e7]);clear e7;go_wp2_with fail;go_ret;exact⟨by rw[Hs.out];rfl,hb6⟩
      rw[decide_eq_false e6];have Hs:Hid (bK v c v' c'=false):=Lib.hid (by rw[Hk.out];simp[e6]);go_wp2_with fail;go_ret;exact⟨by rw[Hs.out];rfl,hb6⟩
     rw[decide_eq_false e5];have Hs:Hid (bK v c v' c'=false):=Lib.hid (by rw[Hk.out];simp[e5]);go_wp2_with fail;go_ret;exact⟨by rw[Hs.out];rfl,hb4⟩
    rw[decide_eq_false e4];have Hs:Hid (bK v c v' c'=false):=Lib.hid (by rw[Hk.out];simp[e4]);go_wp2_with fail;go_ret;exact⟨by rw[Hs.out];rfl,hb2⟩
   have f3:(v.to.toList==v'.to.toList)=false:=lw e3;have Hs:=Lib.hid (nH (v:=v) (v':=v') (c:=c) (c':=c') (fun h=>e3 h.2.2.1));unfold OV.val;clear e1 e2 e3 key;go_in;go_wp2_with fail;go_ret;exact⟨by rw[Hs.out];rfl,hb0⟩
  have f2:(v.name.toList==v'.name.toList)=false:=lw e2;have Hs:=Lib.hid (nH (v:=v) (v':=v') (c:=c) (c':=c') (fun h=>e2 h.2.1));unfold OV.val;clear e1 e2 key;go_in;go_wp2_with fail;go_ret;exact⟨by rw[Hs.out];rfl,hb0⟩
 have f1:(v.k==v'.k)=false:=by simp[e1]
 have Hs:=Lib.hid (nH (v:=v) (v':=v') (c:=c) (c':=c') (fun h=>e1 h.1));unfold OV.val;clear e1 key;go_in;go_wp2_with fail;go_ret;exact⟨by rw[Hs.out];rfl,hb0⟩
end Go.Proofs.YtfmmandlmbcncaaGreatDoor.Msg
