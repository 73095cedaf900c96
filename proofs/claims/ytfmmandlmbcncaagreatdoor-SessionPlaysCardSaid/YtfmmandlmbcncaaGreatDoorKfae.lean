/-A part of the proof.-/
import Derived.Test.YtfmmandlmbcncaaGreatDoorKfab
set_option maxHeartbeats 40000000
set_option maxRecDepth 100000
set_option linter.all false
namespace Go.Proofs.YtfmmandlmbcncaaGreatDoor
namespace Tlv
variable{l:List UInt8}
def ln (l:List UInt8):Nat:=16777216*(l[1]?.getD 0).toNat+65536*(l[2]?.getD 0).toNat+256*(l[3]?.getD 0).toNat+(l[4]?.getD 0).toNat
def fs (l:List UInt8):Nat:=if l.length<5\/l[0]?.getD 0=0\/4194304<ln l\/l.length-5<ln l then 0 else 5+ln l
abbrev It:=UInt8×List UInt8
def hd1 (l:List UInt8):It:=(l[0]?.getD 0,(l.drop 5).take (fs l-5))
theorem lq(l:List UInt8):fs l<=l.length:=by unfold fs;split<;>omega
theorem iH(l:List UInt8)(h:fs l≠0):5<=fs l:=by unfold fs at *;split<;>simp_all<;>omega
theorem pK(l:List UInt8)(h:fs l≠0):5+(hd1 l).2.length=fs l:=by
 have h1:=lq l;have h2:=iH l h;simp only[hd1,yaV,yaM];omega
theorem zq(h:l.length<5\/l[0]?.getD 0=0\/4194304<ln l\/l.length-5<ln l):fs l=0:=if_pos h
theorem zh(h:¬(l.length<5\/l[0]?.getD 0=0\/4194304<ln l\/l.length-5<ln l)):fs l=5+ln l:=if_neg h
def eG:Nat->List UInt8->List It
 | 0,_=>[]
 | k+1,l=>if fs l=0 then [] else hd1 l::eG k (l.drop (fs l))
def its (l:List UInt8):List It:=eG l.length l
def ip:List It->Nat->Nat
 | [],_=>0
 | _,0=>0
 | x::rs,k+1=>5+x.2.length+ip rs k
theorem pI(rs:List It):ip rs 0=0:=by cases rs<;>rfl
theorem Pi(f:Nat):∀(l:List UInt8),l.length<=f->∀k,k<(eG f l).length ->
  (eG f l)[k]?.getD (0,[])=hd1 (l.drop (ip (eG f l) k))/\fs (l.drop (ip (eG f l) k))≠0 /\
   ip (eG f l) (k+1)=ip (eG f l) k+fs (l.drop (ip (eG f l) k))/\ip (eG f l) (k+1)<=l.length:=by
 induction f with
 | zero=>intro l _ k hk;simp[eG] at hk
 | succ f ih=>
  intro l hl k hk;by_cases h0:fs l=0
  ·simp[eG,h0] at hk
  have hd:=pK l h0;have h5:=iH l h0;have hle:=lq l;simp only[eG,if_neg h0] at hk ⊢;cases k with
  | zero=>
   refine⟨by simp[ip],by simpa [ip] using h0,?_,?_⟩
   ·simp[ip,pI];omega
   simp[ip,pI];omega
  | succ k=>
   obtain⟨h1,h2,h3,h4⟩:=ih (l.drop (fs l)) (by rw[yaM];omega) k (by simpa using hk);rw[yaM] at h4;have e:l.drop (5+(hd1 l).2.length+ip (eG f (l.drop (fs l))) k)=(l.drop (fs l)).drop (ip (eG f (l.drop (fs l))) k):=by rw[ycm,hd]
   simp only[ip,ybd,e];exact⟨h1,h2,by omega,by omega⟩
theorem Ja(f:Nat):∀(l:List UInt8),l.length<=f->fs (l.drop (ip (eG f l) (eG f l).length))=0/\ip (eG f l) (eG f l).length<=l.length:=by
 induction f with
 | zero=>
  intro l hl;have:l=[]:=yat (by omega);subst this;exact⟨by decide,yag _⟩
 | succ f ih=>
  intro l hl;by_cases h0:fs l=0
  ·simp[eG,h0,ip]
  have hd:=pK l h0;have h5:=iH l h0;have hle:=lq l;obtain⟨h1,h2⟩:=ih (l.drop (fs l)) (by rw[yaM];omega);rw[yaM] at h2;simp only[eG,if_neg h0,yaF,ip];rw[<-ycm,hd];exact⟨h1,by omega⟩
theorem DK(l:List UInt8)(k:Nat)(hk:k<(its l).length):(its l)[k]?.getD (0,[])=hd1 (l.drop (ip (its l) k))/\fs (l.drop (ip (its l) k))≠0 /\
   ip (its l) (k+1)=ip (its l) k+fs (l.drop (ip (its l) k))/\ip (its l) (k+1)<=l.length:=Pi _ l (yag _) k hk
theorem yx(l:List UInt8):fs (l.drop (ip (its l) (its l).length))=0/\ip (its l) (its l).length<=l.length:=Ja _ l (yag _)
theorem Om(f:Nat):∀(l:List UInt8),(eG f l).length*5<=l.length:=by
 induction f with
 | zero=>intro l;simp[eG]
 | succ f ih=>
  intro l;by_cases h0:fs l=0
  ·simp[eG,h0]
  have h5:=iH l h0;have hle:=lq l;have:=ih (l.drop (fs l));rw[yaM] at this;simp only[eG,if_neg h0,yaF];omega
theorem zQ(l:List UInt8):(its l).length*5<=l.length:=Om _ l
end Tlv
namespace Tlv
open Go.RowKit Mem
variable{ao:Option Addr}{b cap n off q x0:Nat}{e:Ending}{l:List UInt8}{w w' w1:World}
theorem iG(l:List UInt8)(k:Nat)(h:k<l.length):(byV l)[k]?=some (.int .u8 ((l[k]?.getD 0).toNat:Int)):=by
 simp[byV,ybh,yac h]
theorem gG(n:Int)(h₀:0<=n)(h₁:n<2 ^ 63):IntKind.i64.wrap n=n:=by rw[yaP];omega
theorem wV(q:Nat):(4194304:Int)<(q:Int)↔4194304<q:=by omega
theorem OJ(hn:n<=1000000000)(h:(5:Int)+q<=n):IntKind.i64.wrap (5+(q:Int))=5+(q:Int):=by rw[yaP];omega
theorem sub_lt(h5:¬n<5)(h:n-5<q):decide ((n:Int)-5<(q:Int))=true:=yaa (by omega)
theorem Kt(h5:¬n<5)(h:¬n-5<q)(hc:n<=cap):decide ((n:Int)-5<(q:Int))=false/\(0:Int)<=q/\(5:Int)+q<=n/\(5:Int)+q<=cap:=⟨yad (by omega),by omega,by omega,by omega⟩
theorem MF(h:Rd w 1 (some ⟨b,off,none⟩) n cap (byV l))(a m c:Nat)(hm:a+m<=n)(hc:m<=c)(hc2:a+c<=cap) :
  Rd w 1 (some ⟨b,off+a,none⟩) m c (byV ((l.drop a).take m)):=by
 obtain⟨h1,h2,h3,h4,h5⟩:=h;rw[aV] at h1;refine⟨by rw[aV,yaV,yaM];omega,hc,by omega,(fun h=>by cases h),fun h0 a' ha=>?_⟩;cases ha;obtain⟨s,lt,cc⟩:=h5 (by omega) _ rfl;refine⟨rfl,lt,fun j u hu=>?_⟩;dsimp only at cc ⊢;rw[show off+a+j=off+(a+j) by omega];refine cc (a+j) u ?_;unfold byV at hu ⊢;rw[ybh] at hu ⊢;rw[ycq] at hu;split at hu
 ·rwa [yca] at hu
 simp at hu
theorem FK(w:World)(a:Addr):Rd w 1 (some a) 0 0 (byV []):=⟨rfl,yag _,yam _,(fun _=>rfl),fun h=>absurd h (yaw 0)⟩
def FirstAns (w:World)(ao0:Option Addr)(l:List UInt8)(e:Ending)(w':World):Prop:=Below w.heap.size w w' /\
 ((fs l=0/\e=.returned (.tuple #[.int .u8 0,.slice none 0 0,.int .i64 0])) \/
 (fs l≠0/\∃ao cap,e=.returned (.tuple #[.int .u8 ((hd1 l).1.toNat:Int),.slice ao (hd1 l).2.length cap,.int .i64 (fs l:Int)])/\Rd w' 1 ao (hd1 l).2.length cap (byV (hd1 l).2)/\(0<cap->∀a,ao=some a->∃a0,ao0=some a0/\a.block=a0.block)))
theorem FirstAns.no{ao0:Option Addr}(h:fs l=0)(he:e=.returned (.tuple #[.int .u8 0,.slice none 0 0,.int .i64 0]))(q:Nat):FirstAns w ao0 l e (w.drewN q):=
 ⟨below_drewN (yaj _ _) _,.inl ⟨h,he⟩⟩
theorem FirstAns.yes{c:Nat}(hr:Rd w 1 (some ⟨b,off,none⟩) n cap (byV l))(hx:(l[0]?.getD 0).toNat=x0)(hf:fs l=5+q)(hq:5+q<=n)(hc:q<=c)(hc2:5+c<=cap)
  (hao:ao=some ⟨b,off+5,none⟩\/(q=0/\c=0/\∃a,ao=some a)) (he:e=.returned (.tuple #[.int .u8 (x0:Int),.slice ao q c,.int .i64 (5+(q:Int))]))  (hb:Below w.heap.size w w'):FirstAns w (some ⟨b,off,none⟩) l e w':=by
 have hl:l.length=n:=by have:=hr.1;rw[aV] at this;omega
 have h2:(hd1 l).2=(l.drop 5).take q:=by simp only[hd1,hf];congr 1;omega
 have h3:(hd1 l).2.length=q:=by rw[h2,yaV,yaM];omega
 refine⟨hb,.inr ⟨by omega,ao,c,?_,?_,fun h0 a ha=>?_⟩⟩
 ·rw[he,h3,hf,<-hx];rfl
 ·rw[h3,h2];refine Rd.later (w:=w) ?_ hb;rcases hao with rfl | ⟨rfl,rfl,a,rfl⟩
  ·exact MF hr 5 q c hq hc hc2
  exact FK _ _
 rcases hao with rfl | ⟨rfl,rfl,a,rfl⟩
 ·cases ha;exact⟨_,rfl,rfl⟩
 exact absurd h0 (yaw 0)
theorem FirstAns.yes0{a:Addr}(hr:Rd w 1 (some ⟨b,off,none⟩) n cap (byV l))(hx:(l[0]?.getD 0).toNat=x0)(hf:fs l=5+0)(hq:5<=n)
  (he:e=.returned (.tuple #[.int .u8 (x0:Int),.slice (some a) 0 0,.int .i64 5]))  (hb:Below w.heap.size w w'):FirstAns w (some ⟨b,off,none⟩) l e w':=
 FirstAns.yes (q:=0) (c:=0) hr hx hf (by omega) (by omega) (by have:=hr.le;omega) (.inr ⟨rfl,rfl,_,rfl⟩) he hb
theorem first_any(ao:Option Addr)(n cap:Nat)(l:List UInt8)(w:World)(hr:Rd w 1 ao n cap (byV l))(hn:n<=1000000000) :
  Calls Tryz.prog 151 #[.slice ao n cap] w (FirstAns w ao l):=by
 have ll:l.length=n:=by have:=hr.1;rw[aV] at this;omega
 by_cases h5:n<5
 ·have hf:=zq (l:=l) (.inl (by omega));go_in;go_wp2
  go_ret3
  exact FirstAns.no hf (by first | rfl | simp) 0
 obtain⟨b,off,e1,hlt,hc⟩:=hr.some (by have:=hr.le;omega);subst e1;have c0:w.cell? ⟨b,off,none⟩=_:=hc 0 _ (iG l 0 (by omega));have c1:=hc 1 _ (iG l 1 (by omega));have c2:=hc 2 _ (iG l 2 (by omega));have c3:=hc 3 _ (iG l 3 (by omega));have c4:=hc 4 _ (iG l 4 (by omega));have hle:=hr.le;have hcap:=hr.2.2.1;unfold maxLen at hcap;have b1:(l[1]?.getD 0).toNat<256:=ybo _;have b2:(l[2]?.getD 0).toNat<256:=ybo _;have b3:(l[3]?.getD 0).toNat<256:=ybo _;have b4:(l[4]?.getD 0).toNat<256:=ybo _;have hln:ln l=16777216*(l[1]?.getD 0).toNat+65536*(l[2]?.getD 0).toNat+256*(l[3]?.getD 0).toNat+(l[4]?.getD 0).toNat:=rfl;have hx0:l[0]?.getD 0=0↔(l[0]?.getD 0).toNat=0:=by rw[<-ybw];rfl
 have hn1:=zq (l:=l);have hn2:=zh (l:=l);rw[ll] at hn1 hn2;have b0:(l[0]?.getD 0).toNat<256:=ybo _;rw[hx0] at hn1 hn2;generalize hX:(l[0]?.getD 0).toNat=x0 at *;have HX:=Lib.hid hX;clear hX;generalize (l[1]?.getD 0).toNat=x1 at *;generalize (l[2]?.getD 0).toNat=x2 at *;generalize (l[3]?.getD 0).toNat=x3 at *;generalize (l[4]?.getD 0).toNat=x4 at *;clear ll hx0;generalize hF:fs l=f at *;have HF0:=Lib.hid hF;clear hF;generalize ln l=q at *;by_cases h0:x0=0
 ·have:=hn1 (.inr (.inl h0));have HF:=Lib.hid this;clear this hn1 hn2;have f1:((x0:Int)==0)=true:=by simp[h0]
  clear h0;go_in;go_wp2
  go_ret3
  exact FirstAns.no (HF0.out.trans HF.out) (by first | rfl | simp) 0
 have f1:((x0:Int)==0)=false:=by simp[h0]
 have f5:decide ((n:Int)<5)=false:=by simp;omega
 have j1:bits BinOp.or IntKind.i64 ((x1:Int)*16777216) ((x2:Int)*65536)=(x1:Int)*16777216+(x2:Int)*65536:=bits_join .i64 63 (by decide) gG 24 _ _ (by omega) (by omega) (by omega) (by omega) (by omega) (by omega);have j2:bits BinOp.or IntKind.i64 ((x1:Int)*16777216+(x2:Int)*65536) ((x3:Int)*256)=(x1:Int)*16777216+(x2:Int)*65536+(x3:Int)*256:=bits_join .i64 63 (by decide) gG 16 _ _ (by omega) (by omega) (by omega) (by omega) (by omega) (by omega);have j3:bits BinOp.or IntKind.i64 ((x1:Int)*16777216+(x2:Int)*65536+(x3:Int)*256) (x4:Int)=(q:Int):=by
  rw[show (q:Int)=(x1:Int)*16777216+(x2:Int)*65536+(x3:Int)*256+(x4:Int) by omega];exact bits_join .i64 63 (by decide) gG 8 _ _ (by omega) (by omega) (by omega) (by omega) (by omega) (by omega)
 by_cases hq:4194304<q\/n-5<q
 ·have:=hn1 (.inr (.inr hq));have HF:=Lib.hid this;clear this hn1 hn2 h0;by_cases hq1:(4194304:Int)<(q:Int)
  ·have g1:decide ((4194304:Int)<(q:Int))=true:=yaa hq1;clear hln;go_in;go_wp2
   go_quiet (fail)
   go_wp2
   go_ret3
   exact FirstAns.no (HF0.out.trans HF.out) (by first | rfl | simp) _
  have hq2:n-5<q:=hq.resolve_left (fun h=>hq1 ((wV q).2 h));have g1:decide ((4194304:Int)<(q:Int))=false:=yad hq1;clear hq hq1;have g2:=sub_lt h5 hq2;clear hln;go_in;go_wp2
  go_quiet (fail)
  go_wp2
  go_ret3
  exact FirstAns.no (HF0.out.trans HF.out) (by first | rfl | simp) _
 have:=hn2 (fun h=>by
  rcases h with h | h | h
  ·exact h5 h
  ·exact h0 h
  exact hq h)
 have HF:=Lib.hid this;have g1:decide ((4194304:Int)<(q:Int))=false:=yad (fun h=>hq (.inl ((wV q).1 h)));have hq2:¬n-5<q:=fun h=>hq (.inr h);clear this hn1 hn2 h0 hq;obtain⟨g2,i0,i1,i2⟩:=Kt h5 hq2 hle;clear hln;by_cases hq0:q=0
 ·subst hq0;go_in;go_wp2
  go_quiet (fail)
  go_wp2
  go_quiet (fail)
  go_wp2
  go_ret3
  refine FirstAns.yes0 (a:=⟨b,off,none⟩) hr HX.out (HF0.out.trans HF.out) (by omega) (by rfl) (by first | exact below_drewN (yaj _ _) _ | exact below_drewN (below_drewN (yaj _ _) _) _)
 have i3:(0:Int)<q:=by omega
 clear hq0;go_in;go_wp2
 go_quiet (fail)
 go_wp2;have wq:=OJ hn i1
 go_quiet (fail)
 go_wp2
 go_ret3
 have e5:5+q-5=q:=by omega
 refine FirstAns.yes (q:=q) (c:=q) (ao:=some ⟨b,off+5,none⟩) hr HX.out (HF0.out.trans HF.out) (by omega) (by omega) (by omega) (.inl rfl) ?_ (by first | exact below_drewN (yaj _ _) _ | exact below_drewN (below_drewN (yaj _ _) _) _);show Ending.returned (.tuple #[.int .u8 (x0:Int),.slice (some ⟨b,off+5,none⟩) (5+q-5) (5+q-5),.int .i64 (5+(q:Int))])=_;rw[e5]
theorem uQ(ao:Option Addr)(n cap:Nat)(l:List UInt8)(w:World)(hr:Rd w 1 ao n cap (byV l))(hn:n<=1000000000) :
  Calls Tryz.prog 132 #[.slice ao n cap] w (FirstAns w ao l):=by
 have ll:l.length=n:=by have:=hr.1;rw[aV] at this;omega
 by_cases h5:n<5
 ·have hf:=zq (l:=l) (.inl (by omega));go_in;go_wp2
  go_ret3
  exact FirstAns.no hf (by first | rfl | simp) 0
 obtain⟨b,off,e1,hlt,hc⟩:=hr.some (by have:=hr.le;omega);subst e1;have c0:w.cell? ⟨b,off,none⟩=_:=hc 0 _ (iG l 0 (by omega));have c1:=hc 1 _ (iG l 1 (by omega));have c2:=hc 2 _ (iG l 2 (by omega));have c3:=hc 3 _ (iG l 3 (by omega));have c4:=hc 4 _ (iG l 4 (by omega));have hle:=hr.le;have hcap:=hr.2.2.1;unfold maxLen at hcap;have b1:(l[1]?.getD 0).toNat<256:=ybo _;have b2:(l[2]?.getD 0).toNat<256:=ybo _;have b3:(l[3]?.getD 0).toNat<256:=ybo _;have b4:(l[4]?.getD 0).toNat<256:=ybo _;have hln:ln l=16777216*(l[1]?.getD 0).toNat+65536*(l[2]?.getD 0).toNat+256*(l[3]?.getD 0).toNat+(l[4]?.getD 0).toNat:=rfl;have hx0:l[0]?.getD 0=0↔(l[0]?.getD 0).toNat=0:=by rw[<-ybw];rfl
 have hn1:=zq (l:=l);have hn2:=zh (l:=l);rw[ll] at hn1 hn2;have b0:(l[0]?.getD 0).toNat<256:=ybo _;rw[hx0] at hn1 hn2;generalize hX:(l[0]?.getD 0).toNat=x0 at *;have HX:=Lib.hid hX;clear hX;generalize (l[1]?.getD 0).toNat=x1 at *;generalize (l[2]?.getD 0).toNat=x2 at *;generalize (l[3]?.getD 0).toNat=x3 at *;generalize (l[4]?.getD 0).toNat=x4 at *;clear ll hx0;generalize hF:fs l=f at *;have HF0:=Lib.hid hF;clear hF;generalize ln l=q at *;by_cases h0:x0=0
 ·have:=hn1 (.inr (.inl h0));have HF:=Lib.hid this;clear this hn1 hn2;have f1:((x0:Int)==0)=true:=by simp[h0]
  clear h0;go_in;go_wp2
  go_ret3
  exact FirstAns.no (HF0.out.trans HF.out) (by first | rfl | simp) 0
 have f1:((x0:Int)==0)=false:=by simp[h0]
 have f5:decide ((n:Int)<5)=false:=by simp;omega
 have j1:IntKind.i64.wrap (16777216*(x1:Int))=16777216*(x1:Int):=by rw[yaP];omega
 have j2:IntKind.i64.wrap (65536*(x2:Int))=65536*(x2:Int):=by rw[yaP];omega
 have j3:IntKind.i64.wrap (256*(x3:Int))=256*(x3:Int):=by rw[yaP];omega
 have j4:IntKind.i64.wrap (16777216*(x1:Int)+65536*(x2:Int))=16777216*(x1:Int)+65536*(x2:Int):=by rw[yaP];omega
 have j5:IntKind.i64.wrap (16777216*(x1:Int)+65536*(x2:Int)+256*(x3:Int))=16777216*(x1:Int)+65536*(x2:Int)+256*(x3:Int):=by rw[yaP];omega
 have j6:IntKind.i64.wrap (16777216*(x1:Int)+65536*(x2:Int)+256*(x3:Int)+(x4:Int))=(q:Int):=by rw[yaP];omega
 by_cases hq:4194304<q\/n-5<q
 ·have:=hn1 (.inr (.inr hq));have HF:=Lib.hid this;clear this hn1 hn2 h0;by_cases hq1:(4194304:Int)<(q:Int)
  ·have g1:decide ((4194304:Int)<(q:Int))=true:=yaa hq1;clear hln;go_in;go_wp2
   go_quiet (fail)
   go_wp2
   go_ret3
   exact FirstAns.no (HF0.out.trans HF.out) (by first | rfl | simp) _
  have hq2:n-5<q:=hq.resolve_left (fun h=>hq1 ((wV q).2 h));have g1:decide ((4194304:Int)<(q:Int))=false:=yad hq1;clear hq hq1;have g2:=sub_lt h5 hq2;clear hln;go_in;go_wp2
  go_quiet (fail)
  go_wp2
  go_ret3
  exact FirstAns.no (HF0.out.trans HF.out) (by first | rfl | simp) _
 have:=hn2 (fun h=>by
  rcases h with h | h | h
  ·exact h5 h
  ·exact h0 h
  exact hq h)
 have HF:=Lib.hid this;have g1:decide ((4194304:Int)<(q:Int))=false:=yad (fun h=>hq (.inl ((wV q).1 h)));have hq2:¬n-5<q:=fun h=>hq (.inr h);clear this hn1 hn2 h0 hq;obtain⟨g2,i0,i1,i2⟩:=Kt h5 hq2 hle;clear hln;by_cases hq0:cap=5
 ·obtain rfl:q=0:=by omega
  obtain rfl:n=5:=by omega
  subst hq0;go_in;go_wp2
  go_quiet (fail)
  go_wp2
  go_quiet (fail)
  go_wp2
  go_ret3
  refine FirstAns.yes0 (a:=⟨b,off,none⟩) hr HX.out (HF0.out.trans HF.out) (by omega) (by rfl) (by first | exact below_drewN (yaj _ _) _ | exact below_drewN (below_drewN (yaj _ _) _) _)
 have i3:(0:Int)<(cap:Int)-5:=by omega
 go_in;go_wp2
 go_quiet (fail)
 go_wp2;have wq:=OJ hn i1
 go_quiet (fail)
 go_wp2
 go_ret3
 have e5:5+q-5=q:=by omega
 refine FirstAns.yes (q:=q) (c:=cap-5) (ao:=some ⟨b,off+5,none⟩) hr HX.out (HF0.out.trans HF.out) (by omega) (by omega) (by omega) (.inl rfl) ?_ (by first | exact below_drewN (yaj _ _) _ | exact below_drewN (below_drewN (yaj _ _) _) _);show Ending.returned (.tuple #[.int .u8 (x0:Int),.slice (some ⟨b,off+5,none⟩) (5+q-5) (cap-5),.int .i64 (5+(q:Int))])=_;rw[e5]
theorem byT:SliceT Tryz.prog 34 5 (.int .u8 0) 1 1:=⟨Tryz.underlying34,by kernel_rfl,rfl,by decide⟩
theorem Rx(a:Addr)(n cap:Nat)(w:World):Sem.run Tryz.prog (binOp BinOp.eql 34 (.slice (some a) n cap) (.slice none 0 0)) w=.ok (.bool false) w:=by kernel_rfl
theorem QE(n cap:Nat)(w:World):Sem.run Tryz.prog (binOp BinOp.eql 34 (.slice none n cap) (.slice none 0 0)) w=.ok (.bool true) w:=by kernel_rfl
def LP (w:World)(l:List UInt8)(e:Ending)(w':World):Prop:=∃ao cap,e=.returned (.slice ao l.length cap)/\Rd w' 1 ao l.length cap (byV l)/\Below w.heap.size w w'/\(ao=none\/∃b,w.heap.size<=b/\ao=some ⟨b,0,none⟩)
def jw (w:World)(l:List UInt8)(e:Ending)(w':World):Prop:=∃v,e=.returned v/\w'.ownsRow w.heap.size 5 1 v l.length (byV l)/\Below w.heap.size w w'
theorem O6(h:jw w l e w1):LP w l e w1:=by
 obtain⟨v,rfl,ho,hb⟩:=h;obtain⟨ao,cap,rfl,hr⟩:=Rd.of_own ho;refine⟨ao,cap,rfl,hr,hb,?_⟩;rcases ho.2 with ⟨h,_⟩ | ⟨g,c,cur,h,hg,_⟩
 ·exact .inl (ybC h).1
 exact .inr ⟨g,hg,(ybC h).1⟩
theorem JV(hl:l.length=n)(ho:w1.ownsRow w.heap.size 5 1 (.slice ao (0+n) cap) (0+n) (byV []++byV l))(hb:Below w.heap.size w w1):jw w l (.returned (.slice ao n cap)) w1:=by
 subst hl;rw[ybL] at ho;exact⟨_,rfl,ho,hb⟩
theorem vW(ao:Option Addr)(n cap:Nat)(l:List UInt8)(w:World)(hr:Rd w 1 ao n cap (byV l))(hn:n<=1000000000) :
  Calls Tryz.prog 98 #[.slice ao n cap] w (jw w l):=by
 have ll:l.length=n:=by have:=hr.1;rw[aV] at this;omega
 cases ao with
 | none=>
  have hc:=hr.2.2.2.1 rfl;obtain⟨h0,hx⟩:=hr.empty hc;subst hc;subst h0;have hl:l=[]:=yat ll;subst hl;have hn0:=QE 0 0 w;go_in;go_wp2;go_ret;exact⟨_,rfl,yaC _ _ _ _,yaj _ _⟩
 | some a=>
  have hn0:=Rx a n cap w;go_in;have ho0:(w.alloc (.cells #[] 5)).ownsRow w.heap.size 5 1 (.slice (some ⟨w.heap.size,0,none⟩) 0 0) 0 (byV []):=by
   refine⟨rfl,.inr ⟨w.heap.size,0,#[],rfl,?_⟩⟩;exact⟨yag _,(by show (w.heap.push _)[w.heap.size]?=some _;simp),yag _,yam _,rfl,rfl⟩
  go_wp2_with (at_builtin;refine dZ _ rfl (.tmp 5) (.tmp 6) 34 rfl w.heap.size 5 (.int .u8 0) 1 1 byT _ 0 (byV []) rfl ho0 (some a) n cap (byV l) rfl (hr.later ((yaj _ w).alloc (yag _) _)) (bM _) (by unfold maxLen;omega) (by omega) (by simp) ?_;intro ao' cap' w1 ho1 _ hb1 _);go_ret;exact JV ll ho1 (((yaj _ w).alloc (yag _) _).trans hb1)
theorem clone_any(ao:Option Addr)(n cap:Nat)(l:List UInt8)(w:World)(hr:Rd w 1 ao n cap (byV l))(hn:n<=1000000000) :
  Calls Tryz.prog 98 #[.slice ao n cap] w (LP w l):=(vW ao n cap l w hr hn).mono fun _ _ h=>O6 h
