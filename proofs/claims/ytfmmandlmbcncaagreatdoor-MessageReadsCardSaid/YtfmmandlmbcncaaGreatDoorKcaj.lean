/-
  A part of the proof.
-/
import Derived.Lib.Bytealg
import Derived.Test.YtfmmandlmbcncaaGreatDoorKcai
import Derived.Test.YtfmmandlmbcncaaGreatDoorKcag
set_option maxHeartbeats 40000000
set_option maxRecDepth 100000
namespace Go.Proofs.YtfmmandlmbcncaaGreatDoor.Msg
open Go.RowKit Go.Lib Mem Utf
theorem Fp (a b:ByteArray)(w:World):Calls Tryz.prog 183 #[.string a,.string b] w fun e w'=>e=.returned (.int .i64 (compareBytes a.data.toList b.data.toList))/\w'=w:=by
 go_in;go_wp2;rw[run_callFunc_extern Tryz.func227 (by kernel_rfl) (by kernel_rfl) (by kernel_rfl) (e:=Extern.BytealgCompare.compare) (by kernel_rfl),run_compareString];simp only[Result.andThen];rw[Oper.upon_value];go_wp2;go_ret;exact⟨rfl,rfl⟩
theorem xP (a b:ByteArray)(w:World):Calls Tryz.prog 155 #[.string a,.string b] w fun e w'=>e=.returned (.int .i64 (compareBytes a.data.toList b.data.toList))/\w'=w:=by
 go_in;go_wp2_with fail;refine (Fp _ _ _).mono ?_;rintro e w1 ⟨rfl,rfl⟩;go_wp2_with fail;go_ret;exact⟨rfl,rfl⟩
def orI (x y:Int):Int:=if x=0 then y else x
theorem Oe (x y:Int)(b:Nat)(w:World)(h:Rd w 1 (some ⟨b,0,none⟩) 2 2 [.int .i64 x,.int .i64 y]):Calls Tryz.prog 154 #[.slice (some ⟨b,0,none⟩) 2 2] w fun e w'=>e=.returned (.int .i64 (orI x y))/\w'=w:=by
 have hc:=(h.2.2.2.2 (by decide) _ rfl).2.2;have c0:w.cell? ⟨b,0,none⟩=some (.int .i64 x):=hc 0 _ rfl;have c1:w.cell? ⟨b,1,none⟩=some (.int .i64 y):=hc 1 _ rfl;go_in;go_wp2_with fail;go_loopw [8] (fun p wr=>∃k:Nat,k<=2/\p=.int .i64 (k:Int)/\(1<=k->x=0)/\(2<=k->y=0)/\wr=w) (fun p _=>2-(intOf p).toNat)
 case atStart=>exact⟨0,by omega,rfl,fun h=>by omega,fun h=>by omega,rfl⟩
 case round=>
  obtain⟨k,hk,rfl,hx0,hy0,rfl⟩:=hrel;rcases (by omega:k=0\/k=1\/k=2) with rfl|rfl|rfl
  ·by_cases hx:x=0
   ·have f1:(x==0)=true:=by simp[hx]
    have HX:=hid hx;clear hx hx0 hy0;go_wp2_with fail;go_roundw
    case rel=>exact⟨1,by omega,rfl,fun _=>HX.out,fun h=>by omega,trivial⟩
    case measure=>simp[intOf]
   have f1:(x==0)=false:=by simp[hx]
   have HX:=hid hx;clear hx hx0 hy0;go_wp2_with fail;go_ret;exact⟨by unfold orI;rw[if_neg HX.out];rfl,rfl⟩
  ·have hx:=hx0 (by omega);clear hx0 hy0;have HX:=hid hx;clear hx;by_cases hy:y=0
   ·have f1:(y==0)=true:=by simp[hy]
    have HY:=hid hy;clear hy;go_wp2_with fail;go_roundw
    case rel=>exact⟨2,by omega,rfl,fun _=>HX.out,fun _=>HY.out,trivial⟩
    case measure=>simp[intOf]
   have f1:(y==0)=false:=by simp[hy]
   clear hy;go_wp2_with fail;go_ret;exact⟨by unfold orI;rw[if_pos HX.out];rfl,rfl⟩
  have hx:=hx0 (by omega);have hy:=hy0 (by omega);have HX:=hid hx;have HY:=hid hy;clear hx0 hy0 hx hy;go_wp2_with fail;go_ret;exact⟨by unfold orI;rw[if_pos HX.out,HY.out];rfl,rfl⟩
def mg (a b:ByteArray×ByteArray):Int:=orI (compareBytes a.1.data.toList b.1.data.toList) (compareBytes a.2.data.toList b.2.data.toList)
def bP (x:ByteArray×ByteArray):Obj:=.cells #[.string x.1,.string x.2] 106
theorem aW {W:World}{B:Nat}{x:ByteArray×ByteArray}(h:W.heap[B]?=some (bP x)):W.cell? ⟨B,0,none⟩=some (.string x.1)/\W.cell? ⟨B,1,none⟩=some (.string x.2):=by
 unfold bP at h;simp[World.cell?,h]
def InAB (w:World)(a b:ByteArray×ByteArray)(W:World):Prop:=W.heap[w.heap.size]?=some (bP a)/\W.heap[w.heap.size+1]?=some (bP b)/\Below w.heap.size w W
theorem InAB.step {w W W':World}{a b:ByteArray×ByteArray}(h:InAB w a b W)(hb:Below W.heap.size W W'):InAB w a b W':=
 ⟨(hb.block _ (Array.getElem?_eq_some_iff.1 h.1).1).trans h.1,(hb.block _ (Array.getElem?_eq_some_iff.1 h.2.1).1).trans h.2.1,h.2.2.trans (hb.mono h.2.2.size)⟩
theorem wu (a b:ByteArray×ByteArray)(w:World):Calls Tryz.prog 123 #[.agg #[.string a.1,.string a.2],.agg #[.string b.1,.string b.2]] w fun e w'=>e=.returned (.int .i64 (mg a b))/\Below w.heap.size w w':=by
 have hmo:Tryz.prog.follows .mixedOrders=true:=by kernel_rfl
 obtain⟨x1,hx1⟩:∃x1,compareBytes a.1.data.toList b.1.data.toList=x1:=⟨_,rfl⟩
 obtain⟨x2,hx2⟩:∃x2,compareBytes a.2.data.toList b.2.data.toList=x2:=⟨_,rfl⟩
 have Hx:Hid (mg a b=orI x1 x2):=hid (by unfold mg;rw[hx1,hx2]);have hs1:=fun W=>xP a.1 b.1 W;have hs2:=fun W=>xP a.2 b.2 W;rw[hx1] at hs1;rw[hx2] at hs2;clear hx1 hx2;go_in;go_wp2_with fail;generalize hg:(w.alloc _).alloc _=W0;have s0:InAB w a b W0.drew:=by
  obtain⟨h1,h2⟩:=df w (bP a) (bP b);rw[<-hg];exact⟨h1,h2,(bW w _ _).drew⟩
 clear hg;refine wp_region_held (S:=InAB w a b) hmo ?_;change wpAnyH _ _ _ _ _ _ _ _ (World.drew W0);generalize W0.drew=V0 at *;refine zHp 0 (.pointer (some ⟨w.heap.size,0,none⟩)) rfl s0 ?_;go_simp;refine zHa 1 (.string a.1) rfl (by rintro w h;obtain⟨c0,c1⟩:=aW h.1;obtain⟨d0,d1⟩:=aW h.2.1;go_simp) s0 ?_;go_simp;refine zHp 2 (.pointer (some ⟨w.heap.size+1,0,none⟩)) rfl s0 ?_;go_simp;refine zHa 3 (.string b.1) rfl (by rintro w h;obtain⟨c0,c1⟩:=aW h.1;obtain⟨d0,d1⟩:=aW h.2.1;go_simp) s0 ?_;go_simp;refine zHp 5 (.pointer (some ⟨w.heap.size,1,none⟩)) rfl s0 ?_;go_simp;refine zHa 6 (.string a.2) rfl (by rintro w h;obtain⟨c0,c1⟩:=aW h.1;obtain⟨d0,d1⟩:=aW h.2.1;go_simp) s0 ?_;go_simp;refine zHp 7 (.pointer (some ⟨w.heap.size+1,1,none⟩)) rfl s0 ?_;go_simp;refine zHa 8 (.string b.2) rfl (by rintro w h;obtain⟨c0,c1⟩:=aW h.1;obtain⟨d0,d1⟩:=aW h.2.1;go_simp) s0 ?_;go_simp;refine zH1 4 rfl (fun K hK=>?_);go_simp;refine (hs1 _).mono ?_;rintro e W1 ⟨rfl,rfl⟩;go_simp;refine hK _ _ ⟨s0,?_⟩;clear hK K;refine zH1 9 rfl (fun K hK=>?_);go_simp;refine (hs2 _).mono ?_;rintro e W2 ⟨rfl,rfl⟩;go_simp;refine hK _ _ ⟨s0,?_⟩;clear hK K;refine zH1 10 rfl (fun K hK=>?_);go_simp;generalize hg:W2.alloc _=W3;have e:W2.alloc (.cells #[.int .i64 x1,.int .i64 x2] 3)=W3:=hg;have hb3:Below W2.heap.size W2 W3:=by rw[<-e];exact (Below.refl _ _).alloc (Nat.le_refl _) _
 have hr3:Rd W3 1 (some ⟨W2.heap.size,0,none⟩) 2 2 [.int .i64 x1,.int .i64 x2]:=by rw[<-e];exact Rd.new W2 [.int .i64 x1,.int .i64 x2] 3 (0,0) 1 2 rfl (by decide)
 clear hg e;have s1:=s0.step hb3;refine hK _ _ ⟨s1,?_⟩;clear hK K;refine zH1 11 rfl (fun K hK=>?_);go_simp;refine (Oe x1 x2 _ W3 hr3).mono ?_;rintro e W4 ⟨rfl,rfl⟩;go_simp;refine hK _ _ ⟨s1,?_⟩;clear hK K;refine zHp 12 (.int .i64 (orI x1 x2)) rfl s1 ?_;go_simp;refine wpAnyH_done (by kernel_rfl) ?_ _;go_wp2_with fail;go_ret;exact⟨by rw[Hx.out];rfl,s1.2.2⟩
def rise:List (ByteArray×ByteArray)->Bool
 | a::b::l=>decide (mg a b<0)&&rise (b::l)
 | _=>true
def bC (l:List (ByteArray×ByteArray)):Bool:=l.all aK&&rise l&&decide (l.length<=50)
theorem zu (x:ByteArray×ByteArray):∀(l:List (ByteArray×ByteArray)),rise l=true->(∀y,l.getLast?=some y->mg y x<0)->rise (l++[x])=true
 | [],_,_=>rfl
 | [a],_,h=>by
  have:=h a rfl;simp[rise,this]
 | a::b::l,h,h2=>by
  simp only[rise,Bool.and_eq_true] at h;have:=zu x (b::l) h.2 (fun y hy=>h2 y (by rw[List.getLast?_cons_cons];exact hy));simp only[List.cons_append,rise,Bool.and_eq_true];exact⟨h.1,this⟩
theorem yG:∀(k:Nat) (l:List (ByteArray×ByteArray)) (a b:ByteArray×ByteArray),l[k]?=some a->l[k+1]?=some b->¬mg a b<0->rise l=false
 | 0,x::y::l,a,b,h1,h2,h=>by
  simp at h1 h2;subst h1 h2;simp[rise,h]
 | k+1,x::y::l,a,b,h1,h2,h=>by
  have:=yG k (y::l) a b (by simpa using h1) (by simpa using h2) h;simp[rise,this]
 | 0,[x],a,b,h1,h2,h=>by simp at h2
 | k+1,[x],a,b,h1,h2,h=>by simp at h1
 | _,[],a,b,h1,h2,h=>by simp at h1
theorem qh (l:List (ByteArray×ByteArray))(k:Nat)(u:ByteArray×ByteArray)(hu:l[k]?=some u)(h:rise (l.take k)=true)(hc:∀p,0<k->l[k-1]?=some p->mg p u<0):rise (l.take (k+1))=true:=by
 obtain⟨hl,e⟩:=List.getElem?_eq_some_iff.1 hu;rw[List.take_succ_eq_append_getElem hl,e];refine zu u _ h (fun y hy=>?_);have hk:0<k:=by
  rcases Nat.eq_zero_or_pos k with h0 | h0
  ·subst h0;simp at hy
  exact h0
 refine hc y hk ?_;rw[List.getLast?_eq_getElem?,List.length_take,Nat.min_eq_left (by omega),List.getElem?_take_of_lt (by omega)] at hy;exact hy
def InAt (wr:World)(u p:ByteArray×ByteArray)(b o:Nat)(W:World):Prop:=W.heap[wr.heap.size]?=some (bP u)/\W.cell? ⟨b,o,none⟩=some (.string p.1)/\W.cell? ⟨b,o+1,none⟩=some (.string p.2)/\Below wr.heap.size wr W
theorem InAt.step {wr W W':World}{u p:ByteArray×ByteArray}{b o:Nat}(h:InAt wr u p b o W)(hb:Below W.heap.size W W'):InAt wr u p b o W':=
 ⟨(hb.block _ (Array.getElem?_eq_some_iff.1 h.1).1).trans h.1,(hb.cell (World.block_lt_of_cell? W _ h.2.1)).trans h.2.1,(hb.cell (World.block_lt_of_cell? W _ h.2.2.1)).trans h.2.2.1,h.2.2.2.trans (hb.mono h.2.2.2.size)⟩
theorem oK (ao:Option Addr)(n cap:Nat)(x:List (ByteArray×ByteArray))(w:World)(hx:Rd w 2 ao n cap (atV x))(hn:n<=1000000000) :
  Calls Tryz.prog 79 #[.slice ao n cap] w (aN (bC x) w):=by
 have hmo:Tryz.prog.follows .mixedOrders=true:=by kernel_rfl
 have lx:x.length=n:=by have:=hx.1;rw[fG] at this;omega
 have LX:=hid lx;clear lx;go_in;go_wp2_with fail;go_loopw [7] (fun p wr=>∃k:Nat,k<=n/\p=.int .i64 (k:Int)/\Hid ((x.take k).all aK=true)/\Hid (rise (x.take k)=true)/\Below w.heap.size w wr) (fun p _=>n-(intOf p).toNat)
 case atStart=>exact⟨0,Nat.zero_le _,rfl,hid rfl,hid rfl,Below.refl _ _⟩
 case round=>
  obtain⟨k,hk,rfl,Ha,Hr,hbr⟩:=hrel;by_cases hkn:k<n
  ·obtain⟨b1,o1,rfl,hl1,hc1⟩:=hx.some (by have:=hx.le;omega);obtain⟨u,hu⟩:∃u,x[k]?=some u:=⟨_,List.getElem?_eq_getElem (by rw[LX.out];exact hkn)⟩
   obtain⟨p,hp⟩:∃p,x[k-1]?=some p:=⟨_,List.getElem?_eq_getElem (by rw[LX.out];omega)⟩
   obtain⟨v1,v2⟩:=jT x k u hu;obtain⟨v3,v4⟩:=jT x (k-1) p hp;have c1:=(hbr.cell (p:=⟨b1,o1+k*2,none⟩) hl1).trans (hc1 (k*2) _ v1);have c2:wr.cell? ⟨b1,o1+k*2+1,none⟩=_:=(hbr.cell (p:=⟨b1,o1+(k*2+1),none⟩) hl1).trans (hc1 (k*2+1) _ v2);have c3:=(hbr.cell (p:=⟨b1,o1+(k-1)*2,none⟩) hl1).trans (hc1 ((k-1)*2) _ v3);have c4:wr.cell? ⟨b1,o1+(k-1)*2+1,none⟩=_:=(hbr.cell (p:=⟨b1,o1+((k-1)*2+1),none⟩) hl1).trans (hc1 ((k-1)*2+1) _ v4);clear v1 v2 v3 v4;have i0:(0:Int)<=(k:Int):=by omega
   have i1:(k:Int)<(n:Int):=by omega
   go_upto_region 4 with fail;generalize hg:wr.alloc _=W0;have hb0:Below wr.heap.size wr W0:=by rw[<-hg];exact (Below.refl _ _).alloc (Nat.le_refl _) _
   have k1:W0.heap[wr.heap.size]?=some (bP u):=by rw[<-hg];show (wr.heap.push _)[wr.heap.size]?=some _;exact Array.getElem?_push_size
   have s0:InAt wr u p b1 (o1+(k-1)*2) W0.drew:=⟨k1,(hb0.cell (World.block_lt_of_cell? wr _ c3)).trans c3,(hb0.cell (World.block_lt_of_cell? wr _ c4)).trans c4,hb0.drew⟩
   clear hg hb0 k1 c1 c2 c3 c4;have hbw:=hbr.size;by_cases hm:aK u=true
   ·have HM:=hid hm;have hall:Hid ((x.take (k+1)).all aK=true):=hid (by obtain⟨hl,e⟩:=List.getElem?_eq_some_iff.1 hu;rw[List.take_succ_eq_append_getElem hl,e,List.all_append,Ha.out];simp[hm]);clear hm;by_cases hk0:k=0
    ·have HR:Hid (rise (x.take (k+1))=true):=hid (qh x k u hu Hr.out (fun p h=>absurd hk0 (by omega)));have g1:decide ((0:Int)<(k:Int))=false:=decide_eq_false (by omega);clear hk0;refine wp_region_held (S:=InAt wr u p b1 (o1+(k-1)*2)) hmo ?_;change wpAnyH _ _ _ _ _ _ _ _ (World.drew W0);refine zHa 0 (.agg #[.string u.1,.string u.2]) rfl (by rintro w h;obtain⟨c0,c1⟩:=aW h.1;have c2:=h.2.1;have c3:=h.2.2.1;go_simp) s0 ?_;go_simp;refine zH1 1 rfl (fun K hK=>?_);go_simp;refine (kR u _).mono ?_;rintro e W1 ⟨rfl,hb1⟩;rw[HM.out];have s1:=s0.step hb1;go_simp;refine hK _ _ ⟨s1,?_⟩;clear hK K;refine zHa 2 (.bool false) rfl (by rintro w h;obtain⟨c0,c1⟩:=aW h.1;have c2:=h.2.1;have c3:=h.2.2.1;go_simp) s1 ?_;go_simp;refine zHp 3 (.bool false) rfl s1 ?_;go_simp;refine zHp 4 (.int .i64 (k:Int)) rfl s1 ?_;go_simp;refine zHa 5 (.bool false) rfl (by rintro w h;obtain⟨c0,c1⟩:=aW h.1;have c2:=h.2.1;have c3:=h.2.2.1;go_simp;have:=of_decide_eq_false g1;omega) s1 ?_;go_simp;refine zHp 6 (.bool false) rfl s1 ?_;go_simp;refine zHo 7 rfl s1 ?_;go_simp;refine zHo 8 rfl s1 ?_;go_simp;refine zHo 9 rfl s1 ?_;go_simp;refine zHo 10 rfl s1 ?_;go_simp;refine zHo 11 rfl s1 ?_;go_simp;refine zHo 12 rfl s1 ?_;go_simp;refine zHo 13 rfl s1 ?_;go_simp;refine zHo 14 rfl s1 ?_;go_simp;refine zHp 15 (.bool false) rfl s1 ?_;go_simp;refine zHp 16 (.bool false) rfl s1 ?_;go_simp;refine wpAnyH_done (by kernel_rfl) ?_ _;go_wp2_with fail;go_roundw
     case rel=>exact⟨k+1,by omega,by go_num,hall,HR,hbr.trans (s1.2.2.2.mono hbw)⟩
     case measure=>simp[intOf];omega
    have g1:decide ((0:Int)<(k:Int))=true:=decide_eq_true (by omega);have g2:IntKind.wrap .i64 ((k:Int)-1)=((k-1:Nat):Int):=by rw[IntKind.wrap_i64];omega
    have i2:(0:Int)<=((k-1:Nat):Int):=by omega
    have i3:((k-1:Nat):Int)<(n:Int):=by omega
    by_cases hcm:mg p u<0
    ·have g3:decide ((0:Int)<=mg p u)=false:=decide_eq_false (by omega);have HR:Hid (rise (x.take (k+1))=true):=hid (qh x k u hu Hr.out (fun q _ hq=>by rw[hp] at hq;rw[<-Option.some.inj hq];exact hcm));clear hcm;refine wp_region_held (S:=InAt wr u p b1 (o1+(k-1)*2)) hmo ?_;change wpAnyH _ _ _ _ _ _ _ _ (World.drew W0);refine zHa 0 (.agg #[.string u.1,.string u.2]) rfl (by rintro w h;obtain⟨c0,c1⟩:=aW h.1;have c2:=h.2.1;have c3:=h.2.2.1;go_simp) s0 ?_;go_simp;refine zH1 1 rfl (fun K hK=>?_);go_simp;refine (kR u _).mono ?_;rintro e W1 ⟨rfl,hb1⟩;rw[HM.out];have s1:=s0.step hb1;go_simp;refine hK _ _ ⟨s1,?_⟩;clear hK K;refine zHa 2 (.bool false) rfl (by rintro w h;obtain⟨c0,c1⟩:=aW h.1;have c2:=h.2.1;have c3:=h.2.2.1;go_simp) s1 ?_;go_simp;refine zHp 3 (.bool false) rfl s1 ?_;go_simp;refine zHp 4 (.int .i64 (k:Int)) rfl s1 ?_;go_simp;refine zHa 5 (.bool true) rfl (by rintro w h;obtain⟨c0,c1⟩:=aW h.1;have c2:=h.2.1;have c3:=h.2.2.1;go_simp;have:=of_decide_eq_true g1;omega) s1 ?_;go_simp;refine zHp 6 (.bool true) rfl s1 ?_;go_simp;refine zHp 7 (.slice (some ⟨b1,o1,none⟩) n cap) rfl s1 ?_;go_simp;refine zHp 8 (.int .i64 (k:Int)) rfl s1 ?_;go_simp;refine zHa 9 (.int .i64 ((k-1:Nat):Int)) rfl (by rintro w h;obtain⟨c0,c1⟩:=aW h.1;have c2:=h.2.1;have c3:=h.2.2.1;go_simp) s1 ?_;go_simp;refine zHa 10 (.pointer (some ⟨b1,o1+(k-1)*2,none⟩)) rfl (by rintro w h;obtain⟨c0,c1⟩:=aW h.1;have c2:=h.2.1;have c3:=h.2.2.1;go_simp) s1 ?_;go_simp;refine zHa 11 (.agg #[.string p.1,.string p.2]) rfl (by rintro w h;obtain⟨c0,c1⟩:=aW h.1;have c2:=h.2.1;have c3:=h.2.2.1;go_simp) s1 ?_;go_simp;refine zHa 12 (.agg #[.string u.1,.string u.2]) rfl (by rintro w h;obtain⟨c0,c1⟩:=aW h.1;have c2:=h.2.1;have c3:=h.2.2.1;go_simp) s1 ?_;go_simp;refine zH1 13 rfl (fun K hK=>?_);go_simp;refine (wu p u _).mono ?_;rintro e W2 ⟨rfl,hb2⟩;have s2:=s1.step hb2;go_simp;refine hK _ _ ⟨s2,?_⟩;clear hK K;refine zHa 14 (.bool false) rfl (by rintro w h;obtain⟨c0,c1⟩:=aW h.1;have c2:=h.2.1;have c3:=h.2.2.1;go_simp) s2 ?_;go_simp;refine zHp 15 (.bool false) rfl s2 ?_;go_simp;refine zHp 16 (.bool false) rfl s2 ?_;go_simp;refine wpAnyH_done (by kernel_rfl) ?_ _;go_wp2_with fail;go_roundw
     case rel=>exact⟨k+1,by omega,by go_num,hall,HR,hbr.trans (s2.2.2.2.mono hbw)⟩
     case measure=>simp[intOf];omega
    have g3:decide ((0:Int)<=mg p u)=true:=decide_eq_true (by omega);have HR:Hid (bC x=false):=hid (by unfold bC;rw[yG (k-1) x p u hp (by rw[show k-1+1=k from by omega];exact hu) hcm];simp);clear hcm;refine wp_region_held (S:=InAt wr u p b1 (o1+(k-1)*2)) hmo ?_;change wpAnyH _ _ _ _ _ _ _ _ (World.drew W0);refine zHa 0 (.agg #[.string u.1,.string u.2]) rfl (by rintro w h;obtain⟨c0,c1⟩:=aW h.1;have c2:=h.2.1;have c3:=h.2.2.1;go_simp) s0 ?_;go_simp;refine zH1 1 rfl (fun K hK=>?_);go_simp;refine (kR u _).mono ?_;rintro e W1 ⟨rfl,hb1⟩;rw[HM.out];have s1:=s0.step hb1;go_simp;refine hK _ _ ⟨s1,?_⟩;clear hK K;refine zHa 2 (.bool false) rfl (by rintro w h;obtain⟨c0,c1⟩:=aW h.1;have c2:=h.2.1;have c3:=h.2.2.1;go_simp) s1 ?_;go_simp;refine zHp 3 (.bool false) rfl s1 ?_;go_simp;refine zHp 4 (.int .i64 (k:Int)) rfl s1 ?_;go_simp;refine zHa 5 (.bool true) rfl (by rintro w h;obtain⟨c0,c1⟩:=aW h.1;have c2:=h.2.1;have c3:=h.2.2.1;go_simp;have:=of_decide_eq_true g1;omega) s1 ?_;go_simp;refine zHp 6 (.bool true) rfl s1 ?_;go_simp;refine zHp 7 (.slice (some ⟨b1,o1,none⟩) n cap) rfl s1 ?_;go_simp;refine zHp 8 (.int .i64 (k:Int)) rfl s1 ?_;go_simp;refine zHa 9 (.int .i64 ((k-1:Nat):Int)) rfl (by rintro w h;obtain⟨c0,c1⟩:=aW h.1;have c2:=h.2.1;have c3:=h.2.2.1;go_simp) s1 ?_;go_simp;refine zHa 10 (.pointer (some ⟨b1,o1+(k-1)*2,none⟩)) rfl (by rintro w h;obtain⟨c0,c1⟩:=aW h.1;have c2:=h.2.1;have c3:=h.2.2.1;go_simp) s1 ?_;go_simp;refine zHa 11 (.agg #[.string p.1,.string p.2]) rfl (by rintro w h;obtain⟨c0,c1⟩:=aW h.1;have c2:=h.2.1;have c3:=h.2.2.1;go_simp) s1 ?_;go_simp;refine zHa 12 (.agg #[.string u.1,.string u.2]) rfl (by rintro w h;obtain⟨c0,c1⟩:=aW h.1;have c2:=h.2.1;have c3:=h.2.2.1;go_simp) s1 ?_;go_simp;refine zH1 13 rfl (fun K hK=>?_);go_simp;refine (wu p u _).mono ?_;rintro e W2 ⟨rfl,hb2⟩;have s2:=s1.step hb2;go_simp;refine hK _ _ ⟨s2,?_⟩;clear hK K;refine zHa 14 (.bool true) rfl (by rintro w h;obtain⟨c0,c1⟩:=aW h.1;have c2:=h.2.1;have c3:=h.2.2.1;go_simp) s2 ?_;go_simp;refine zHp 15 (.bool true) rfl s2 ?_;go_simp;refine zHp 16 (.bool true) rfl s2 ?_;go_simp;refine wpAnyH_done (by kernel_rfl) ?_ _;go_wp2_with fail;go_ret;exact⟨by rw[HR.out];rfl,hbr.trans (s2.2.2.2.mono hbw)⟩
   have hm2:aK u=false:=by simpa using hm
   have HM:=hid hm2;have HR:Hid (bC x=false):=hid (by
    unfold bC;have:x.all aK=false:=by rw[List.all_eq_false];exact⟨u,List.mem_of_getElem? hu,by simp[hm2]⟩
    rw[this];simp)
   clear hm hm2;refine wp_region_held (S:=InAt wr u p b1 (o1+(k-1)*2)) hmo ?_;change wpAnyH _ _ _ _ _ _ _ _ (World.drew W0);refine zHa 0 (.agg #[.string u.1,.string u.2]) rfl (by rintro w h;obtain⟨c0,c1⟩:=aW h.1;have c2:=h.2.1;have c3:=h.2.2.1;go_simp) s0 ?_;go_simp;refine zH1 1 rfl (fun K hK=>?_);go_simp;refine (kR u _).mono ?_;rintro e W1 ⟨rfl,hb1⟩;rw[HM.out];have s1:=s0.step hb1;go_simp;refine hK _ _ ⟨s1,?_⟩;clear hK K;refine zHa 2 (.bool true) rfl (by rintro w h;obtain⟨c0,c1⟩:=aW h.1;have c2:=h.2.1;have c3:=h.2.2.1;go_simp) s1 ?_;go_simp;refine zHp 3 (.bool true) rfl s1 ?_;go_simp;refine zHo 4 rfl s1 ?_;go_simp;refine zHo 5 rfl s1 ?_;go_simp;refine zHo 6 rfl s1 ?_;go_simp;refine zHo 7 rfl s1 ?_;go_simp;refine zHo 8 rfl s1 ?_;go_simp;refine zHo 9 rfl s1 ?_;go_simp;refine zHo 10 rfl s1 ?_;go_simp;refine zHo 11 rfl s1 ?_;go_simp;refine zHo 12 rfl s1 ?_;go_simp;refine zHo 13 rfl s1 ?_;go_simp;refine zHo 14 rfl s1 ?_;go_simp;refine zHo 15 rfl s1 ?_;go_simp;refine zHp 16 (.bool true) rfl s1 ?_;go_simp;refine wpAnyH_done (by kernel_rfl) ?_ _;go_wp2_with fail;go_ret;exact⟨by rw[HR.out];rfl,hbr.trans (s1.2.2.2.mono hbw)⟩
  have hkn2:k=n:=by omega
  have h1:=Ha.out;have h2:=Hr.out;rw[List.take_of_length_le (by rw[LX.out];omega)] at h1 h2;have HR:Hid (bC x=decide ((n:Int)<=50)):=hid (by unfold bC;rw[h1,h2,LX.out,Bool.eq_iff_iff];simp;omega);clear h1 h2;subst hkn2;go_wp2_with fail;go_ret;exact⟨by rw[HR.out];rfl,hbr⟩
end Go.Proofs.YtfmmandlmbcncaaGreatDoor.Msg
namespace Go.Proofs.YtfmmandlmbcncaaGreatDoor.Msg
open Go.RowKit Go.Lib Mem Tlv
structure FitsA (v:OV)(c:OC):Prop where
 an:v.an<=50
 attrs:∀u∈c.attrs,u.1.size<=1000/\u.2.size<=1000
 bn:v.bn<=8
 parts:∀u∈c.parts,u.size<=1000
theorem CG (v:OV)(c:OC)(w:World)(ho:OpAt w v c)(hf:Fits v c)(hg:FitsA v c):Calls Tryz.prog 228 #[v.val] w (Gw w (opL v c)):=by
 obtain⟨kn,hkn⟩:∃kn:Nat,v.k=(kn:Int):=⟨v.k.toNat,by have:=hf.k0;omega⟩
 obtain⟨nn,hnn⟩:∃nn:Nat,v.n=(nn:Int):=⟨v.n.toNat,by have:=hf.n0;omega⟩
 have Hkn:=hid hkn;have Hnn:=hid hnn;have hw1:IntKind.wrap .u64 v.k=(kn:Int):=by rw[hkn];have h8:=hf.k8;rw[hkn] at h8;show ((kn:Int) % 18446744073709551616)=kn;omega
 have hw2:IntKind.wrap .u64 v.n=(nn:Int):=by rw[hnn];have h8:=hf.n1;rw[hnn] at h8;show ((nn:Int) % 18446744073709551616)=nn;omega
 clear hkn hnn;have hff:=fun W=>nP v.k W;have hus:Tryz.prog.underlying 9=some .string:=Tryz.underlying9;have hl3:=sH v.k;have hb0:Below w.heap.size w ((w.alloc v.box).alloc (.cells #[.slice none 0 0,.int .i64 0] 177)):=bW w _ _;obtain⟨k1,k2⟩:=df w v.box (.cells #[.slice none 0 0,.int .i64 0] 177);have hz:((w.alloc v.box).alloc (.cells #[.slice none 0 0,.int .i64 0] 177)).heap.size=w.heap.size+1+1:=by simp
 have hs0:WrS (w.heap.size+1) (w.heap.size+1) ⟨[],0⟩ ((w.alloc v.box).alloc (.cells #[.slice none 0 0,.int .i64 0] 177)):=⟨_,k2,Nat.le_refl _,World.ownsRow_nil _ _ _ _⟩
 unfold OV.val;go_in;go_wp2_with fail;refine (pF (w.heap.size+1) (w.heap.size+1) ⟨[],0⟩ 1 kn _ hs0 (by decide)).mono ?_;rintro e w1 ⟨rfl,hs1,hb1,-⟩;have hb2:Below w.heap.size w w1:=hb0.trans (hb1.mono (by omega));have q1:=(hb1.block w.heap.size (by omega)).trans k1;obtain⟨c0,-,-,-,-,-,-,-⟩:=au q1;go_wp2_with fail;refine (hff _).mono ?_;rintro e w2 ⟨rfl,hb3⟩;have hb4:=hb2.trans (hb3.mono hb2.size);have hs2:=hs1.later hb3;have q2:=(hb3.block w.heap.size (Array.getElem?_eq_some_iff.1 q1).1).trans q1;have hit:w.heap.size+1<w2.heap.size:=by obtain⟨y,hy⟩:=hs2;exact hy.lt
 have hr:=run_range_string (P:=Tryz.prog) w2 9 ⟨(fieldsOf v.k).toArray⟩ hus;clear c0;go_wp2_with fail;go_loopw [] (fun wr=>∃j,PutAt w w2.heap.size v c j wr) (fun wr=>(fieldsOf v.k).length-wr.iterPos w2.heap.size)
 case atStart=>
  have hbi:Below w2.heap.size w2 (w2.iter ⟨(fieldsOf v.k).toArray⟩ 0):=(Below.refl _ _).alloc (Nat.le_refl _) _;refine⟨0,hb4.trans (hbi.mono hb4.size),(hbi.block _ (by omega)).trans q2,?_,by show (w2.heap.push _)[w2.heap.size]?=some _;exact Array.getElem?_push_size⟩;have:=hs2.later hbi;simpa [WS.put,iK,Hkn.out] using this
 case round=>
  obtain⟨j,hB⟩:=hrel;have hlen:(iK v c ((fieldsOf v.k).take j)).length<=100000000:=JH hf _ (by rw[List.length_take];omega);by_cases hj:j<(fieldsOf v.k).length
  ·obtain⟨x,hc⟩:∃x,(fieldsOf v.k)[j]?=some x:=⟨_,List.getElem?_eq_getElem hj⟩
   have hcl:=letters v.k j x hc;have hm:wr.iterPos w2.heap.size=j:=by simp[World.iterPos,hB.hi]
   obtain⟨hbi,g1,gw,gi⟩:=hB.skip hit;have goi:=ho.later hbi;obtain⟨-,c1,c2,c3,c4,c5,c6,-⟩:=au g1;rcases hcl with rfl|rfl|rfl|rfl|rfl|rfl
   ·have hn:∀ty,(Instr.next (.pointer (some ⟨w2.heap.size,0,none⟩)) true ty).run Tryz.prog wr=.ok (.tuple #[.bool true,.int .i64 j,.int .i32 110]) (wr.iterAt w2.heap.size ⟨(fieldsOf v.k).toArray⟩ (j+1)):=fun ty=>cZ wr w2.heap.size (fieldsOf v.k) j 110 ty hB.hi hc (by decide);go_wp2_with fail;refine (lI (w.heap.size+1) (w.heap.size+1) ⟨iK v c ((fieldsOf v.k).take j),0⟩ 2 v.name _ gw hlen (by have:=hf.name;omega)).mono ?_;rintro e w3 hT;have hN:=PutAt.put hbi g1 gi (by omega) hc (by decide) (by simp[eP]) hT;obtain⟨rfl,-⟩:=hT;go_wp2_with fail;go_roundw
    case rel=>exact⟨j+1,hN⟩
    case measure=>rw[hm];simp[World.iterPos,hN.hi];omega
   ·have hn:∀ty,(Instr.next (.pointer (some ⟨w2.heap.size,0,none⟩)) true ty).run Tryz.prog wr=.ok (.tuple #[.bool true,.int .i64 j,.int .i32 116]) (wr.iterAt w2.heap.size ⟨(fieldsOf v.k).toArray⟩ (j+1)):=fun ty=>cZ wr w2.heap.size (fieldsOf v.k) j 116 ty hB.hi hc (by decide);go_wp2_with fail;refine (lI (w.heap.size+1) (w.heap.size+1) ⟨iK v c ((fieldsOf v.k).take j),0⟩ 3 v.to _ gw hlen (by have:=hf.to_;omega)).mono ?_;rintro e w3 hT;have hN:=PutAt.put hbi g1 gi (by omega) hc (by decide) (by simp[eP]) hT;obtain⟨rfl,-⟩:=hT;go_wp2_with fail;go_roundw
    case rel=>exact⟨j+1,hN⟩
    case measure=>rw[hm];simp[World.iterPos,hN.hi];omega
   ·have hn:∀ty,(Instr.next (.pointer (some ⟨w2.heap.size,0,none⟩)) true ty).run Tryz.prog wr=.ok (.tuple #[.bool true,.int .i64 j,.int .i32 97]) (wr.iterAt w2.heap.size ⟨(fieldsOf v.k).toArray⟩ (j+1)):=fun ty=>cZ wr w2.heap.size (fieldsOf v.k) j 97 ty hB.hi hc (by decide);go_wp2_with fail;refine (Gv (w.heap.size+1) (w.heap.size+1) ⟨iK v c ((fieldsOf v.k).take j),0⟩ 4 v.ao v.an v.ac c.attrs _ gw rfl hlen goi.a hg.an hg.attrs).mono ?_;rintro e w3 ⟨⟨r,rfl⟩,q1,q2,q3⟩;have hN:=PutAt.put hbi g1 gi (by omega) hc (by decide) (by simp[eP]) (e:=.returned (.pointer (some ⟨w.heap.size+1,0,none⟩))) ⟨rfl,q1,q2,q3⟩;go_wp2_with fail;go_roundw
    case rel=>exact⟨j+1,hN⟩
    case measure=>rw[hm];simp[World.iterPos,hN.hi];omega
   ·have hn:∀ty,(Instr.next (.pointer (some ⟨w2.heap.size,0,none⟩)) true ty).run Tryz.prog wr=.ok (.tuple #[.bool true,.int .i64 j,.int .i32 112]) (wr.iterAt w2.heap.size ⟨(fieldsOf v.k).toArray⟩ (j+1)):=fun ty=>cZ wr w2.heap.size (fieldsOf v.k) j 112 ty hB.hi hc (by decide);go_wp2_with fail;refine (J3 (w.heap.size+1) (w.heap.size+1) ⟨iK v c ((fieldsOf v.k).take j),0⟩ 5 v c w.heap.size _ gw rfl hlen g1 goi hg.bn hg.parts).mono ?_;rintro e w3 hT;have hN:=PutAt.put hbi g1 gi (by omega) hc (by decide) (by simp[eP]) hT;obtain⟨rfl,-⟩:=hT;go_wp2_with fail;go_roundw
    case rel=>exact⟨j+1,hN⟩
    case measure=>rw[hm];simp[World.iterPos,hN.hi];omega
   ·have hn:∀ty,(Instr.next (.pointer (some ⟨w2.heap.size,0,none⟩)) true ty).run Tryz.prog wr=.ok (.tuple #[.bool true,.int .i64 j,.int .i32 99]) (wr.iterAt w2.heap.size ⟨(fieldsOf v.k).toArray⟩ (j+1)):=fun ty=>cZ wr w2.heap.size (fieldsOf v.k) j 99 ty hB.hi hc (by decide);go_wp2_with fail;refine (kF (w.heap.size+1) (w.heap.size+1) ⟨iK v c ((fieldsOf v.k).take j),0⟩ 6 c.cursor v.co v.cn v.cc _ gw hlen (by have:=hf.cur;have:=goi.c.1;rw[aP] at this;omega) goi.c (fun h0 a ha y hy=>Nw ho.c ha h0 hy)).mono ?_;rintro e w3 hT;have hN:=PutAt.put hbi g1 gi (by omega) hc (by decide) (by simp[eP]) hT;obtain⟨rfl,-⟩:=hT;go_wp2_with fail;go_roundw
    case rel=>exact⟨j+1,hN⟩
    case measure=>rw[hm];simp[World.iterPos,hN.hi];omega
   have hn:∀ty,(Instr.next (.pointer (some ⟨w2.heap.size,0,none⟩)) true ty).run Tryz.prog wr=.ok (.tuple #[.bool true,.int .i64 j,.int .i32 107]) (wr.iterAt w2.heap.size ⟨(fieldsOf v.k).toArray⟩ (j+1)):=fun ty=>cZ wr w2.heap.size (fieldsOf v.k) j 107 ty hB.hi hc (by decide);go_wp2_with fail;refine (pF (w.heap.size+1) (w.heap.size+1) ⟨iK v c ((fieldsOf v.k).take j),0⟩ 7 nn _ gw hlen).mono ?_;rintro e w3 hT;have hN:=PutAt.put hbi g1 gi (by omega) hc (by decide) (by simp[eP,Hnn.out]) hT;obtain⟨rfl,-⟩:=hT;go_wp2_with fail;go_roundw
   case rel=>exact⟨j+1,hN⟩
   case measure=>rw[hm];simp[World.iterPos,hN.hi];omega
  have hn:=fun ty=>run_next_end_at (P:=Tryz.prog) wr w2.heap.size ⟨(fieldsOf v.k).toArray⟩ j ty hB.hi hj;have hw:=hB.wr_;rw[List.take_of_length_le (by omega)] at hw hlen;obtain⟨y,hy⟩:=hw;go_wp2_with fail;refine (og _ _ _ _ _ hy hlen).mono ?_;rintro e w3 ⟨z,rfl,hz3,hb3'⟩;obtain⟨ao,cap,rfl,hr3⟩:=Rd.of_own hz3;go_wp2_with fail;go_ret;refine⟨ao,cap,rfl,hr3,hB.bel.trans (hb3'.mono hB.bel.size),fun a ha=>?_⟩;rcases hz3.2 with ⟨h,_⟩ | ⟨g,cc,cur,h,hg,_⟩
  ·have:=(Value.slice.inj h).1;rw[ha] at this;cases this
  have:=(Value.slice.inj h).1;rw[ha] at this;cases this;exact Nat.le_trans hB.bel.size hg
def aF (v:OV)(c:OC):Bool:=dW v c (bC c.attrs)
def yc (v:OV)(c:OC):List UInt8:=if aF v c then opL v c else []
theorem lM {x:ByteArray}(h:aV x=true):x.size<=1000:=by
 unfold aV at h;simp only[Bool.and_eq_true,decide_eq_true_eq] at h;exact h.1
theorem wM {u:ByteArray×ByteArray}(h:aK u=true):u.1.size<=1000/\u.2.size<=1000:=by
 unfold aK eF at h;simp only[Bool.and_eq_true,decide_eq_true_eq] at h;exact⟨by have:=h.1.1.1.2;omega,lM h.2⟩
theorem lH {v:OV}{c:OC}(W:World)(ho:OpAt W v c)(h:aF v c=true):Fits v c/\FitsA v c/\∀x,(eP v c x).length<=200000:=by
 have la:c.attrs.length=v.an:=by have:=ho.a.1;rw[fG] at this;omega
 have lb:c.parts.length=v.bn:=by have:=ho.b.1;rw[gG] at this;omega
 have lc:c.cursor.length=v.cn:=by have:=ho.c.1;rw[aP] at this;omega
 unfold aF dW at h;simp only[Bool.and_eq_true,decide_eq_true_eq,Bool.not_eq_true'] at h;obtain⟨⟨⟨⟨⟨⟨h1,h2⟩,h3⟩,h4⟩,h5⟩,h6⟩,h7⟩:=h;have hname:=lM h3;have hto:=lM h4;have hattr:∀u∈c.attrs,u.1.size<=1000/\u.2.size<=1000:=fun u hu=>by
  refine wM ?_;have:=List.any_eq_false.1 h6 u hu;simpa using this
 have hk:v.k=1\/v.k=2\/v.k=3\/v.k=4\/v.k=5\/v.k=6\/v.k=7\/v.k=8:=by
  rcases Classical.em (v.k=1\/v.k=2\/v.k=3\/v.k=4\/v.k=5\/v.k=6\/v.k=7\/v.k=8) with h | h
  ·exact h
  refine absurd ?_ h1;simp only[not_or] at h;obtain⟨a1,a2,a3,a4,a5,a6,a7,a8⟩:=h;simp only[fieldsOf,a1,a2,a3,a4,a5,a6,a7,a8,if_false]
 unfold bU at h2;simp only[decide_eq_true_eq] at h2;obtain⟨-,-,-,e4,e5,e6,e7⟩:=h2;have hrest:v.bn<=8/\(∀u∈c.parts,u.size<=1000)/\c.cursor.length<=4000/\0<=v.n/\v.n<=1000:=by
  by_cases h78:v.k=7\/v.k=8
  ·have k1:¬v.k=1:=by omega
   have k5:¬v.k=5:=by omega
   unfold nD at h7;rw[if_neg k1,if_neg k5] at h7;simp only[Bool.and_eq_true,decide_eq_true_eq,Bool.not_eq_true'] at h7;obtain⟨⟨⟨⟨r1,r2⟩,r3⟩,r4⟩,r5⟩:=h7;refine⟨r1,fun u hu=>lM ?_,by omega,r4,r5⟩;have:=List.any_eq_false.1 r2 u hu;simpa using this
  have hl:(112:UInt8)∉fieldsOf v.k/\(99:UInt8)∉fieldsOf v.k/\(107:UInt8)∉fieldsOf v.k:=by
   rcases hk with h | h | h | h | h | h | h | h<;>rw[h]<;>first | omega | decide
  have f1:c.parts=[]:=by rw[e5];unfold iR;rw[if_neg hl.1]
  have f2:c.cursor=[]:=by rw[e6];unfold iR;rw[if_neg hl.2.1]
  have f3:v.n=0:=by rw[e7];unfold bI;rw[if_neg hl.2.2]
  rw[f1] at lb;rw[f1,f2,f3];exact⟨by simp at lb;omega,fun u hu=>by simp at hu,by simp,by omega,by omega⟩
 obtain⟨r1,r2,r3,r4,r5⟩:=hrest;have hL:∀x,(eP v c x).length<=200000:=?_
 ·exact⟨⟨by omega,by omega,hname,hto,r3,r4,r5,fun x=>Nat.le_trans (hL x) (by decide)⟩,⟨h5,hattr,r1,r2⟩,hL⟩
 intro x;have ha:(aH c.attrs).length<=50*2015:=by
  have:=vJ c.attrs c.attrs.length (Nat.le_refl _);rw[List.take_length] at this;rw[<-this];have h9:=jR (atE c.attrs) 2015 c.attrs.length (fun i hi=>by
   have:=hattr c.attrs[i] (List.getElem_mem hi);simp only[atE,List.getElem?_eq_getElem hi,Option.getD_some,af,List.length_append,gy];omega)
  exact Nat.le_trans h9 (Nat.mul_le_mul_right 2015 (show c.attrs.length<=50 by omega))
 have hp:(bJ c.parts).length<=8*1005:=by
  have:=xX c.parts c.parts.length (Nat.le_refl _);rw[List.take_length] at this;rw[<-this];have h9:=jR (paE c.parts) 1005 c.parts.length (fun i hi=>by
   have:=r2 c.parts[i] (List.getElem_mem hi);simp only[paE,List.getElem?_eq_getElem hi,Option.getD_some,af,gy];omega)
  exact Nat.le_trans h9 (Nat.mul_le_mul_right 1005 (show c.parts.length<=8 by omega))
 unfold eP
 repeat' split
 all_goals simp only[af,gy,ah]
 all_goals omega
theorem mO (W:World)(v:OV)(c:OC)(ho:OpAt W v c):OpC v c (aF v c) (yc v c):=by
 refine⟨fun W' ho'=>Gg v c _ W' ho' (fun _ W2 h2=>oK _ _ _ _ _ h2.a h2.la),fun hm W' ho'=>?_,?_⟩
 ·obtain⟨f1,f2,-⟩:=lH W ho hm;unfold yc;rw[if_pos hm];exact CG v c W' ho' f1 f2
 unfold yc;split
 ·rename_i hm;obtain⟨-,-,f3⟩:=lH W ho hm;have h1:=xW (eP v c) 200000 f3 (fieldsOf v.k);have h2:=Nat.mul_le_mul_right 200000 (sH v.k);unfold opL iK;rw[List.length_append,af,ah];omega
 simp
end Go.Proofs.YtfmmandlmbcncaaGreatDoor.Msg
namespace Go.Proofs.YtfmmandlmbcncaaGreatDoor.Msg
open Go.RowKit Go.Lib Mem
theorem Eg (f:Value)(w:World):Calls Tryz.prog 140 #[.slice none 0 0,.slice none 0 0,f] w (aN true w):=by
 go_in;go_wp2_with fail;go_loopw [17] (fun p wr=>p=.int .i64 0/\wr=w) (fun _ _=>0)
 case atStart=>exact⟨rfl,rfl⟩
 case round=>
  obtain⟨rfl,rfl⟩:=hrel;go_wp2_with fail;go_ret;exact⟨rfl,Below.refl _ _⟩
theorem EZ (f:Value)(w:World):Calls Tryz.prog 172 #[.slice none 0 0,.slice none 0 0,f] w (aN true w):=by
 go_in;go_wp2_with fail;go_loopw [17] (fun p wr=>p=.int .i64 0/\wr=w) (fun _ _=>0)
 case atStart=>exact⟨rfl,rfl⟩
 case round=>
  obtain⟨rfl,rfl⟩:=hrel;go_wp2_with fail;go_ret;exact⟨rfl,Below.refl _ _⟩
theorem ED (w:World):Calls Tryz.prog 141 #[.slice none 0 0,.slice none 0 0] w (aN true w):=by
 go_in;go_wp2_with fail;go_loopw [13] (fun p wr=>p=.int .i64 0/\wr=w) (fun _ _=>0)
 case atStart=>exact⟨rfl,rfl⟩
 case round=>
  obtain⟨rfl,rfl⟩:=hrel;go_wp2_with fail;go_ret;exact⟨rfl,Below.refl _ _⟩
theorem xe (w:World):Calls Tryz.prog 121 #[.slice none 0 0,.slice none 0 0] w (aN true w):=
 (pO none none 0 0 0 0 [] [] w (Rd.nil _ _) (Rd.nil _ _) (by decide)).mono fun _ _ h=>h
theorem Af (r:RV)(c:OC)(w:World)(h:OpAt w r.op c):Calls Tryz.prog 138 #[r.val,r.val] w (aN true w):=by
 have hb0:Below w.heap.size w ((w.alloc r.box).alloc r.box):=bW w _ _;obtain⟨hx,hx'⟩:=df w r.box r.box;have ho:=h.later hb0;have hcall:=ru r.op r.op c c ((w.alloc r.box).alloc r.box) ho ho;rw[show bU r.op c r.op c=true from BD ⟨rfl,rfl,rfl,rfl,rfl,rfl,rfl⟩] at hcall;have hz:((w.alloc r.box).alloc r.box).heap.size=w.heap.size+1+1:=by simp
 clear ho;unfold RV.box at hx hx' hb0 hcall;unfold RV.cells at hx hx' hb0 hcall;unfold OV.val at hcall;unfold RV.val RV.cells;have g1:(r.cl==r.cl)=true:=by simp
 have g2:(r.nu==r.nu)=true:=by simp
 go_in;go_wp2_with fail;refine hcall.mono ?_;rintro e w1 ⟨rfl,hb1⟩;go_wp2_with fail;go_ret;exact⟨rfl,hb0.trans (hb1.mono hb0.size)⟩
theorem BG (code:Int)(yes:Bool)(w:World):Calls Tryz.prog 139 #[.agg #[.int .i64 code,.bool yes,.slice none 0 0,.slice none 0 0],.agg #[.int .i64 code,.bool yes,.slice none 0 0,.slice none 0 0]] w (aN true w):=by
 have g1:(code==code)=true:=by simp
 have g2:(yes==yes)=true:=by simp
 obtain⟨hx,hx'⟩:=df w (.cells #[.int .i64 code,.bool yes,.slice none 0 0,.slice none 0 0] 39) (.cells #[.int .i64 code,.bool yes,.slice none 0 0,.slice none 0 0] 39);have hb0:=bW w (.cells #[.int .i64 code,.bool yes,.slice none 0 0,.slice none 0 0] 39) (.cells #[.int .i64 code,.bool yes,.slice none 0 0,.slice none 0 0] 39);go_in;go_wp2_with fail;refine (EZ _ _).mono ?_;rintro e w1 ⟨rfl,hb1⟩;have k1:=(hb1.block _ (by simp only[World.size_alloc];omega)).trans hx;have k2:=(hb1.block _ (by simp only[World.size_alloc];omega)).trans hx';have hb2:=hb0.trans (hb1.mono hb0.size);have c1:w1.cell? ⟨w.heap.size,3,none⟩=some (.slice none 0 0):=by simp[World.cell?,k1]
 have c2:w1.cell? ⟨w.heap.size+1,3,none⟩=some (.slice none 0 0):=by simp[World.cell?,k2]
 go_wp2_with fail;refine (xe _).mono ?_;rintro e w2 ⟨rfl,hb3⟩;go_wp2_with fail;go_ret;exact⟨rfl,hb2.trans (hb3.mono hb2.size)⟩
structure FM where
 k:Int
 vi:Int
 no:Int
 fr:Int
 cl:Int
 nu:Int
 rq:RV
 co:Int
 ye:Bool
 at_:Int
 cm:Int
 ba:Int
 on:Int
 wh:Bool
def FM.cells (m:FM):Array Value:=#[.int .i64 m.k,.int .u64 m.vi,.int .u64 m.no,.int .i64 m.fr,.int .u64 m.cl,.int .u64 m.nu,
 .int .u64 m.rq.cl,.int .u64 m.rq.nu,.int .i64 m.rq.op.k,.string m.rq.op.name,.string m.rq.op.to,.slice m.rq.op.ao m.rq.op.an m.rq.op.ac,.slice m.rq.op.bo m.rq.op.bn m.rq.op.bc,.slice m.rq.op.co m.rq.op.cn m.rq.op.cc,.int .i64 m.rq.op.n,
 .int .i64 m.co,.bool m.ye,.slice none 0 0,.slice none 0 0,.int .u64 m.at_,.int .u64 m.cm,.int .u64 m.ba,.slice none 0 0,.slice none 0 0,.int .u64 m.on,.bool m.wh,.slice none 0 0]
def FM.val (m:FM):Value:=.agg m.cells
def FM.box (m:FM):Obj:=.cells m.cells 59
theorem aQ {W:World}{B:Nat}{m:FM}(h:W.heap[B]?=some m.box)(i:Nat)(v:Value)(hv:m.cells[i]?=some v):W.cell? ⟨B,i,none⟩=some v:=by
 unfold FM.box at h;simp[World.cell?,h,hv]
theorem GL (m:FM)(c:OC)(w:World)(h:OpAt w m.rq.op c):Calls Tryz.prog 102 #[m.val,m.val] w (aN true w):=by
 have hb0:Below w.heap.size w ((w.alloc m.box).alloc m.box):=bW w _ _;obtain⟨hx,hx'⟩:=df w m.box m.box;have hz:((w.alloc m.box).alloc m.box).heap.size=w.heap.size+1+1:=by simp
 have hcall:=Af m.rq c ((w.alloc m.box).alloc m.box) (h.later hb0);have g1:(m.k==m.k)=true:=by simp
 have g2:(m.vi==m.vi)=true:=by simp
 have g3:(m.no==m.no)=true:=by simp
 have g4:(m.fr==m.fr)=true:=by simp
 have g5:(m.cl==m.cl)=true:=by simp
 have g6:(m.nu==m.nu)=true:=by simp
 have g7:(m.at_==m.at_)=true:=by simp
 have g8:(m.cm==m.cm)=true:=by simp
 have g9:(m.ba==m.ba)=true:=by simp
 have g10:(m.on==m.on)=true:=by simp
 have g11:(m.wh==m.wh)=true:=by simp
 unfold FM.box at hb0 hcall hz;unfold RV.val at hcall;unfold RV.cells at hcall;unfold FM.cells at hb0 hcall hz;unfold FM.val FM.cells;go_in;go_wp2_with fail;refine hcall.mono ?_;rintro e w1 ⟨rfl,hb1x⟩;have hz1:w.heap.size+1+1<=w1.heap.size:=by have:=hb1x.size;rw[hz] at this;exact this
 have k1_1:w1.heap[w.heap.size]?=some m.box:=(hb1x.block _ (by rw[hz];omega)).trans hx;have k2_1:w1.heap[w.heap.size+1]?=some m.box:=(hb1x.block _ (by rw[hz];omega)).trans hx';have hb1:=hb0.trans (hb1x.mono hb0.size);clear hx hx' hcall hz;have a15:w1.cell? ⟨w.heap.size,15,none⟩=some (.int .i64 m.co):=aQ k1_1 15 _ rfl;have b15:w1.cell? ⟨w.heap.size+1,15,none⟩=some (.int .i64 m.co):=aQ k2_1 15 _ rfl;have a16:w1.cell? ⟨w.heap.size,16,none⟩=some (.bool m.ye):=aQ k1_1 16 _ rfl;have b16:w1.cell? ⟨w.heap.size+1,16,none⟩=some (.bool m.ye):=aQ k2_1 16 _ rfl;have a17:w1.cell? ⟨w.heap.size,17,none⟩=some (.slice none 0 0):=aQ k1_1 17 _ rfl;have b17:w1.cell? ⟨w.heap.size+1,17,none⟩=some (.slice none 0 0):=aQ k2_1 17 _ rfl;have a18:w1.cell? ⟨w.heap.size,18,none⟩=some (.slice none 0 0):=aQ k1_1 18 _ rfl;have b18:w1.cell? ⟨w.heap.size+1,18,none⟩=some (.slice none 0 0):=aQ k2_1 18 _ rfl;go_wp2_with fail;clear a15 b15 a16 b16 a17 b17 a18 b18;refine (BG m.co m.ye _).mono ?_;rintro e w2 ⟨rfl,hb2x⟩;have hz2:w.heap.size+1+1<=w2.heap.size:=Nat.le_trans hz1 hb2x.size;have k1_2:=(hb2x.block w.heap.size (by omega)).trans k1_1;have k2_2:=(hb2x.block (w.heap.size+1) (by omega)).trans k2_1;have hb2:=hb1.trans (hb2x.mono hb1.size);have a19:w2.cell? ⟨w.heap.size,19,none⟩=some (.int .u64 m.at_):=aQ k1_2 19 _ rfl;have b19:w2.cell? ⟨w.heap.size+1,19,none⟩=some (.int .u64 m.at_):=aQ k2_2 19 _ rfl;have a20:w2.cell? ⟨w.heap.size,20,none⟩=some (.int .u64 m.cm):=aQ k1_2 20 _ rfl;have b20:w2.cell? ⟨w.heap.size+1,20,none⟩=some (.int .u64 m.cm):=aQ k2_2 20 _ rfl;have a21:w2.cell? ⟨w.heap.size,21,none⟩=some (.int .u64 m.ba):=aQ k1_2 21 _ rfl;have b21:w2.cell? ⟨w.heap.size+1,21,none⟩=some (.int .u64 m.ba):=aQ k2_2 21 _ rfl;have a22:w2.cell? ⟨w.heap.size,22,none⟩=some (.slice none 0 0):=aQ k1_2 22 _ rfl;have b22:w2.cell? ⟨w.heap.size+1,22,none⟩=some (.slice none 0 0):=aQ k2_2 22 _ rfl;go_wp2_with fail;clear a19 b19 a20 b20 a21 b21 a22 b22;refine (xe _).mono ?_;rintro e w3 ⟨rfl,hb3x⟩;have hz3:w.heap.size+1+1<=w3.heap.size:=Nat.le_trans hz2 hb3x.size;have k1_3:=(hb3x.block w.heap.size (by omega)).trans k1_2;have k2_3:=(hb3x.block (w.heap.size+1) (by omega)).trans k2_2;have hb3:=hb2.trans (hb3x.mono hb2.size);have a23:w3.cell? ⟨w.heap.size,23,none⟩=some (.slice none 0 0):=aQ k1_3 23 _ rfl;have b23:w3.cell? ⟨w.heap.size+1,23,none⟩=some (.slice none 0 0):=aQ k2_3 23 _ rfl;go_wp2_with fail;clear a23 b23;refine (Eg _ _).mono ?_;rintro e w4 ⟨rfl,hb4x⟩;have hz4:w.heap.size+1+1<=w4.heap.size:=Nat.le_trans hz3 hb4x.size;have k1_4:=(hb4x.block w.heap.size (by omega)).trans k1_3;have k2_4:=(hb4x.block (w.heap.size+1) (by omega)).trans k2_3;have hb4:=hb3.trans (hb4x.mono hb3.size);have a24:w4.cell? ⟨w.heap.size,24,none⟩=some (.int .u64 m.on):=aQ k1_4 24 _ rfl;have b24:w4.cell? ⟨w.heap.size+1,24,none⟩=some (.int .u64 m.on):=aQ k2_4 24 _ rfl;have a25:w4.cell? ⟨w.heap.size,25,none⟩=some (.bool m.wh):=aQ k1_4 25 _ rfl;have b25:w4.cell? ⟨w.heap.size+1,25,none⟩=some (.bool m.wh):=aQ k2_4 25 _ rfl;have a26:w4.cell? ⟨w.heap.size,26,none⟩=some (.slice none 0 0):=aQ k1_4 26 _ rfl;have b26:w4.cell? ⟨w.heap.size+1,26,none⟩=some (.slice none 0 0):=aQ k2_4 26 _ rfl;go_wp2_with fail;clear a24 b24 a25 b25 a26 b26;refine (ED _).mono ?_;rintro e w5 ⟨rfl,hb5x⟩;have hz5:w.heap.size+1+1<=w5.heap.size:=Nat.le_trans hz4 hb5x.size;have k1_5:=(hb5x.block w.heap.size (by omega)).trans k1_4;have k2_5:=(hb5x.block (w.heap.size+1) (by omega)).trans k2_4;have hb5:=hb4.trans (hb5x.mono hb4.size);go_wp2_with fail;go_ret;exact⟨rfl,hb5⟩
end Go.Proofs.YtfmmandlmbcncaaGreatDoor.Msg
namespace Go.Proofs.YtfmmandlmbcncaaGreatDoor.Msg
open Go.RowKit Go.Lib Mem Tlv
theorem Az (f:Value)(w:World):Calls Tryz.prog 142 #[.slice none 0 0,f] w fun e w'=>e=.returned (.int .i64 (-1))/\Below w.heap.size w w':=by
 go_in;go_wp2_with fail;go_loopw [8] (fun p wr=>p=.int .i64 0/\wr=w) (fun _ _=>0)
 case atStart=>exact⟨rfl,rfl⟩
 case round=>
  obtain⟨rfl,rfl⟩:=hrel;go_wp2_with fail;go_ret;exact⟨rfl,Below.refl _ _⟩
theorem wQ (f:Value)(w:World):Calls Tryz.prog 103 #[.slice none 0 0,f] w (aN false w):=by
 go_in;go_wp2_with fail;refine (Az f w).mono ?_;rintro e w1 ⟨rfl,hb1⟩;go_wp2_with fail;go_ret;exact⟨rfl,hb1⟩
end Go.Proofs.YtfmmandlmbcncaaGreatDoor.Msg
