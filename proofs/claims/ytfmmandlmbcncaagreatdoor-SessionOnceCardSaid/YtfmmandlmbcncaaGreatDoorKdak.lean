/-
  A part of the proof.
-/
import Derived.Lib.Bytealg
import Derived.Test.YtfmmandlmbcncaaGreatDoorKdaj
set_option maxHeartbeats 40000000
set_option maxRecDepth 100000
namespace Go.Proofs.YtfmmandlmbcncaaGreatDoor.Msg
open Go.RowKit Go.Lib Mem Utf
theorem EE (a b:ByteArray)(w:World):Calls Tryz.prog 183 #[.string a,.string b] w fun e w'=>e=.returned (.int .i64 (compareBytes a.data.toList b.data.toList))/\w'=w:=by
 go_in;go_wp2;rw[run_callFunc_extern Tryz.func227 (by kernel_rfl) (by kernel_rfl) (by kernel_rfl) (e:=Extern.BytealgCompare.compare) (by kernel_rfl),run_compareString];simp only[Result.andThen];rw[Oper.upon_value];go_wp2;go_ret;exact⟨rfl,rfl⟩
theorem wS (a b:ByteArray)(w:World):Calls Tryz.prog 155 #[.string a,.string b] w fun e w'=>e=.returned (.int .i64 (compareBytes a.data.toList b.data.toList))/\w'=w:=by
 go_in;go_wp2_with fail;refine (EE _ _ _).mono ?_;rintro e w1 ⟨rfl,rfl⟩;go_wp2_with fail;go_ret;exact⟨rfl,rfl⟩
def orI (x y:Int):Int:=if x=0 then y else x
theorem P6 (x y:Int)(b:Nat)(w:World)(h:Rd w 1 (some ⟨b,0,none⟩) 2 2 [.int .i64 x,.int .i64 y]):Calls Tryz.prog 154 #[.slice (some ⟨b,0,none⟩) 2 2] w fun e w'=>e=.returned (.int .i64 (orI x y))/\w'=w:=by
 have hc:=(h.2.2.2.2 (by decide) _ rfl).2.2;have c0:w.cell? ⟨b,0,none⟩=some (.int .i64 x):=hc 0 _ rfl;have c1:w.cell? ⟨b,1,none⟩=some (.int .i64 y):=hc 1 _ rfl;go_in;go_wp2_with fail;go_loopw [8] (fun p wr=>∃k:Nat,k<=2/\p=.int .i64 (k:Int)/\(1<=k->x=0)/\(2<=k->y=0)/\wr=w) (fun p _=>2-(intOf p).toNat)
 case atStart=>exact⟨0,by omega,rfl,fun h=>by omega,fun h=>by omega,rfl⟩
 case round=>
  obtain⟨k,hk,rfl,hx0,hy0,rfl⟩:=hrel;rcases (by omega:k=0\/k=1\/k=2) with rfl|rfl|rfl
  ·by_cases hx:x=0
   ·have f1:(x==0)=true:=by simp[hx]
    have HX:=hid hx;clear hx hx0 hy0;go_wp2_with fail;go_roundw
    case rel=>exact⟨1,by omega,rfl,fun _=>HX.out,fun h=>by omega,trivial⟩
    case measure=>simp[intOf]
   have f1:(x==0)=false:=by simp[hx]
   have HX:=hid hx;clear hx hx0 hy0;go_wp2_with fail;go_ret;exact⟨by unfold orI;rw[if_neg HX.out];rfl,rfl⟩
  ·have hx:=hx0 (by omega);clear hx0 hy0;have HX:=hid hx;clear hx;by_cases hy:y=0
   ·have f1:(y==0)=true:=by simp[hy]
    have HY:=hid hy;clear hy;go_wp2_with fail;go_roundw
    case rel=>exact⟨2,by omega,rfl,fun _=>HX.out,fun _=>HY.out,trivial⟩
    case measure=>simp[intOf]
   have f1:(y==0)=false:=by simp[hy]
   clear hy;go_wp2_with fail;go_ret;exact⟨by unfold orI;rw[if_pos HX.out];rfl,rfl⟩
  have hx:=hx0 (by omega);have hy:=hy0 (by omega);have HX:=hid hx;have HY:=hid hy;clear hx0 hy0 hx hy;go_wp2_with fail;go_ret;exact⟨by unfold orI;rw[if_pos HX.out,HY.out];rfl,rfl⟩
def lm (a b:ByteArray×ByteArray):Int:=orI (compareBytes a.1.data.toList b.1.data.toList) (compareBytes a.2.data.toList b.2.data.toList)
def bC (x:ByteArray×ByteArray):Obj:=.cells #[.string x.1,.string x.2] 106
theorem aQ {W:World}{B:Nat}{x:ByteArray×ByteArray}(h:W.heap[B]?=some (bC x)):W.cell? ⟨B,0,none⟩=some (.string x.1)/\W.cell? ⟨B,1,none⟩=some (.string x.2):=by
 unfold bC at h;simp[World.cell?,h]
def InAB (w:World)(a b:ByteArray×ByteArray)(W:World):Prop:=W.heap[w.heap.size]?=some (bC a)/\W.heap[w.heap.size+1]?=some (bC b)/\Below w.heap.size w W
theorem InAB.step {w W W':World}{a b:ByteArray×ByteArray}(h:InAB w a b W)(hb:Below W.heap.size W W'):InAB w a b W':=
 ⟨(hb.block _ (Array.getElem?_eq_some_iff.1 h.1).1).trans h.1,(hb.block _ (Array.getElem?_eq_some_iff.1 h.2.1).1).trans h.2.1,h.2.2.trans (hb.mono h.2.2.size)⟩
theorem vH (a b:ByteArray×ByteArray)(w:World):Calls Tryz.prog 123 #[.agg #[.string a.1,.string a.2],.agg #[.string b.1,.string b.2]] w fun e w'=>e=.returned (.int .i64 (lm a b))/\Below w.heap.size w w':=by
 have hmo:Tryz.prog.follows .mixedOrders=true:=by kernel_rfl
 obtain⟨x1,hx1⟩:∃x1,compareBytes a.1.data.toList b.1.data.toList=x1:=⟨_,rfl⟩
 obtain⟨x2,hx2⟩:∃x2,compareBytes a.2.data.toList b.2.data.toList=x2:=⟨_,rfl⟩
 have Hx:Hid (lm a b=orI x1 x2):=hid (by unfold lm;rw[hx1,hx2]);have hs1:=fun W=>wS a.1 b.1 W;have hs2:=fun W=>wS a.2 b.2 W;rw[hx1] at hs1;rw[hx2] at hs2;clear hx1 hx2;go_in;go_wp2_with fail;generalize hg:(w.alloc _).alloc _=W0;have s0:InAB w a b W0.drew:=by
  obtain⟨h1,h2⟩:=bY w (bC a) (bC b);rw[<-hg];exact⟨h1,h2,(bU w _ _).drew⟩
 clear hg;refine wp_region_held (S:=InAB w a b) hmo ?_;change wpAnyH _ _ _ _ _ _ _ _ (World.drew W0);generalize W0.drew=V0 at *;refine zHp 0 (.pointer (some ⟨w.heap.size,0,none⟩)) rfl s0 ?_;go_simp;refine zHa 1 (.string a.1) rfl (by rintro w h;obtain⟨c0,c1⟩:=aQ h.1;obtain⟨d0,d1⟩:=aQ h.2.1;go_simp) s0 ?_;go_simp;refine zHp 2 (.pointer (some ⟨w.heap.size+1,0,none⟩)) rfl s0 ?_;go_simp;refine zHa 3 (.string b.1) rfl (by rintro w h;obtain⟨c0,c1⟩:=aQ h.1;obtain⟨d0,d1⟩:=aQ h.2.1;go_simp) s0 ?_;go_simp;refine zHp 5 (.pointer (some ⟨w.heap.size,1,none⟩)) rfl s0 ?_;go_simp;refine zHa 6 (.string a.2) rfl (by rintro w h;obtain⟨c0,c1⟩:=aQ h.1;obtain⟨d0,d1⟩:=aQ h.2.1;go_simp) s0 ?_;go_simp;refine zHp 7 (.pointer (some ⟨w.heap.size+1,1,none⟩)) rfl s0 ?_;go_simp;refine zHa 8 (.string b.2) rfl (by rintro w h;obtain⟨c0,c1⟩:=aQ h.1;obtain⟨d0,d1⟩:=aQ h.2.1;go_simp) s0 ?_;go_simp;refine zH1 4 rfl (fun K hK=>?_);go_simp;refine (hs1 _).mono ?_;rintro e W1 ⟨rfl,rfl⟩;go_simp;refine hK _ _ ⟨s0,?_⟩;clear hK K;refine zH1 9 rfl (fun K hK=>?_);go_simp;refine (hs2 _).mono ?_;rintro e W2 ⟨rfl,rfl⟩;go_simp;refine hK _ _ ⟨s0,?_⟩;clear hK K;refine zH1 10 rfl (fun K hK=>?_);go_simp;generalize hg:W2.alloc _=W3;have e:W2.alloc (.cells #[.int .i64 x1,.int .i64 x2] 3)=W3:=hg;have hb3:Below W2.heap.size W2 W3:=by rw[<-e];exact (Below.refl _ _).alloc (Nat.le_refl _) _
 have hr3:Rd W3 1 (some ⟨W2.heap.size,0,none⟩) 2 2 [.int .i64 x1,.int .i64 x2]:=by rw[<-e];exact Rd.new W2 [.int .i64 x1,.int .i64 x2] 3 (0,0) 1 2 rfl (by decide)
 clear hg e;have s1:=s0.step hb3;refine hK _ _ ⟨s1,?_⟩;clear hK K;refine zH1 11 rfl (fun K hK=>?_);go_simp;refine (P6 x1 x2 _ W3 hr3).mono ?_;rintro e W4 ⟨rfl,rfl⟩;go_simp;refine hK _ _ ⟨s1,?_⟩;clear hK K;refine zHp 12 (.int .i64 (orI x1 x2)) rfl s1 ?_;go_simp;refine wpAnyH_done (by kernel_rfl) ?_ _;go_wp2_with fail;go_ret;exact⟨by rw[Hx.out];rfl,s1.2.2⟩
def rise:List (ByteArray×ByteArray)->Bool
 | a::b::l=>decide (lm a b<0)&&rise (b::l)
 | _=>true
def bH (l:List (ByteArray×ByteArray)):Bool:=l.all aW&&rise l&&decide (l.length<=50)
theorem zu (x:ByteArray×ByteArray):∀(l:List (ByteArray×ByteArray)),rise l=true->(∀y,l.getLast?=some y->lm y x<0)->rise (l++[x])=true
 | [],_,_=>rfl
 | [a],_,h=>by
  have:=h a rfl;simp[rise,this]
 | a::b::l,h,h2=>by
  simp only[rise,Bool.and_eq_true] at h;have:=zu x (b::l) h.2 (fun y hy=>h2 y (by rw[List.getLast?_cons_cons];exact hy));simp only[List.cons_append,rise,Bool.and_eq_true];exact⟨h.1,this⟩
theorem yO:∀(k:Nat) (l:List (ByteArray×ByteArray)) (a b:ByteArray×ByteArray),l[k]?=some a->l[k+1]?=some b->¬lm a b<0->rise l=false
 | 0,x::y::l,a,b,h1,h2,h=>by
  simp at h1 h2;subst h1 h2;simp[rise,h]
 | k+1,x::y::l,a,b,h1,h2,h=>by
  have:=yO k (y::l) a b (by simpa using h1) (by simpa using h2) h;simp[rise,this]
 | 0,[x],a,b,h1,h2,h=>by simp at h2
 | k+1,[x],a,b,h1,h2,h=>by simp at h1
 | _,[],a,b,h1,h2,h=>by simp at h1
theorem oG (l:List (ByteArray×ByteArray))(k:Nat)(u:ByteArray×ByteArray)(hu:l[k]?=some u)(h:rise (l.take k)=true)(hc:∀p,0<k->l[k-1]?=some p->lm p u<0):rise (l.take (k+1))=true:=by
 obtain⟨hl,e⟩:=List.getElem?_eq_some_iff.1 hu;rw[List.take_succ_eq_append_getElem hl,e];refine zu u _ h (fun y hy=>?_);have hk:0<k:=by
  rcases Nat.eq_zero_or_pos k with h0 | h0
  ·subst h0;simp at hy
  exact h0
 refine hc y hk ?_;rw[List.getLast?_eq_getElem?,List.length_take,Nat.min_eq_left (by omega),List.getElem?_take_of_lt (by omega)] at hy;exact hy
def InAt (wr:World)(u p:ByteArray×ByteArray)(b o:Nat)(W:World):Prop:=W.heap[wr.heap.size]?=some (bC u)/\W.cell? ⟨b,o,none⟩=some (.string p.1)/\W.cell? ⟨b,o+1,none⟩=some (.string p.2)/\Below wr.heap.size wr W
theorem InAt.step {wr W W':World}{u p:ByteArray×ByteArray}{b o:Nat}(h:InAt wr u p b o W)(hb:Below W.heap.size W W'):InAt wr u p b o W':=
 ⟨(hb.block _ (Array.getElem?_eq_some_iff.1 h.1).1).trans h.1,(hb.cell (World.block_lt_of_cell? W _ h.2.1)).trans h.2.1,(hb.cell (World.block_lt_of_cell? W _ h.2.2.1)).trans h.2.2.1,h.2.2.2.trans (hb.mono h.2.2.2.size)⟩
theorem nN (ao:Option Addr)(n cap:Nat)(x:List (ByteArray×ByteArray))(w:World)(hx:Rd w 2 ao n cap (atV x))(hn:n<=9223372036854775807) :
  Calls Tryz.prog 79 #[.slice ao n cap] w (aY (bH x) w):=by
 have hmo:Tryz.prog.follows .mixedOrders=true:=by kernel_rfl
 have lx:x.length=n:=by have:=hx.1;rw[fE] at this;omega
 have LX:=hid lx;clear lx;go_in;go_wp2_with fail;go_loopw [7] (fun p wr=>∃k:Nat,k<=n/\p=.int .i64 (k:Int)/\Hid ((x.take k).all aW=true)/\Hid (rise (x.take k)=true)/\Below w.heap.size w wr) (fun p _=>n-(intOf p).toNat)
 case atStart=>exact⟨0,Nat.zero_le _,rfl,hid rfl,hid rfl,Below.refl _ _⟩
 case round=>
  obtain⟨k,hk,rfl,Ha,Hr,hbr⟩:=hrel;by_cases hkn:k<n
  ·obtain⟨b1,o1,rfl,hl1,hc1⟩:=hx.some (by have:=hx.le;omega);obtain⟨u,hu⟩:∃u,x[k]?=some u:=⟨_,List.getElem?_eq_getElem (by rw[LX.out];exact hkn)⟩
   obtain⟨p,hp⟩:∃p,x[k-1]?=some p:=⟨_,List.getElem?_eq_getElem (by rw[LX.out];omega)⟩
   obtain⟨v1,v2⟩:=jE x k u hu;obtain⟨v3,v4⟩:=jE x (k-1) p hp;have c1:=(hbr.cell (p:=⟨b1,o1+k*2,none⟩) hl1).trans (hc1 (k*2) _ v1);have c2:wr.cell? ⟨b1,o1+k*2+1,none⟩=_:=(hbr.cell (p:=⟨b1,o1+(k*2+1),none⟩) hl1).trans (hc1 (k*2+1) _ v2);have c3:=(hbr.cell (p:=⟨b1,o1+(k-1)*2,none⟩) hl1).trans (hc1 ((k-1)*2) _ v3);have c4:wr.cell? ⟨b1,o1+(k-1)*2+1,none⟩=_:=(hbr.cell (p:=⟨b1,o1+((k-1)*2+1),none⟩) hl1).trans (hc1 ((k-1)*2+1) _ v4);clear v1 v2 v3 v4;have i0:(0:Int)<=(k:Int):=by omega
   have i1:(k:Int)<(n:Int):=by omega
   go_upto_region 4 with fail;generalize hg:wr.alloc _=W0;have hb0:Below wr.heap.size wr W0:=by rw[<-hg];exact (Below.refl _ _).alloc (Nat.le_refl _) _
   have k1:W0.heap[wr.heap.size]?=some (bC u):=by rw[<-hg];show (wr.heap.push _)[wr.heap.size]?=some _;exact Array.getElem?_push_size
   have s0:InAt wr u p b1 (o1+(k-1)*2) W0.drew:=⟨k1,(hb0.cell (World.block_lt_of_cell? wr _ c3)).trans c3,(hb0.cell (World.block_lt_of_cell? wr _ c4)).trans c4,hb0.drew⟩
   clear hg hb0 k1 c1 c2 c3 c4;have hbw:=hbr.size;by_cases hm:aW u=true
   ·have HM:=hid hm;have hall:Hid ((x.take (k+1)).all aW=true):=hid (by obtain⟨hl,e⟩:=List.getElem?_eq_some_iff.1 hu;rw[List.take_succ_eq_append_getElem hl,e,List.all_append,Ha.out];simp[hm]);clear hm;by_cases hk0:k=0
    ·have HR:Hid (rise (x.take (k+1))=true):=hid (oG x k u hu Hr.out (fun p h=>absurd hk0 (by omega)));have g1:decide ((0:Int)<(k:Int))=false:=decide_eq_false (by omega);clear hk0;refine wp_region_held (S:=InAt wr u p b1 (o1+(k-1)*2)) hmo ?_;change wpAnyH _ _ _ _ _ _ _ _ (World.drew W0);refine zHa 0 (.agg #[.string u.1,.string u.2]) rfl (by rintro w h;obtain⟨c0,c1⟩:=aQ h.1;have c2:=h.2.1;have c3:=h.2.2.1;go_simp) s0 ?_;go_simp;refine zH1 1 rfl (fun K hK=>?_);go_simp;refine (jY u _).mono ?_;rintro e W1 ⟨rfl,hb1⟩;rw[HM.out];have s1:=s0.step hb1;go_simp;refine hK _ _ ⟨s1,?_⟩;clear hK K;refine zHa 2 (.bool false) rfl (by rintro w h;obtain⟨c0,c1⟩:=aQ h.1;have c2:=h.2.1;have c3:=h.2.2.1;go_simp) s1 ?_;go_simp;refine zHp 3 (.bool false) rfl s1 ?_;go_simp;refine zHp 4 (.int .i64 (k:Int)) rfl s1 ?_;go_simp;refine zHa 5 (.bool false) rfl (by rintro w h;obtain⟨c0,c1⟩:=aQ h.1;have c2:=h.2.1;have c3:=h.2.2.1;go_simp;have:=of_decide_eq_false g1;omega) s1 ?_;go_simp;refine zHp 6 (.bool false) rfl s1 ?_;go_simp;refine zHo 7 rfl s1 ?_;go_simp;refine zHo 8 rfl s1 ?_;go_simp;refine zHo 9 rfl s1 ?_;go_simp;refine zHo 10 rfl s1 ?_;go_simp;refine zHo 11 rfl s1 ?_;go_simp;refine zHo 12 rfl s1 ?_;go_simp;refine zHo 13 rfl s1 ?_;go_simp;refine zHo 14 rfl s1 ?_;go_simp;refine zHp 15 (.bool false) rfl s1 ?_;go_simp;refine zHp 16 (.bool false) rfl s1 ?_;go_simp;refine wpAnyH_done (by kernel_rfl) ?_ _;go_wp2_with fail;go_roundw
     case rel=>exact⟨k+1,by omega,by go_num,hall,HR,hbr.trans (s1.2.2.2.mono hbw)⟩
     case measure=>simp[intOf];omega
    have g1:decide ((0:Int)<(k:Int))=true:=decide_eq_true (by omega);have g2:IntKind.wrap .i64 ((k:Int)-1)=((k-1:Nat):Int):=by rw[IntKind.wrap_i64];omega
    have i2:(0:Int)<=((k-1:Nat):Int):=by omega
    have i3:((k-1:Nat):Int)<(n:Int):=by omega
    by_cases hcm:lm p u<0
    ·have g3:decide ((0:Int)<=lm p u)=false:=decide_eq_false (by omega);have HR:Hid (rise (x.take (k+1))=true):=hid (oG x k u hu Hr.out (fun q _ hq=>by rw[hp] at hq;rw[<-Option.some.inj hq];exact hcm));clear hcm;refine wp_region_held (S:=InAt wr u p b1 (o1+(k-1)*2)) hmo ?_;change wpAnyH _ _ _ _ _ _ _ _ (World.drew W0);refine zHa 0 (.agg #[.string u.1,.string u.2]) rfl (by rintro w h;obtain⟨c0,c1⟩:=aQ h.1;have c2:=h.2.1;have c3:=h.2.2.1;go_simp) s0 ?_;go_simp;refine zH1 1 rfl (fun K hK=>?_);go_simp;refine (jY u _).mono ?_;rintro e W1 ⟨rfl,hb1⟩;rw[HM.out];have s1:=s0.step hb1;go_simp;refine hK _ _ ⟨s1,?_⟩;clear hK K;refine zHa 2 (.bool false) rfl (by rintro w h;obtain⟨c0,c1⟩:=aQ h.1;have c2:=h.2.1;have c3:=h.2.2.1;go_simp) s1 ?_;go_simp;refine zHp 3 (.bool false) rfl s1 ?_;go_simp;refine zHp 4 (.int .i64 (k:Int)) rfl s1 ?_;go_simp;refine zHa 5 (.bool true) rfl (by rintro w h;obtain⟨c0,c1⟩:=aQ h.1;have c2:=h.2.1;have c3:=h.2.2.1;go_simp;have:=of_decide_eq_true g1;omega) s1 ?_;go_simp;refine zHp 6 (.bool true) rfl s1 ?_;go_simp;refine zHp 7 (.slice (some ⟨b1,o1,none⟩) n cap) rfl s1 ?_;go_simp;refine zHp 8 (.int .i64 (k:Int)) rfl s1 ?_;go_simp;refine zHa 9 (.int .i64 ((k-1:Nat):Int)) rfl (by rintro w h;obtain⟨c0,c1⟩:=aQ h.1;have c2:=h.2.1;have c3:=h.2.2.1;go_simp) s1 ?_;go_simp;refine zHa 10 (.pointer (some ⟨b1,o1+(k-1)*2,none⟩)) rfl (by rintro w h;obtain⟨c0,c1⟩:=aQ h.1;have c2:=h.2.1;have c3:=h.2.2.1;go_simp) s1 ?_;go_simp;refine zHa 11 (.agg #[.string p.1,.string p.2]) rfl (by rintro w h;obtain⟨c0,c1⟩:=aQ h.1;have c2:=h.2.1;have c3:=h.2.2.1;go_simp) s1 ?_;go_simp;refine zHa 12 (.agg #[.string u.1,.string u.2]) rfl (by rintro w h;obtain⟨c0,c1⟩:=aQ h.1;have c2:=h.2.1;have c3:=h.2.2.1;go_simp) s1 ?_;go_simp;refine zH1 13 rfl (fun K hK=>?_);go_simp;refine (vH p u _).mono ?_;rintro e W2 ⟨rfl,hb2⟩;have s2:=s1.step hb2;go_simp;refine hK _ _ ⟨s2,?_⟩;clear hK K;refine zHa 14 (.bool false) rfl (by rintro w h;obtain⟨c0,c1⟩:=aQ h.1;have c2:=h.2.1;have c3:=h.2.2.1;go_simp) s2 ?_;go_simp;refine zHp 15 (.bool false) rfl s2 ?_;go_simp;refine zHp 16 (.bool false) rfl s2 ?_;go_simp;refine wpAnyH_done (by kernel_rfl) ?_ _;go_wp2_with fail;go_roundw
     case rel=>exact⟨k+1,by omega,by go_num,hall,HR,hbr.trans (s2.2.2.2.mono hbw)⟩
     case measure=>simp[intOf];omega
    have g3:decide ((0:Int)<=lm p u)=true:=decide_eq_true (by omega);have HR:Hid (bH x=false):=hid (by unfold bH;rw[yO (k-1) x p u hp (by rw[show k-1+1=k from by omega];exact hu) hcm];simp);clear hcm;refine wp_region_held (S:=InAt wr u p b1 (o1+(k-1)*2)) hmo ?_;change wpAnyH _ _ _ _ _ _ _ _ (World.drew W0);refine zHa 0 (.agg #[.string u.1,.string u.2]) rfl (by rintro w h;obtain⟨c0,c1⟩:=aQ h.1;have c2:=h.2.1;have c3:=h.2.2.1;go_simp) s0 ?_;go_simp;refine zH1 1 rfl (fun K hK=>?_);go_simp;refine (jY u _).mono ?_;rintro e W1 ⟨rfl,hb1⟩;rw[HM.out];have s1:=s0.step hb1;go_simp;refine hK _ _ ⟨s1,?_⟩;clear hK K;refine zHa 2 (.bool false) rfl (by rintro w h;obtain⟨c0,c1⟩:=aQ h.1;have c2:=h.2.1;have c3:=h.2.2.1;go_simp) s1 ?_;go_simp;refine zHp 3 (.bool false) rfl s1 ?_;go_simp;refine zHp 4 (.int .i64 (k:Int)) rfl s1 ?_;go_simp;refine zHa 5 (.bool true) rfl (by rintro w h;obtain⟨c0,c1⟩:=aQ h.1;have c2:=h.2.1;have c3:=h.2.2.1;go_simp;have:=of_decide_eq_true g1;omega) s1 ?_;go_simp;refine zHp 6 (.bool true) rfl s1 ?_;go_simp;refine zHp 7 (.slice (some ⟨b1,o1,none⟩) n cap) rfl s1 ?_;go_simp;refine zHp 8 (.int .i64 (k:Int)) rfl s1 ?_;go_simp;refine zHa 9 (.int .i64 ((k-1:Nat):Int)) rfl (by rintro w h;obtain⟨c0,c1⟩:=aQ h.1;have c2:=h.2.1;have c3:=h.2.2.1;go_simp) s1 ?_;go_simp;refine zHa 10 (.pointer (some ⟨b1,o1+(k-1)*2,none⟩)) rfl (by rintro w h;obtain⟨c0,c1⟩:=aQ h.1;have c2:=h.2.1;have c3:=h.2.2.1;go_simp) s1 ?_;go_simp;refine zHa 11 (.agg #[.string p.1,.string p.2]) rfl (by rintro w h;obtain⟨c0,c1⟩:=aQ h.1;have c2:=h.2.1;have c3:=h.2.2.1;go_simp) s1 ?_;go_simp;refine zHa 12 (.agg #[.string u.1,.string u.2]) rfl (by rintro w h;obtain⟨c0,c1⟩:=aQ h.1;have c2:=h.2.1;have c3:=h.2.2.1;go_simp) s1 ?_;go_simp;refine zH1 13 rfl (fun K hK=>?_);go_simp;refine (vH p u _).mono ?_;rintro e W2 ⟨rfl,hb2⟩;have s2:=s1.step hb2;go_simp;refine hK _ _ ⟨s2,?_⟩;clear hK K;refine zHa 14 (.bool true) rfl (by rintro w h;obtain⟨c0,c1⟩:=aQ h.1;have c2:=h.2.1;have c3:=h.2.2.1;go_simp) s2 ?_;go_simp;refine zHp 15 (.bool true) rfl s2 ?_;go_simp;refine zHp 16 (.bool true) rfl s2 ?_;go_simp;refine wpAnyH_done (by kernel_rfl) ?_ _;go_wp2_with fail;go_ret;exact⟨by rw[HR.out];rfl,hbr.trans (s2.2.2.2.mono hbw)⟩
   have hm2:aW u=false:=by simpa using hm
   have HM:=hid hm2;have HR:Hid (bH x=false):=hid (by
    unfold bH;have:x.all aW=false:=by rw[List.all_eq_false];exact⟨u,List.mem_of_getElem? hu,by simp[hm2]⟩
    rw[this];simp)
   clear hm hm2;refine wp_region_held (S:=InAt wr u p b1 (o1+(k-1)*2)) hmo ?_;change wpAnyH _ _ _ _ _ _ _ _ (World.drew W0);refine zHa 0 (.agg #[.string u.1,.string u.2]) rfl (by rintro w h;obtain⟨c0,c1⟩:=aQ h.1;have c2:=h.2.1;have c3:=h.2.2.1;go_simp) s0 ?_;go_simp;refine zH1 1 rfl (fun K hK=>?_);go_simp;refine (jY u _).mono ?_;rintro e W1 ⟨rfl,hb1⟩;rw[HM.out];have s1:=s0.step hb1;go_simp;refine hK _ _ ⟨s1,?_⟩;clear hK K;refine zHa 2 (.bool true) rfl (by rintro w h;obtain⟨c0,c1⟩:=aQ h.1;have c2:=h.2.1;have c3:=h.2.2.1;go_simp) s1 ?_;go_simp;refine zHp 3 (.bool true) rfl s1 ?_;go_simp;refine zHo 4 rfl s1 ?_;go_simp;refine zHo 5 rfl s1 ?_;go_simp;refine zHo 6 rfl s1 ?_;go_simp;refine zHo 7 rfl s1 ?_;go_simp;refine zHo 8 rfl s1 ?_;go_simp;refine zHo 9 rfl s1 ?_;go_simp;refine zHo 10 rfl s1 ?_;go_simp;refine zHo 11 rfl s1 ?_;go_simp;refine zHo 12 rfl s1 ?_;go_simp;refine zHo 13 rfl s1 ?_;go_simp;refine zHo 14 rfl s1 ?_;go_simp;refine zHo 15 rfl s1 ?_;go_simp;refine zHp 16 (.bool true) rfl s1 ?_;go_simp;refine wpAnyH_done (by kernel_rfl) ?_ _;go_wp2_with fail;go_ret;exact⟨by rw[HR.out];rfl,hbr.trans (s1.2.2.2.mono hbw)⟩
  have hkn2:k=n:=by omega
  have h1:=Ha.out;have h2:=Hr.out;rw[List.take_of_length_le (by rw[LX.out];omega)] at h1 h2;have HR:Hid (bH x=decide ((n:Int)<=50)):=hid (by unfold bH;rw[h1,h2,LX.out,Bool.eq_iff_iff];simp;omega);clear h1 h2;subst hkn2;go_wp2_with fail;go_ret;exact⟨by rw[HR.out];rfl,hbr⟩
end Go.Proofs.YtfmmandlmbcncaaGreatDoor.Msg
namespace Go.Proofs.YtfmmandlmbcncaaGreatDoor.Msg
open Go.RowKit Go.Lib Mem Tlv
structure FitsA (v:OV)(c:OC):Prop where
 an:v.an<=50
 attrs:∀u∈c.attrs,u.1.size<=1000/\u.2.size<=1000
 bn:v.bn<=8
 parts:∀u∈c.parts,u.size<=1000
theorem D5 (v:OV)(c:OC)(w:World)(ho:OpAt w v c)(hf:Fits v c)(hg:FitsA v c):Calls Tryz.prog 228 #[v.val] w (Gv w (opL v c)):=by
 obtain⟨kn,hkn⟩:∃kn:Nat,v.k=(kn:Int):=⟨v.k.toNat,by have:=hf.k0;omega⟩
 obtain⟨nn,hnn⟩:∃nn:Nat,v.n=(nn:Int):=⟨v.n.toNat,by have:=hf.n0;omega⟩
 have Hkn:=hid hkn;have Hnn:=hid hnn;have hw1:IntKind.wrap .u64 v.k=(kn:Int):=by rw[hkn];have h8:=hf.k8;rw[hkn] at h8;show ((kn:Int) % 18446744073709551616)=kn;omega
 have hw2:IntKind.wrap .u64 v.n=(nn:Int):=by rw[hnn];have h8:=hf.n1;rw[hnn] at h8;show ((nn:Int) % 18446744073709551616)=nn;omega
 clear hkn hnn;have hff:=fun W=>mX v.k W;have hus:Tryz.prog.underlying 9=some .string:=Tryz.underlying9;have hl3:=qP v.k;have hb0:Below w.heap.size w ((w.alloc v.box).alloc (.cells #[.slice none 0 0,.int .i64 0] 177)):=bU w _ _;obtain⟨k1,k2⟩:=bY w v.box (.cells #[.slice none 0 0,.int .i64 0] 177);have hz:((w.alloc v.box).alloc (.cells #[.slice none 0 0,.int .i64 0] 177)).heap.size=w.heap.size+1+1:=by simp
 have hs0:WrS (w.heap.size+1) (w.heap.size+1) ⟨[],0⟩ ((w.alloc v.box).alloc (.cells #[.slice none 0 0,.int .i64 0] 177)):=⟨_,k2,Nat.le_refl _,World.ownsRow_nil _ _ _ _⟩
 unfold OV.val;go_in;go_wp2_with fail;refine (oz (w.heap.size+1) (w.heap.size+1) ⟨[],0⟩ 1 kn _ hs0 (by decide)).mono ?_;rintro e w1 ⟨rfl,hs1,hb1,-⟩;have hb2:Below w.heap.size w w1:=hb0.trans (hb1.mono (by omega));have q1:=(hb1.block w.heap.size (by omega)).trans k1;obtain⟨c0,-,-,-,-,-,-,-⟩:=aO q1;go_wp2_with fail;refine (hff _).mono ?_;rintro e w2 ⟨rfl,hb3⟩;have hb4:=hb2.trans (hb3.mono hb2.size);have hs2:=hs1.later hb3;have q2:=(hb3.block w.heap.size (Array.getElem?_eq_some_iff.1 q1).1).trans q1;have hit:w.heap.size+1<w2.heap.size:=by obtain⟨y,hy⟩:=hs2;exact hy.lt
 have hr:=run_range_string (P:=Tryz.prog) w2 9 ⟨(fieldsOf v.k).toArray⟩ hus;clear c0;go_wp2_with fail;go_loopw [] (fun wr=>∃j,PutAt w w2.heap.size v c j wr) (fun wr=>(fieldsOf v.k).length-wr.iterPos w2.heap.size)
 case atStart=>
  have hbi:Below w2.heap.size w2 (w2.iter ⟨(fieldsOf v.k).toArray⟩ 0):=(Below.refl _ _).alloc (Nat.le_refl _) _;refine⟨0,hb4.trans (hbi.mono hb4.size),(hbi.block _ (by omega)).trans q2,?_,by show (w2.heap.push _)[w2.heap.size]?=some _;exact Array.getElem?_push_size⟩;have:=hs2.later hbi;simpa [WS.put,ig,Hkn.out] using this
 case round=>
  obtain⟨j,hB⟩:=hrel;have hlen:(ig v c ((fieldsOf v.k).take j)).length<=100000000:=JM hf _ (by rw[List.length_take];omega);by_cases hj:j<(fieldsOf v.k).length
  ·obtain⟨x,hc⟩:∃x,(fieldsOf v.k)[j]?=some x:=⟨_,List.getElem?_eq_getElem hj⟩
   have hcl:=letters v.k j x hc;have hm:wr.iterPos w2.heap.size=j:=by simp[World.iterPos,hB.hi]
   obtain⟨hbi,g1,gw,gi⟩:=hB.skip hit;have goi:=ho.later hbi;obtain⟨-,c1,c2,c3,c4,c5,c6,-⟩:=aO g1;rcases hcl with rfl|rfl|rfl|rfl|rfl|rfl
   ·have hn:∀ty,(Instr.next (.pointer (some ⟨w2.heap.size,0,none⟩)) true ty).run Tryz.prog wr=.ok (.tuple #[.bool true,.int .i64 j,.int .i32 110]) (wr.iterAt w2.heap.size ⟨(fieldsOf v.k).toArray⟩ (j+1)):=fun ty=>bQ wr w2.heap.size (fieldsOf v.k) j 110 ty hB.hi hc (by decide);go_wp2_with fail;refine (kN (w.heap.size+1) (w.heap.size+1) ⟨ig v c ((fieldsOf v.k).take j),0⟩ 2 v.name _ gw hlen (by have:=hf.name;omega)).mono ?_;rintro e w3 hT;have hN:=PutAt.put hbi g1 gi (by omega) hc (by decide) (by simp[gJ]) hT;obtain⟨rfl,-⟩:=hT;go_wp2_with fail;go_roundw
    case rel=>exact⟨j+1,hN⟩
    case measure=>rw[hm];simp[World.iterPos,hN.hi];omega
   ·have hn:∀ty,(Instr.next (.pointer (some ⟨w2.heap.size,0,none⟩)) true ty).run Tryz.prog wr=.ok (.tuple #[.bool true,.int .i64 j,.int .i32 116]) (wr.iterAt w2.heap.size ⟨(fieldsOf v.k).toArray⟩ (j+1)):=fun ty=>bQ wr w2.heap.size (fieldsOf v.k) j 116 ty hB.hi hc (by decide);go_wp2_with fail;refine (kN (w.heap.size+1) (w.heap.size+1) ⟨ig v c ((fieldsOf v.k).take j),0⟩ 3 v.to _ gw hlen (by have:=hf.to_;omega)).mono ?_;rintro e w3 hT;have hN:=PutAt.put hbi g1 gi (by omega) hc (by decide) (by simp[gJ]) hT;obtain⟨rfl,-⟩:=hT;go_wp2_with fail;go_roundw
    case rel=>exact⟨j+1,hN⟩
    case measure=>rw[hm];simp[World.iterPos,hN.hi];omega
   ·have hn:∀ty,(Instr.next (.pointer (some ⟨w2.heap.size,0,none⟩)) true ty).run Tryz.prog wr=.ok (.tuple #[.bool true,.int .i64 j,.int .i32 97]) (wr.iterAt w2.heap.size ⟨(fieldsOf v.k).toArray⟩ (j+1)):=fun ty=>bQ wr w2.heap.size (fieldsOf v.k) j 97 ty hB.hi hc (by decide);go_wp2_with fail;refine (Gy (w.heap.size+1) (w.heap.size+1) ⟨ig v c ((fieldsOf v.k).take j),0⟩ 4 v.ao v.an v.ac c.attrs _ gw rfl hlen goi.a hg.an hg.attrs).mono ?_;rintro e w3 ⟨⟨r,rfl⟩,q1,q2,q3⟩;have hN:=PutAt.put hbi g1 gi (by omega) hc (by decide) (by simp[gJ]) (e:=.returned (.pointer (some ⟨w.heap.size+1,0,none⟩))) ⟨rfl,q1,q2,q3⟩;go_wp2_with fail;go_roundw
    case rel=>exact⟨j+1,hN⟩
    case measure=>rw[hm];simp[World.iterPos,hN.hi];omega
   ·have hn:∀ty,(Instr.next (.pointer (some ⟨w2.heap.size,0,none⟩)) true ty).run Tryz.prog wr=.ok (.tuple #[.bool true,.int .i64 j,.int .i32 112]) (wr.iterAt w2.heap.size ⟨(fieldsOf v.k).toArray⟩ (j+1)):=fun ty=>bQ wr w2.heap.size (fieldsOf v.k) j 112 ty hB.hi hc (by decide);go_wp2_with fail;refine (Gm (w.heap.size+1) (w.heap.size+1) ⟨ig v c ((fieldsOf v.k).take j),0⟩ 5 v c w.heap.size _ gw rfl hlen g1 goi hg.bn hg.parts).mono ?_;rintro e w3 hT;have hN:=PutAt.put hbi g1 gi (by omega) hc (by decide) (by simp[gJ]) hT;obtain⟨rfl,-⟩:=hT;go_wp2_with fail;go_roundw
    case rel=>exact⟨j+1,hN⟩
    case measure=>rw[hm];simp[World.iterPos,hN.hi];omega
   ·have hn:∀ty,(Instr.next (.pointer (some ⟨w2.heap.size,0,none⟩)) true ty).run Tryz.prog wr=.ok (.tuple #[.bool true,.int .i64 j,.int .i32 99]) (wr.iterAt w2.heap.size ⟨(fieldsOf v.k).toArray⟩ (j+1)):=fun ty=>bQ wr w2.heap.size (fieldsOf v.k) j 99 ty hB.hi hc (by decide);go_wp2_with fail;refine (jO (w.heap.size+1) (w.heap.size+1) ⟨ig v c ((fieldsOf v.k).take j),0⟩ 6 c.cursor v.co v.cn v.cc _ gw hlen (by have:=hf.cur;have:=goi.c.1;rw[aS] at this;omega) goi.c (fun h0 a ha y hy=>Nz ho.c ha h0 hy)).mono ?_;rintro e w3 hT;have hN:=PutAt.put hbi g1 gi (by omega) hc (by decide) (by simp[gJ]) hT;obtain⟨rfl,-⟩:=hT;go_wp2_with fail;go_roundw
    case rel=>exact⟨j+1,hN⟩
    case measure=>rw[hm];simp[World.iterPos,hN.hi];omega
   have hn:∀ty,(Instr.next (.pointer (some ⟨w2.heap.size,0,none⟩)) true ty).run Tryz.prog wr=.ok (.tuple #[.bool true,.int .i64 j,.int .i32 107]) (wr.iterAt w2.heap.size ⟨(fieldsOf v.k).toArray⟩ (j+1)):=fun ty=>bQ wr w2.heap.size (fieldsOf v.k) j 107 ty hB.hi hc (by decide);go_wp2_with fail;refine (oz (w.heap.size+1) (w.heap.size+1) ⟨ig v c ((fieldsOf v.k).take j),0⟩ 7 nn _ gw hlen).mono ?_;rintro e w3 hT;have hN:=PutAt.put hbi g1 gi (by omega) hc (by decide) (by simp[gJ,Hnn.out]) hT;obtain⟨rfl,-⟩:=hT;go_wp2_with fail;go_roundw
   case rel=>exact⟨j+1,hN⟩
   case measure=>rw[hm];simp[World.iterPos,hN.hi];omega
  have hn:=fun ty=>run_next_end_at (P:=Tryz.prog) wr w2.heap.size ⟨(fieldsOf v.k).toArray⟩ j ty hB.hi hj;have hw:=hB.wr_;rw[List.take_of_length_le (by omega)] at hw hlen;obtain⟨y,hy⟩:=hw;go_wp2_with fail;refine (pU _ _ _ _ _ hy hlen).mono ?_;rintro e w3 ⟨z,rfl,hz3,hb3'⟩;obtain⟨ao,cap,rfl,hr3⟩:=Rd.of_own hz3;go_wp2_with fail;go_ret;refine⟨ao,cap,rfl,hr3,hB.bel.trans (hb3'.mono hB.bel.size),fun a ha=>?_⟩;rcases hz3.2 with ⟨h,_⟩ | ⟨g,cc,cur,h,hg,_⟩
  ·have:=(Value.slice.inj h).1;rw[ha] at this;cases this
  have:=(Value.slice.inj h).1;rw[ha] at this;cases this;exact Nat.le_trans hB.bel.size hg
def aB (v:OV)(c:OC):Bool:=dV v c (bH c.attrs)
def wM (v:OV)(c:OC):List UInt8:=if aB v c then opL v c else []
theorem kZ {x:ByteArray}(h:bg x=true):x.size<=1000:=by
 unfold bg at h;simp only[Bool.and_eq_true,decide_eq_true_eq] at h;exact h.1
theorem xB {u:ByteArray×ByteArray}(h:aW u=true):u.1.size<=1000/\u.2.size<=1000:=by
 unfold aW dX at h;simp only[Bool.and_eq_true,decide_eq_true_eq] at h;exact⟨by have:=h.1.1.1.2;omega,kZ h.2⟩
theorem mr {v:OV}{c:OC}(W:World)(ho:OpAt W v c)(h:aB v c=true):Fits v c/\FitsA v c/\∀x,(gJ v c x).length<=200000:=by
 have la:c.attrs.length=v.an:=by have:=ho.a.1;rw[fE] at this;omega
 have lb:c.parts.length=v.bn:=by have:=ho.b.1;rw[iZ] at this;omega
 have lc:c.cursor.length=v.cn:=by have:=ho.c.1;rw[aS] at this;omega
 unfold aB dV at h;simp only[Bool.and_eq_true,decide_eq_true_eq,Bool.not_eq_true'] at h;obtain⟨⟨⟨⟨⟨⟨h1,h2⟩,h3⟩,h4⟩,h5⟩,h6⟩,h7⟩:=h;have hname:=kZ h3;have hto:=kZ h4;have hattr:∀u∈c.attrs,u.1.size<=1000/\u.2.size<=1000:=fun u hu=>by
  refine xB ?_;have:=List.any_eq_false.1 h6 u hu;simpa using this
 have hk:v.k=1\/v.k=2\/v.k=3\/v.k=4\/v.k=5\/v.k=6\/v.k=7\/v.k=8:=by
  rcases Classical.em (v.k=1\/v.k=2\/v.k=3\/v.k=4\/v.k=5\/v.k=6\/v.k=7\/v.k=8) with h | h
  ·exact h
  refine absurd ?_ h1;simp only[not_or] at h;obtain⟨a1,a2,a3,a4,a5,a6,a7,a8⟩:=h;simp only[fieldsOf,a1,a2,a3,a4,a5,a6,a7,a8,if_false]
 unfold bK at h2;simp only[decide_eq_true_eq] at h2;obtain⟨-,-,-,e4,e5,e6,e7⟩:=h2;have hrest:v.bn<=8/\(∀u∈c.parts,u.size<=1000)/\c.cursor.length<=4000/\0<=v.n/\v.n<=1000:=by
  by_cases h78:v.k=7\/v.k=8
  ·have k1:¬v.k=1:=by omega
   have k5:¬v.k=5:=by omega
   unfold nO at h7;rw[if_neg k1,if_neg k5] at h7;simp only[Bool.and_eq_true,decide_eq_true_eq,Bool.not_eq_true'] at h7;obtain⟨⟨⟨⟨r1,r2⟩,r3⟩,r4⟩,r5⟩:=h7;refine⟨r1,fun u hu=>kZ ?_,by omega,r4,r5⟩;have:=List.any_eq_false.1 r2 u hu;simpa using this
  have hl:(112:UInt8)∉fieldsOf v.k/\(99:UInt8)∉fieldsOf v.k/\(107:UInt8)∉fieldsOf v.k:=by
   rcases hk with h | h | h | h | h | h | h | h<;>rw[h]<;>first | omega | decide
  have f1:c.parts=[]:=by rw[e5];unfold jC;rw[if_neg hl.1]
  have f2:c.cursor=[]:=by rw[e6];unfold jC;rw[if_neg hl.2.1]
  have f3:v.n=0:=by rw[e7];unfold eF;rw[if_neg hl.2.2]
  rw[f1] at lb;rw[f1,f2,f3];exact⟨by simp at lb;omega,fun u hu=>by simp at hu,by simp,by omega,by omega⟩
 obtain⟨r1,r2,r3,r4,r5⟩:=hrest;have hL:∀x,(gJ v c x).length<=200000:=?_
 ·exact⟨⟨by omega,by omega,hname,hto,r3,r4,r5,fun x=>Nat.le_trans (hL x) (by decide)⟩,⟨h5,hattr,r1,r2⟩,hL⟩
 intro x;have ha:(aC c.attrs).length<=50*2015:=by
  have:=uU c.attrs c.attrs.length (Nat.le_refl _);rw[List.take_length] at this;rw[<-this];have h9:=jf (atE c.attrs) 2015 c.attrs.length (fun i hi=>by
   have:=hattr c.attrs[i] (List.getElem_mem hi);simp only[atE,List.getElem?_eq_getElem hi,Option.getD_some,ae,List.length_append,fH];omega)
  exact Nat.le_trans h9 (Nat.mul_le_mul_right 2015 (show c.attrs.length<=50 by omega))
 have hp:(dS c.parts).length<=8*1005:=by
  have:=yj c.parts c.parts.length (Nat.le_refl _);rw[List.take_length] at this;rw[<-this];have h9:=jf (paE c.parts) 1005 c.parts.length (fun i hi=>by
   have:=r2 c.parts[i] (List.getElem_mem hi);simp only[paE,List.getElem?_eq_getElem hi,Option.getD_some,ae,fH];omega)
  exact Nat.le_trans h9 (Nat.mul_le_mul_right 1005 (show c.parts.length<=8 by omega))
 unfold gJ
 repeat' split
 all_goals simp only[ae,fH,ah]
 all_goals omega
theorem jy (W:World)(v:OV)(c:OC)(ho:OpAt W v c):OpC v c (aB v c) (wM v c):=by
 refine⟨fun W' ho'=>J4 v c _ W' ho' (fun _ W2 h2=>nN _ _ _ _ _ h2.a (Nat.le_trans h2.la (by decide))),fun hm W' ho'=>?_,?_⟩
 ·obtain⟨f1,f2,-⟩:=mr W ho hm;unfold wM;rw[if_pos hm];exact D5 v c W' ho' f1 f2
 unfold wM;split
 ·rename_i hm;obtain⟨-,-,f3⟩:=mr W ho hm;have h1:=xQ (gJ v c) 200000 f3 (fieldsOf v.k);have h2:=Nat.mul_le_mul_right 200000 (qP v.k);unfold opL ig;rw[List.length_append,ae,ah];omega
 simp
end Go.Proofs.YtfmmandlmbcncaaGreatDoor.Msg
