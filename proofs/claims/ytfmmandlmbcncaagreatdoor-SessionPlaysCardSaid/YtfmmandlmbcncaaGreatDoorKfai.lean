/-A part of the proof.-/
import Derived.Lib.Bytealg
import Derived.Deep.Cut
import Derived.Laws.CopyOwn
import Derived.Test.YtfmmandlmbcncaaGreatDoorKfah
set_option maxHeartbeats 40000000
set_option maxRecDepth 100000
set_option linter.all false
namespace Go.Proofs.YtfmmandlmbcncaaGreatDoor
namespace Msg
open Go.RowKit Go.Lib Mem Utf
variable{W W' w wr:World}{b o:Nat}{u v:OV}
theorem Gt(a b:ByteArray)(w:World):Calls Tryz.prog 183 #[.string a,.string b] w fun e w'=>e=.returned (.int .i64 (compareBytes a.data.toList b.data.toList))/\w'=w:=by
 go_in;go_wp2;rw[run_callFunc_extern Tryz.func227 (by kernel_rfl) (by kernel_rfl) (by kernel_rfl) (e:=Extern.BytealgCompare.compare) (by kernel_rfl),run_compareString];simp only[Result.andThen];rw[Oper.upon_value];go_wp2;go_ret;exact⟨rfl,rfl⟩
theorem yN(a b:ByteArray)(w:World):Calls Tryz.prog 155 #[.string a,.string b] w fun e w'=>e=.returned (.int .i64 (compareBytes a.data.toList b.data.toList))/\w'=w:=by
 go_in;go_wp2_with fail;refine (Gt _ _ _).mono ?_;rintro e w1 ⟨rfl,rfl⟩;go_wp2_with fail;go_ret;exact⟨rfl,rfl⟩
def orI (x y:Int):Int:=if x=0 then y else x
theorem SQ(x y:Int)(b:Nat)(w:World)(h:Rd w 1 (some ⟨b,0,none⟩) 2 2 [.int .i64 x,.int .i64 y]):Calls Tryz.prog 154 #[.slice (some ⟨b,0,none⟩) 2 2] w fun e w'=>e=.returned (.int .i64 (orI x y))/\w'=w:=by
 have hc:=(h.2.2.2.2 (by decide) _ rfl).2.2;have c0:w.cell? ⟨b,0,none⟩=some (.int .i64 x):=hc 0 _ rfl;have c1:w.cell? ⟨b,1,none⟩=some (.int .i64 y):=hc 1 _ rfl;go_in;go_wp2_with fail;go_loopw [8] (fun p wr=>∃k:Nat,k<=2/\p=.int .i64 (k:Int)/\(1<=k->x=0)/\(2<=k->y=0)/\wr=w) (fun p _=>2-(intOf p).toNat)
 case atStart=>exact⟨0,by omega,rfl,fun h=>by omega,fun h=>by omega,rfl⟩
 case round=>
  obtain⟨k,hk,rfl,hx0,hy0,rfl⟩:=hrel;rcases (by omega:k=0\/k=1\/k=2) with rfl|rfl|rfl
  ·by_cases hx:x=0
   ·have f1:(x==0)=true:=by simp[hx]
    have HX:=hid hx;clear hx hx0 hy0;go_wp2_with fail;go_roundw
    case rel=>exact⟨1,by omega,rfl,fun _=>HX.out,fun h=>by omega,trivial⟩
    case measure=>simp[intOf]
   have f1:(x==0)=false:=by simp[hx]
   have HX:=hid hx;clear hx hx0 hy0;go_wp2_with fail;go_ret;exact⟨by unfold orI;rw[if_neg HX.out];rfl,rfl⟩
  ·have hx:=hx0 (by omega);clear hx0 hy0;have HX:=hid hx;clear hx;by_cases hy:y=0
   ·have f1:(y==0)=true:=by simp[hy]
    have HY:=hid hy;clear hy;go_wp2_with fail;go_roundw
    case rel=>exact⟨2,by omega,rfl,fun _=>HX.out,fun _=>HY.out,trivial⟩
    case measure=>simp[intOf]
   have f1:(y==0)=false:=by simp[hy]
   clear hy;go_wp2_with fail;go_ret;exact⟨by unfold orI;rw[if_pos HX.out];rfl,rfl⟩
  have hx:=hx0 (by omega);have hy:=hy0 (by omega);have HX:=hid hx;have HY:=hid hy;clear hx0 hy0 hx hy;go_wp2_with fail;go_ret;exact⟨by unfold orI;rw[if_pos HX.out,HY.out];rfl,rfl⟩
def ng (a b:ByteArray×ByteArray):Int:=orI (compareBytes a.1.data.toList b.1.data.toList) (compareBytes a.2.data.toList b.2.data.toList)
def bU (x:ByteArray×ByteArray):Obj:=.cells #[.string x.1,.string x.2] 106
theorem kL{B:Nat}{x:ByteArray×ByteArray}(h:W.heap[B]?=some (bU x)):W.cell? ⟨B,0,none⟩=some (.string x.1)/\W.cell? ⟨B,1,none⟩=some (.string x.2):=by
 unfold bU at h;simp[World.cell?,h]
def InAB (w:World)(a b:ByteArray×ByteArray)(W:World):Prop:=W.heap[w.heap.size]?=some (bU a)/\W.heap[w.heap.size+1]?=some (bU b)/\Below w.heap.size w W
theorem InAB.step{a b:ByteArray×ByteArray}(h:InAB w a b W)(hb:Below W.heap.size W W'):InAB w a b W':=
 ⟨(hb.q h.1),(hb.q h.2.1),h.2.2.trans (hb.mono h.2.2.size)⟩
theorem xA(a b:ByteArray×ByteArray)(w:World):Calls Tryz.prog 123 #[.agg #[.string a.1,.string a.2],.agg #[.string b.1,.string b.2]] w fun e w'=>e=.returned (.int .i64 (ng a b))/\Below w.heap.size w w':=by
 have hmo:=hmO
 obtain⟨x1,hx1⟩:∃x1,compareBytes a.1.data.toList b.1.data.toList=x1:=⟨_,rfl⟩
 obtain⟨x2,hx2⟩:∃x2,compareBytes a.2.data.toList b.2.data.toList=x2:=⟨_,rfl⟩
 have Hx:Hid (ng a b=orI x1 x2):=hid (by unfold ng;rw[hx1,hx2]);have hs1:=fun W=>yN a.1 b.1 W;have hs2:=fun W=>yN a.2 b.2 W;rw[hx1] at hs1;rw[hx2] at hs2;clear hx1 hx2;go_in;go_wp2_with fail;generalize hg:(w.alloc _).alloc _=W0;have s0:InAB w a b W0.drew:=by
  obtain⟨h1,h2⟩:=dh w (bU a) (bU b);rw[<-hg];exact⟨h1,h2,(cu w _ _).drew⟩
 clear hg;refine yaB (S:=InAB w a b) hmo ?_;change wpAnyH _ _ _ _ _ _ _ _ (World.drew W0);generalize W0.drew=V0 at *;have zf0:=fun (w0:World) (h:InAB w a b w0)=>kL h.1;have zf1:=fun (w0:World) (h:InAB w a b w0)=>kL h.2.1;refine zp 0 (pp w.heap.size 0) rfl ?_;go_simp;refine zv 1 (.string a.1) rfl ?_;go_simp;refine zp 2 (pp (w.heap.size+1) 0) rfl ?_;go_simp;refine zv 3 (.string b.1) rfl ?_;go_simp;refine zp 5 (pp w.heap.size 1) rfl ?_;go_simp;refine zv 6 (.string a.2) rfl ?_;go_simp;refine zp 7 (pp (w.heap.size+1) 1) rfl ?_;go_simp;refine zv 8 (.string b.2) rfl ?_;go_simp;refine zC 4 rfl (hs1 _) ?_;rintro e W1 ⟨rfl,rfl⟩;refine⟨s0,?_⟩;go_simp;refine zC 9 rfl (hs2 _) ?_;rintro e W2 ⟨rfl,rfl⟩;refine⟨s0,?_⟩;go_simp;refine zH1 10 rfl (fun K hK=>?_);go_simp;generalize hg:W2.alloc _=W3;have e:W2.alloc (.cells #[.int .i64 x1,.int .i64 x2] 3)=W3:=hg;have hb3:=bE e
 have hr3:Rd W3 1 (some ⟨W2.heap.size,0,none⟩) 2 2 [.int .i64 x1,.int .i64 x2]:=by rw[<-e];exact Rd.new W2 [.int .i64 x1,.int .i64 x2] 3 (0,0) 1 2 rfl (by decide)
 clear hg e;have s1:=s0.step hb3;refine hK _ _ ⟨s1,?_⟩;clear hK K;refine zH1 11 rfl (fun K hK=>?_);go_simp;refine (SQ x1 x2 _ W3 hr3).mono ?_;rintro e W4 ⟨rfl,rfl⟩;go_simp;refine hK _ _ ⟨s1,?_⟩;clear hK K;refine zp 12 (.int .i64 (orI x1 x2)) rfl ?_;go_simp;refine zd ?_;go_wp2_with fail;go_ret;exact⟨by rw[Hx.out];rfl,s1.2.2⟩
def rise:List (ByteArray×ByteArray)->Bool
 | a::b::l=>decide (ng a b<0)&&rise (b::l)
 | _=>true
def bI (l:List (ByteArray×ByteArray)):Bool:=l.all aQ&&rise l&&decide (l.length<=50)
theorem AA(x:ByteArray×ByteArray):∀(l:List (ByteArray×ByteArray)),rise l=true->(∀y,l.getLast?=some y->ng y x<0)->rise (l++[x])=true
 | [],_,_=>rfl
 | [a],_,h=>by
  have:=h a rfl;simp[rise,this]
 | a::b::l,h,h2=>by
  simp only[rise,yaq] at h;have:=AA x (b::l) h.2 (fun y hy=>h2 y (by rw[List.getLast?_cons_cons];exact hy));simp only[ybE,rise,yaq];exact⟨h.1,this⟩
theorem Ar:∀(k:Nat) (l:List (ByteArray×ByteArray)) (a b:ByteArray×ByteArray),l[k]?=some a->l[k+1]?=some b->¬ng a b<0->rise l=false
 | 0,x::y::l,a,b,h1,h2,h=>by
  simp at h1 h2;subst h1 h2;simp[rise,h]
 | k+1,x::y::l,a,b,h1,h2,h=>by
  have:=Ar k (y::l) a b (by simpa using h1) (by simpa using h2) h;simp[rise,this]
 | 0,[x],a,b,h1,h2,h=>by simp at h2
 | k+1,[x],a,b,h1,h2,h=>by simp at h1
 | _,[],a,b,h1,h2,h=>by simp at h1
theorem qR(l:List (ByteArray×ByteArray))(k:Nat)(u:ByteArray×ByteArray)(hu:l[k]?=some u)(h:rise (l.take k)=true)(hc:∀p,0<k->l[k-1]?=some p->ng p u<0):rise (l.take (k+1))=true:=by
 obtain⟨hl,e⟩:=yao.1 hu;rw[yau hl,e];refine AA u _ h (fun y hy=>?_);have hk:0<k:=by
  rcases Nat.eq_zero_or_pos k with h0 | h0
  ·subst h0;simp at hy
  exact h0
 refine hc y hk ?_;rw[List.getLast?_eq_getElem?,yaV,Nat.min_eq_left (by omega),ybI (by omega)] at hy;exact hy
def InAt (wr:World)(u p:ByteArray×ByteArray)(b o:Nat)(W:World):Prop:=W.heap[wr.heap.size]?=some (bU u)/\W.cell? ⟨b,o,none⟩=some (.string p.1)/\W.cell? ⟨b,o+1,none⟩=some (.string p.2)/\Below wr.heap.size wr W
theorem InAt.step{u p:ByteArray×ByteArray}(h:InAt wr u p b o W)(hb:Below W.heap.size W W'):InAt wr u p b o W':=
 ⟨(hb.q h.1),(hb.cell (yaO W _ h.2.1)).trans h.2.1,(hb.cell (yaO W _ h.2.2.1)).trans h.2.2.1,h.2.2.2.trans (hb.mono h.2.2.2.size)⟩
theorem qj(ao:Option Addr)(n cap:Nat)(x:List (ByteArray×ByteArray))(w:World)(hx:Rd w 2 ao n cap (atV x))(hn:n<=9223372036854775807) :
  Calls Tryz.prog 79 #[.slice ao n cap] w (GivesB (bI x) w):=by
 have hmo:=hmO
 have lx:x.length=n:=by have:=hx.1;rw[fG] at this;omega
 have LX:=hid lx;clear lx;go_in;go_wp2_with fail;go_loopw [7] (fun p wr=>∃k:Nat,k<=n/\p=.int .i64 (k:Int)/\Hid ((x.take k).all aQ=true)/\Hid (rise (x.take k)=true)/\Below w.heap.size w wr) (fun p _=>n-(intOf p).toNat)
 case atStart=>exact⟨0,yam _,rfl,hid rfl,hid rfl,yaj _ _⟩
 case round=>
  obtain⟨k,hk,rfl,Ha,Hr,hbr⟩:=hrel;by_cases hkn:k<n
  ·obtain⟨b1,o1,rfl,hl1,hc1⟩:=hx.some (by have:=hx.le;omega);obtain⟨u,hu⟩:∃u,x[k]?=some u:=⟨_,yac (by rw[LX.out];exact hkn)⟩
   obtain⟨p,hp⟩:∃p,x[k-1]?=some p:=⟨_,yac (by rw[LX.out];omega)⟩
   obtain⟨v1,v2⟩:=kH x k u hu;obtain⟨v3,v4⟩:=kH x (k-1) p hp;have c1:=(hbr.cell (p:=⟨b1,o1+k*2,none⟩) hl1).trans (hc1 (k*2) _ v1);have c2:wr.cell? ⟨b1,o1+k*2+1,none⟩=_:=(hbr.cell (p:=⟨b1,o1+(k*2+1),none⟩) hl1).trans (hc1 (k*2+1) _ v2);have c3:=(hbr.cell (p:=⟨b1,o1+(k-1)*2,none⟩) hl1).trans (hc1 ((k-1)*2) _ v3);have c4:wr.cell? ⟨b1,o1+(k-1)*2+1,none⟩=_:=(hbr.cell (p:=⟨b1,o1+((k-1)*2+1),none⟩) hl1).trans (hc1 ((k-1)*2+1) _ v4);clear v1 v2 v3 v4;have i0:(0:Int)<=(k:Int):=by omega
   have i1:(k:Int)<(n:Int):=by omega
   go_upto_region 4 with fail;generalize hg:wr.alloc _=W0;have hb0:=bE hg
   have k1:W0.heap[wr.heap.size]?=some (bU u):=aE hg
   have s0:InAt wr u p b1 (o1+(k-1)*2) W0.drew:=⟨k1,(hb0.cell (yaO wr _ c3)).trans c3,(hb0.cell (yaO wr _ c4)).trans c4,hb0.drew⟩
   clear hg hb0 k1 c1 c2 c3 c4;have hbw:=hbr.size;by_cases hm:aQ u=true
   ·have HM:=hid hm;have hall:Hid ((x.take (k+1)).all aQ=true):=hid (by obtain⟨hl,e⟩:=yao.1 hu;rw[yau hl,e,ycg,Ha.out];simp[hm]);clear hm;by_cases hk0:k=0
    ·have HR:Hid (rise (x.take (k+1))=true):=hid (qR x k u hu Hr.out (fun p h=>absurd hk0 (by omega)));have g1:decide ((0:Int)<(k:Int))=false:=yad (by omega);clear hk0;refine yaB (S:=InAt wr u p b1 (o1+(k-1)*2)) hmo ?_;change wpAnyH _ _ _ _ _ _ _ _ (World.drew W0);have zf0:=fun (w0:World) (h:InAt wr u p b1 (o1+(k-1)*2) w0)=>kL h.1;have zf1:=fun (w0:World) (h:InAt wr u p b1 (o1+(k-1)*2) w0)=>h.2.1;have zf2:=fun (w0:World) (h:InAt wr u p b1 (o1+(k-1)*2) w0)=>h.2.2.1;refine zv 0 (.agg #[.string u.1,.string u.2]) rfl ?_;go_simp;refine zC 1 rfl (lI u _) ?_;rintro e W1 ⟨rfl,hb1⟩;rw[HM.out];have s1:=s0.step hb1;refine⟨s1,?_⟩;go_simp;refine zv 2 (.bool false) rfl ?_;go_simp;refine zp 3 (.bool false) rfl (zp 4 (.int .i64 (k:Int)) rfl ?_);go_simp;refine zHa 5 (.bool false) rfl (by intro w h;go_simp;have:=ybQ g1;omega) s1 ?_;go_simp;refine zp 6 (.bool false) rfl (zo 7 rfl (zo 8 rfl (zo 9 rfl (zo 10 rfl (zo 11 rfl (zo 12 rfl (zo 13 rfl ?_)))))));go_simp;refine zo 14 rfl (zp 15 (.bool false) rfl (zp 16 (.bool false) rfl ?_));go_simp;refine zd ?_;go_wp2_with fail;go_roundw
     case rel=>exact⟨k+1,by omega,by go_num,hall,HR,hbr.trans (s1.2.2.2.mono hbw)⟩
     case measure=>simp[intOf];omega
    have g1:decide ((0:Int)<(k:Int))=true:=yaa (by omega);have g2:IntKind.wrap .i64 ((k:Int)-1)=((k-1:Nat):Int):=by rw[yaP];omega
    have i2:(0:Int)<=((k-1:Nat):Int):=by omega
    have i3:((k-1:Nat):Int)<(n:Int):=by omega
    by_cases hcm:ng p u<0
    ·have g3:decide ((0:Int)<=ng p u)=false:=yad (by omega);have HR:Hid (rise (x.take (k+1))=true):=hid (qR x k u hu Hr.out (fun q _ hq=>by rw[hp] at hq;rw[<-yaf hq];exact hcm));clear hcm;refine yaB (S:=InAt wr u p b1 (o1+(k-1)*2)) hmo ?_;change wpAnyH _ _ _ _ _ _ _ _ (World.drew W0);have zf0:=fun (w0:World) (h:InAt wr u p b1 (o1+(k-1)*2) w0)=>kL h.1;have zf1:=fun (w0:World) (h:InAt wr u p b1 (o1+(k-1)*2) w0)=>h.2.1;have zf2:=fun (w0:World) (h:InAt wr u p b1 (o1+(k-1)*2) w0)=>h.2.2.1;refine zv 0 (.agg #[.string u.1,.string u.2]) rfl ?_;go_simp;refine zC 1 rfl (lI u _) ?_;rintro e W1 ⟨rfl,hb1⟩;rw[HM.out];have s1:=s0.step hb1;refine⟨s1,?_⟩;go_simp;refine zv 2 (.bool false) rfl ?_;go_simp;refine zp 3 (.bool false) rfl (zp 4 (.int .i64 (k:Int)) rfl ?_);go_simp;refine zHa 5 (.bool true) rfl (by intro w h;go_simp;have:=yar g1;omega) s1 ?_;go_simp;refine zp 6 (.bool true) rfl (zp 7 (.slice (some ⟨b1,o1,none⟩) n cap) rfl (zp 8 (.int .i64 (k:Int)) rfl ?_));go_simp;refine zv 9 (.int .i64 ((k-1:Nat):Int)) rfl ?_;go_simp;refine zv 10 (.pointer (some ⟨b1,o1+(k-1)*2,none⟩)) rfl ?_;go_simp;refine zv 11 (.agg #[.string p.1,.string p.2]) rfl ?_;go_simp;refine zv 12 (.agg #[.string u.1,.string u.2]) rfl ?_;go_simp;refine zC 13 rfl (xA p u _) ?_;rintro e W2 ⟨rfl,hb2⟩;have s2:=s1.step hb2;refine⟨s2,?_⟩;go_simp;refine zv 14 (.bool false) rfl ?_;go_simp;refine zp 15 (.bool false) rfl (zp 16 (.bool false) rfl ?_);go_simp;refine zd ?_;go_wp2_with fail;go_roundw
     case rel=>exact⟨k+1,by omega,by go_num,hall,HR,hbr.trans (s2.2.2.2.mono hbw)⟩
     case measure=>simp[intOf];omega
    have g3:decide ((0:Int)<=ng p u)=true:=yaa (by omega);have HR:Hid (bI x=false):=hid (by unfold bI;rw[Ar (k-1) x p u hp (by rw[show k-1+1=k from by omega];exact hu) hcm];simp);clear hcm;refine yaB (S:=InAt wr u p b1 (o1+(k-1)*2)) hmo ?_;change wpAnyH _ _ _ _ _ _ _ _ (World.drew W0);have zf0:=fun (w0:World) (h:InAt wr u p b1 (o1+(k-1)*2) w0)=>kL h.1;have zf1:=fun (w0:World) (h:InAt wr u p b1 (o1+(k-1)*2) w0)=>h.2.1;have zf2:=fun (w0:World) (h:InAt wr u p b1 (o1+(k-1)*2) w0)=>h.2.2.1;refine zv 0 (.agg #[.string u.1,.string u.2]) rfl ?_;go_simp;refine zC 1 rfl (lI u _) ?_;rintro e W1 ⟨rfl,hb1⟩;rw[HM.out];have s1:=s0.step hb1;refine⟨s1,?_⟩;go_simp;refine zv 2 (.bool false) rfl ?_;go_simp;refine zp 3 (.bool false) rfl (zp 4 (.int .i64 (k:Int)) rfl ?_);go_simp;refine zHa 5 (.bool true) rfl (by intro w h;go_simp;have:=yar g1;omega) s1 ?_;go_simp;refine zp 6 (.bool true) rfl (zp 7 (.slice (some ⟨b1,o1,none⟩) n cap) rfl (zp 8 (.int .i64 (k:Int)) rfl ?_));go_simp;refine zv 9 (.int .i64 ((k-1:Nat):Int)) rfl ?_;go_simp;refine zv 10 (.pointer (some ⟨b1,o1+(k-1)*2,none⟩)) rfl ?_;go_simp;refine zv 11 (.agg #[.string p.1,.string p.2]) rfl ?_;go_simp;refine zv 12 (.agg #[.string u.1,.string u.2]) rfl ?_;go_simp;refine zC 13 rfl (xA p u _) ?_;rintro e W2 ⟨rfl,hb2⟩;have s2:=s1.step hb2;refine⟨s2,?_⟩;go_simp;refine zv 14 (.bool true) rfl ?_;go_simp;refine zp 15 (.bool true) rfl (zp 16 (.bool true) rfl ?_);go_simp;refine zd ?_;go_wp2_with fail;go_ret;exact⟨by rw[HR.out];rfl,hbr.trans (s2.2.2.2.mono hbw)⟩
   have hm2:aQ u=false:=by simpa using hm
   have HM:=hid hm2;have HR:Hid (bI x=false):=hid (by
    unfold bI;have:x.all aQ=false:=by rw[ycw];exact⟨u,yan hu,by simp[hm2]⟩
    rw[this];simp)
   clear hm hm2;refine yaB (S:=InAt wr u p b1 (o1+(k-1)*2)) hmo ?_;change wpAnyH _ _ _ _ _ _ _ _ (World.drew W0);have zf0:=fun (w0:World) (h:InAt wr u p b1 (o1+(k-1)*2) w0)=>kL h.1;have zf1:=fun (w0:World) (h:InAt wr u p b1 (o1+(k-1)*2) w0)=>h.2.1;have zf2:=fun (w0:World) (h:InAt wr u p b1 (o1+(k-1)*2) w0)=>h.2.2.1;refine zv 0 (.agg #[.string u.1,.string u.2]) rfl ?_;go_simp;refine zC 1 rfl (lI u _) ?_;rintro e W1 ⟨rfl,hb1⟩;rw[HM.out];have s1:=s0.step hb1;refine⟨s1,?_⟩;go_simp;refine zv 2 (.bool true) rfl ?_;go_simp;refine zp 3 (.bool true) rfl (zo 4 rfl (zo 5 rfl (zo 6 rfl (zo 7 rfl (zo 8 rfl (zo 9 rfl (zo 10 rfl ?_)))))));go_simp;refine zo 11 rfl (zo 12 rfl (zo 13 rfl (zo 14 rfl (zo 15 rfl (zp 16 (.bool true) rfl ?_)))));go_simp;refine zd ?_;go_wp2_with fail;go_ret;exact⟨by rw[HR.out];rfl,hbr.trans (s1.2.2.2.mono hbw)⟩
  have hkn2:k=n:=by omega
  have h1:=Ha.out;have h2:=Hr.out;rw[yak (by rw[LX.out];omega)] at h1 h2;have HR:Hid (bI x=decide ((n:Int)<=50)):=hid (by unfold bI;rw[h1,h2,LX.out,ybk];simp;omega);clear h1 h2;subst hkn2;go_wp2_with fail;go_ret;exact⟨by rw[HR.out];rfl,hbr⟩
theorem xX:∀x y:List UInt8,(compareBytes x y<0↔Op.bytesLess x y=true)/\(compareBytes x y=0↔x=y)
 | [],[]=>by simp[compareBytes,Op.bytesLess]
 | [],_::_=>by simp[compareBytes,Op.bytesLess]
 | _::_,[]=>by simp[compareBytes,Op.bytesLess]
 | a::x,b::y=>by
  obtain⟨h1,h2⟩:=xX x y;by_cases hab:a<b
  ·have hne:a≠b:=fun e=>by subst e;exact absurd hab (UInt8.lt_irrefl a)
   simp[compareBytes,Op.bytesLess,hab,hne]
  by_cases hba:b<a
  ·have hne:a≠b:=fun e=>by subst e;exact absurd hba (UInt8.lt_irrefl a)
   simp[compareBytes,Op.bytesLess,hab,hba,hne]
  have he:a=b:=UInt8.le_antisymm (UInt8.not_lt.1 hba) (UInt8.not_lt.1 hab);subst he;simp[compareBytes,Op.bytesLess,hab,h1,h2]
theorem LW(a b:ByteArray×ByteArray):decide (ng a b<0)=(Op.bytesLess a.1.toList b.1.toList||(a.1.toList==b.1.toList&&Op.bytesLess a.2.toList b.2.toList)):=by
 obtain⟨h1,h2⟩:=xX a.1.data.toList b.1.data.toList;obtain⟨h3,-⟩:=xX a.2.data.toList b.2.data.toList;rw[ybq,ybq,ybq,ybq];unfold ng orI;by_cases hz:compareBytes a.1.data.toList b.1.data.toList=0
 ·rw[if_pos hz];have he:=h2.1 hz;have hl:Op.bytesLess a.1.data.toList b.1.data.toList=false:=by
   cases hq:Op.bytesLess a.1.data.toList b.1.data.toList with
   | false=>rfl
   | true=>have:=h1.2 hq;omega
  rw[hl,he,ybk];simp[h3]
 rw[if_neg hz];have hne:(a.1.data.toList==b.1.data.toList)=false:=yap.2 (fun e=>hz (h2.2 e));rw[hne,ybk];simp[h1]
theorem Eh(a b:ByteArray×ByteArray)(w:World):Calls Tryz.prog 83 #[.agg #[.string a.1,.string a.2],.agg #[.string b.1,.string b.2]] w (GivesB (decide (ng a b<0)) w):=by
 have hb0:=cu w (.cells #[.string a.1,.string a.2] 106) (.cells #[.string b.1,.string b.2] 106);rw[LW];cases h1:Op.bytesLess a.1.toList b.1.toList
 ·cases h2:(a.1.toList==b.1.toList)
  ·go_in;go_wp2_with fail;go_ret;exact⟨rfl,hb0⟩
  cases h3:Op.bytesLess a.2.toList b.2.toList
  ·go_in;go_wp2_with fail;go_ret;exact⟨rfl,hb0⟩
  go_in;go_wp2_with fail;go_ret;exact⟨rfl,hb0⟩
 go_in;go_wp2_with fail;go_ret;exact⟨rfl,hb0⟩
def InTwoAt (wr:World)(u p:ByteArray×ByteArray)(b o o':Nat)(W:World):Prop:=(W.cell? ⟨b,o,none⟩=some (.string u.1)/\W.cell? ⟨b,o+1,none⟩=some (.string u.2))/\(W.cell? ⟨b,o',none⟩=some (.string p.1)/\W.cell? ⟨b,o'+1,none⟩=some (.string p.2))/\Below wr.heap.size wr W
theorem dK(hb:Below W.heap.size W W'){a:Addr}{x:Value}(h:W.cell? a=some x):W'.cell? a=some x:=(hb.cell (yaO W _ h)).trans h
theorem InTwoAt.step{u p:ByteArray×ByteArray}{o':Nat}(h:InTwoAt wr u p b o o' W)(hb:Below W.heap.size W W'):InTwoAt wr u p b o o' W':=
 ⟨⟨dK hb h.1.1,dK hb h.1.2⟩,⟨dK hb h.2.1.1,dK hb h.2.1.2⟩,h.2.2.trans (hb.mono h.2.2.size)⟩
theorem ve(ao:Option Addr)(n cap:Nat)(x:List (ByteArray×ByteArray))(w:World)(hx:Rd w 2 ao n cap (atV x)) :
  Calls Tryz.prog 49 #[.slice ao n cap] w (GivesB (bI x) w):=by
 have hmo:=hmO
 have lx:x.length=n:=by have:=hx.1;rw[fG] at this;omega
 by_cases h50:n<=50
 case neg=>
  have f1:decide ((50:Int)<(n:Int))=true:=yaa (by omega);have HR:Hid (bI x=false):=hid (by unfold bI;rw[lx,yad h50,Bool.and_false]);clear h50 lx;go_in;go_wp2_with fail;go_ret;exact⟨by rw[HR.out];rfl,yaj _ _⟩
 have f1:decide ((50:Int)<(n:Int))=false:=yad (by omega);have LX:=hid lx;have H50:=hid h50;have hn:(n:Int)<1000:=by omega
 clear lx h50;go_in;go_wp2_with fail;go_loopw [3] (fun p wr=>∃k:Nat,k<=n/\p=.int .i64 (k:Int)/\Hid ((x.take k).all aQ=true)/\Hid (rise (x.take k)=true)/\Below w.heap.size w wr) (fun p _=>n-(intOf p).toNat)
 case atStart=>exact⟨0,yam _,rfl,hid rfl,hid rfl,yaj _ _⟩
 case round=>
  obtain⟨k,hk,rfl,Ha,Hr,hbr⟩:=hrel;by_cases hkn:k<n
  ·obtain⟨b1,o1,rfl,hl1,hc1⟩:=hx.some (by have:=hx.le;omega);obtain⟨u,hu⟩:∃u,x[k]?=some u:=⟨_,yac (by rw[LX.out];exact hkn)⟩
   obtain⟨p,hp⟩:∃p,x[k-1]?=some p:=⟨_,yac (by rw[LX.out];omega)⟩
   obtain⟨v1,v2⟩:=kH x k u hu;obtain⟨v3,v4⟩:=kH x (k-1) p hp;have c1:=(hbr.cell (p:=⟨b1,o1+k*2,none⟩) hl1).trans (hc1 (k*2) _ v1);have c2:wr.cell? ⟨b1,o1+k*2+1,none⟩=_:=(hbr.cell (p:=⟨b1,o1+(k*2+1),none⟩) hl1).trans (hc1 (k*2+1) _ v2);have c3:=(hbr.cell (p:=⟨b1,o1+(k-1)*2,none⟩) hl1).trans (hc1 ((k-1)*2) _ v3);have c4:wr.cell? ⟨b1,o1+(k-1)*2+1,none⟩=_:=(hbr.cell (p:=⟨b1,o1+((k-1)*2+1),none⟩) hl1).trans (hc1 ((k-1)*2+1) _ v4);clear v1 v2 v3 v4;have i0:(0:Int)<=(k:Int):=by omega
   have i1:(k:Int)<(n:Int):=by omega
   have s0:InTwoAt wr u p b1 (o1+k*2) (o1+(k-1)*2) wr.drew:=⟨⟨c1,c2⟩,⟨c3,c4⟩,(yaj _ _).drew⟩
   clear c1 c2 c3 c4;go_upto_region 6 with fail;have hbw:=hbr.size;by_cases hm:aQ u=true
   ·have HM:=hid hm;have hall:Hid ((x.take (k+1)).all aQ=true):=hid (by obtain⟨hl,e⟩:=yao.1 hu;rw[yau hl,e,ycg,Ha.out];simp[hm]);clear hm;by_cases hk0:k=0
    ·have HR:Hid (rise (x.take (k+1))=true):=hid (qR x k u hu Hr.out (fun p h=>absurd hk0 (by omega)));have g1:decide ((0:Int)<(k:Int))=false:=yad (by omega);clear hk0;refine yaB (S:=InTwoAt wr u p b1 (o1+k*2) (o1+(k-1)*2)) hmo ?_;change wpAnyH _ _ _ _ _ _ _ _ (World.drew wr);have zf0:=fun (w0:World) (h:InTwoAt wr u p b1 (o1+k*2) (o1+(k-1)*2) w0)=>h.1.1;have zf1:=fun (w0:World) (h:InTwoAt wr u p b1 (o1+k*2) (o1+(k-1)*2) w0)=>h.1.2;have zf2:=fun (w0:World) (h:InTwoAt wr u p b1 (o1+k*2) (o1+(k-1)*2) w0)=>h.2.1.1;have zf3:=fun (w0:World) (h:InTwoAt wr u p b1 (o1+k*2) (o1+(k-1)*2) w0)=>h.2.1.2;refine zp 0 (.slice (some ⟨b1,o1,none⟩) n cap) rfl (zp 1 (.int .i64 (k:Int)) rfl ?_);go_simp;refine zv 2 (.pointer (some ⟨b1,o1+k*2,none⟩)) rfl ?_;go_simp;refine zv 3 (.agg #[.string u.1,.string u.2]) rfl ?_;go_simp;refine zC 4 rfl (kN u _) ?_;rintro e W1 ⟨rfl,hb1⟩;rw[HM.out];have s1:=s0.step hb1;refine⟨s1,?_⟩;go_simp;refine zv 5 (.bool false) rfl ?_;go_simp;refine zp 6 (.bool false) rfl (zp 7 (.int .i64 (k:Int)) rfl ?_);go_simp;refine zHa 8 (.bool false) rfl (by intro w h;go_simp;have:=ybQ g1;omega) s1 ?_;go_simp;refine zp 9 (.bool false) rfl (zo 10 rfl (zo 11 rfl (zo 12 rfl (zo 13 rfl (zo 14 rfl (zo 15 rfl (zo 16 rfl ?_)))))));go_simp;refine zo 17 rfl (zo 18 rfl (zo 19 rfl (zo 20 rfl (zp 21 (.bool false) rfl (zp 22 (.bool false) rfl ?_)))));go_simp;refine zd ?_;go_wp2_with fail;go_roundw
     case rel=>exact⟨k+1,by omega,by go_num,hall,HR,hbr.trans (s1.2.2.mono hbw)⟩
     case measure=>simp[intOf];omega
    have g1:decide ((0:Int)<(k:Int))=true:=yaa (by omega);have g2:IntKind.wrap .i64 ((k:Int)-1)=((k-1:Nat):Int):=by rw[yaP];omega
    have i2:(0:Int)<=((k-1:Nat):Int):=by omega
    have i3:((k-1:Nat):Int)<(n:Int):=by omega
    by_cases hcm:ng p u<0
    ·have HL:=hid (yaa hcm);have HR:Hid (rise (x.take (k+1))=true):=hid (qR x k u hu Hr.out (fun q _ hq=>by rw[hp] at hq;rw[<-yaf hq];exact hcm));clear hcm;refine yaB (S:=InTwoAt wr u p b1 (o1+k*2) (o1+(k-1)*2)) hmo ?_;change wpAnyH _ _ _ _ _ _ _ _ (World.drew wr);have zf0:=fun (w0:World) (h:InTwoAt wr u p b1 (o1+k*2) (o1+(k-1)*2) w0)=>h.1.1;have zf1:=fun (w0:World) (h:InTwoAt wr u p b1 (o1+k*2) (o1+(k-1)*2) w0)=>h.1.2;have zf2:=fun (w0:World) (h:InTwoAt wr u p b1 (o1+k*2) (o1+(k-1)*2) w0)=>h.2.1.1;have zf3:=fun (w0:World) (h:InTwoAt wr u p b1 (o1+k*2) (o1+(k-1)*2) w0)=>h.2.1.2;refine zp 0 (.slice (some ⟨b1,o1,none⟩) n cap) rfl (zp 1 (.int .i64 (k:Int)) rfl ?_);go_simp;refine zv 2 (.pointer (some ⟨b1,o1+k*2,none⟩)) rfl ?_;go_simp;refine zv 3 (.agg #[.string u.1,.string u.2]) rfl ?_;go_simp;refine zC 4 rfl (kN u _) ?_;rintro e W1 ⟨rfl,hb1⟩;rw[HM.out];have s1:=s0.step hb1;refine⟨s1,?_⟩;go_simp;refine zv 5 (.bool false) rfl ?_;go_simp;refine zp 6 (.bool false) rfl (zp 7 (.int .i64 (k:Int)) rfl ?_);go_simp;refine zHa 8 (.bool true) rfl (by intro w h;go_simp;have:=yar g1;omega) s1 ?_;go_simp;refine zp 9 (.bool true) rfl (zp 10 (.slice (some ⟨b1,o1,none⟩) n cap) rfl (zp 11 (.int .i64 (k:Int)) rfl ?_));go_simp;refine zv 12 (.int .i64 ((k-1:Nat):Int)) rfl ?_;go_simp;refine zv 13 (.pointer (some ⟨b1,o1+(k-1)*2,none⟩)) rfl ?_;go_simp;refine zv 14 (.agg #[.string p.1,.string p.2]) rfl ?_;go_simp;refine zp 15 (.slice (some ⟨b1,o1,none⟩) n cap) rfl (zp 16 (.int .i64 (k:Int)) rfl ?_);go_simp;refine zv 17 (.pointer (some ⟨b1,o1+k*2,none⟩)) rfl ?_;go_simp;refine zv 18 (.agg #[.string u.1,.string u.2]) rfl ?_;go_simp;refine zC 19 rfl (Eh p u _) ?_;rintro e W2 ⟨rfl,hb2⟩;rw[HL.out];have s2:=s1.step hb2;refine⟨s2,?_⟩;go_simp;refine zv 20 (.bool false) rfl ?_;go_simp;refine zp 21 (.bool false) rfl (zp 22 (.bool false) rfl ?_);go_simp;refine zd ?_;go_wp2_with fail;go_roundw
     case rel=>exact⟨k+1,by omega,by go_num,hall,HR,hbr.trans (s2.2.2.mono hbw)⟩
     case measure=>simp[intOf];omega
    have HL:=hid (yad hcm);have HR:Hid (bI x=false):=hid (by unfold bI;rw[Ar (k-1) x p u hp (by rw[show k-1+1=k from by omega];exact hu) hcm];simp);clear hcm;refine yaB (S:=InTwoAt wr u p b1 (o1+k*2) (o1+(k-1)*2)) hmo ?_;change wpAnyH _ _ _ _ _ _ _ _ (World.drew wr);have zf0:=fun (w0:World) (h:InTwoAt wr u p b1 (o1+k*2) (o1+(k-1)*2) w0)=>h.1.1;have zf1:=fun (w0:World) (h:InTwoAt wr u p b1 (o1+k*2) (o1+(k-1)*2) w0)=>h.1.2;have zf2:=fun (w0:World) (h:InTwoAt wr u p b1 (o1+k*2) (o1+(k-1)*2) w0)=>h.2.1.1;have zf3:=fun (w0:World) (h:InTwoAt wr u p b1 (o1+k*2) (o1+(k-1)*2) w0)=>h.2.1.2;refine zp 0 (.slice (some ⟨b1,o1,none⟩) n cap) rfl (zp 1 (.int .i64 (k:Int)) rfl ?_);go_simp;refine zv 2 (.pointer (some ⟨b1,o1+k*2,none⟩)) rfl ?_;go_simp;refine zv 3 (.agg #[.string u.1,.string u.2]) rfl ?_;go_simp;refine zC 4 rfl (kN u _) ?_;rintro e W1 ⟨rfl,hb1⟩;rw[HM.out];have s1:=s0.step hb1;refine⟨s1,?_⟩;go_simp;refine zv 5 (.bool false) rfl ?_;go_simp;refine zp 6 (.bool false) rfl (zp 7 (.int .i64 (k:Int)) rfl ?_);go_simp;refine zHa 8 (.bool true) rfl (by intro w h;go_simp;have:=yar g1;omega) s1 ?_;go_simp;refine zp 9 (.bool true) rfl (zp 10 (.slice (some ⟨b1,o1,none⟩) n cap) rfl (zp 11 (.int .i64 (k:Int)) rfl ?_));go_simp;refine zv 12 (.int .i64 ((k-1:Nat):Int)) rfl ?_;go_simp;refine zv 13 (.pointer (some ⟨b1,o1+(k-1)*2,none⟩)) rfl ?_;go_simp;refine zv 14 (.agg #[.string p.1,.string p.2]) rfl ?_;go_simp;refine zp 15 (.slice (some ⟨b1,o1,none⟩) n cap) rfl (zp 16 (.int .i64 (k:Int)) rfl ?_);go_simp;refine zv 17 (.pointer (some ⟨b1,o1+k*2,none⟩)) rfl ?_;go_simp;refine zv 18 (.agg #[.string u.1,.string u.2]) rfl ?_;go_simp;refine zC 19 rfl (Eh p u _) ?_;rintro e W2 ⟨rfl,hb2⟩;rw[HL.out];have s2:=s1.step hb2;refine⟨s2,?_⟩;go_simp;refine zv 20 (.bool true) rfl ?_;go_simp;refine zp 21 (.bool true) rfl (zp 22 (.bool true) rfl ?_);go_simp;refine zd ?_;go_wp2_with fail;go_ret;exact⟨by rw[HR.out];rfl,hbr.trans (s2.2.2.mono hbw)⟩
   have hm2:aQ u=false:=by simpa using hm
   have HM:=hid hm2;have HR:Hid (bI x=false):=hid (by
    unfold bI;have:x.all aQ=false:=by rw[ycw];exact⟨u,yan hu,by simp[hm2]⟩
    rw[this];simp)
   clear hm hm2;refine yaB (S:=InTwoAt wr u p b1 (o1+k*2) (o1+(k-1)*2)) hmo ?_;change wpAnyH _ _ _ _ _ _ _ _ (World.drew wr);have zf0:=fun (w0:World) (h:InTwoAt wr u p b1 (o1+k*2) (o1+(k-1)*2) w0)=>h.1.1;have zf1:=fun (w0:World) (h:InTwoAt wr u p b1 (o1+k*2) (o1+(k-1)*2) w0)=>h.1.2;have zf2:=fun (w0:World) (h:InTwoAt wr u p b1 (o1+k*2) (o1+(k-1)*2) w0)=>h.2.1.1;have zf3:=fun (w0:World) (h:InTwoAt wr u p b1 (o1+k*2) (o1+(k-1)*2) w0)=>h.2.1.2;refine zp 0 (.slice (some ⟨b1,o1,none⟩) n cap) rfl (zp 1 (.int .i64 (k:Int)) rfl ?_);go_simp;refine zv 2 (.pointer (some ⟨b1,o1+k*2,none⟩)) rfl ?_;go_simp;refine zv 3 (.agg #[.string u.1,.string u.2]) rfl ?_;go_simp;refine zC 4 rfl (kN u _) ?_;rintro e W1 ⟨rfl,hb1⟩;rw[HM.out];have s1:=s0.step hb1;refine⟨s1,?_⟩;go_simp;refine zv 5 (.bool true) rfl ?_;go_simp;refine zp 6 (.bool true) rfl (zo 7 rfl (zo 8 rfl (zo 9 rfl (zo 10 rfl (zo 11 rfl (zo 12 rfl (zo 13 rfl ?_)))))));go_simp;refine zo 14 rfl (zo 15 rfl (zo 16 rfl (zo 17 rfl (zo 18 rfl (zo 19 rfl (zo 20 rfl (zo 21 rfl ?_)))))));go_simp;refine zp 22 (.bool true) rfl ?_;go_simp;refine zd ?_;go_wp2_with fail;go_ret;exact⟨by rw[HR.out];rfl,hbr.trans (s1.2.2.mono hbw)⟩
  have hkn2:k=n:=by omega
  have h1:=Ha.out;have h2:=Hr.out;rw[yak (by rw[LX.out];omega)] at h1 h2;have HR:Hid (bI x=true):=hid (by unfold bI;rw[h1,h2,LX.out,yaa H50.out];rfl);clear h1 h2 hkn2;go_wp2_with fail;go_ret;exact⟨by rw[HR.out];rfl,hbr⟩
theorem sJ(ao bo:Option Addr)(n m cap cbp:Nat)(x y:List (ByteArray×ByteArray))(w:World)(hx:Rd w 2 ao n cap (atV x))(hy:Rd w 2 bo m cbp (atV y))(hn:n<=9223372036854775807) :
  Calls Tryz.prog 56 #[.slice ao n cap,.slice bo m cbp] w (GivesB (decide (x=y)) w):=by
 have lx:x.length=n:=by have:=hx.1;rw[fG] at this;omega
 have ly:y.length=m:=by have:=hy.1;rw[fG] at this;omega
 by_cases hnm:n=m
 case neg=>
  have f1:((n:Int)==(m:Int))=false:=by simp;omega
  have HR:Hid (decide (x=y)=false):=hid (wC x y (by omega));clear lx ly hnm;go_in;go_wp2_with fail;go_ret;exact⟨by rw[HR.out];rfl,yaj _ _⟩
 subst hnm;have LX:=hid lx;have LY:=hid ly;clear lx ly;go_in;go_wp2_with fail;go_loopw [5] (fun p wr=>∃k:Nat,k<=n/\p=.int .i64 (k:Int)/\Hid (x.take k=y.take k)/\Below w.heap.size w wr) (fun p _=>n-(intOf p).toNat)
 case atStart=>exact⟨0,yam _,rfl,hid rfl,yaj _ _⟩
 case round=>
  obtain⟨k,hk,rfl,Ht,hbr⟩:=hrel;by_cases hkn:k<n
  ·obtain⟨b1,o1,rfl,hl1,hc1⟩:=hx.some (by have:=hx.le;omega);obtain⟨b2,o2,rfl,hl2,hc2⟩:=hy.some (by have:=hy.le;omega);obtain⟨u,hu⟩:∃u,x[k]?=some u:=⟨_,yac (by rw[LX.out];exact hkn)⟩
   obtain⟨v,hv⟩:∃v,y[k]?=some v:=⟨_,yac (by rw[LY.out];exact hkn)⟩
   obtain⟨v1,v2⟩:=kH x k u hu;obtain⟨v3,v4⟩:=kH y k v hv;have c1:=(hbr.cell (p:=⟨b1,o1+k*2,none⟩) hl1).trans (hc1 (k*2) _ v1);have c2:wr.cell? ⟨b1,o1+k*2+1,none⟩=_:=(hbr.cell (p:=⟨b1,o1+(k*2+1),none⟩) hl1).trans (hc1 (k*2+1) _ v2);have c3:=(hbr.cell (p:=⟨b2,o2+k*2,none⟩) hl2).trans (hc2 (k*2) _ v3);have c4:wr.cell? ⟨b2,o2+k*2+1,none⟩=_:=(hbr.cell (p:=⟨b2,o2+(k*2+1),none⟩) hl2).trans (hc2 (k*2+1) _ v4);clear v1 v2 v3 v4;have i0:(0:Int)<=(k:Int):=by omega
   have i1:(k:Int)<(n:Int):=by omega
   have hne:=Aj u v;by_cases huv:u=v
   ·have HT:Hid (x.take (k+1)=y.take (k+1)):=hid (pM x y k u v Ht.out hu hv huv);rw[show (!decide (u=v))=false from by simp[huv]] at hne;clear huv;go_upto_region 6 with fail
    go_quiet (fail)
    have hbn:=hbr.trans ((below_drewN (yaj wr.heap.size wr) nq).mono hbr.size);go_wp2_with fail;go_roundw
    case rel=>exact⟨k+1,by omega,by go_num,HT,hbn⟩
    case measure=>simp[intOf];omega
   have HR:Hid (decide (x=y)=false):=hid (xw x y k u v hu hv huv);rw[show (!decide (u=v))=true from by simp[huv]] at hne;clear huv;go_upto_region 6 with fail
   go_quiet (fail)
   have hbn:=hbr.trans ((below_drewN (yaj wr.heap.size wr) nq).mono hbr.size);go_wp2_with fail;go_ret;exact⟨by rw[HR.out];rfl,hbn⟩
  have hkn2:k=n:=by omega
  have h1:=Ht.out;rw[yak (by rw[LX.out];omega),yak (by rw[LY.out];omega)] at h1;have HR:Hid (decide (x=y)=true):=hid (yaa h1);clear h1 hkn2;go_wp2_with fail;go_ret;exact⟨by rw[HR.out];rfl,hbr⟩
theorem Eg(w:World)(ao:Option Addr)(n cap:Nat)(l:List UInt8)(hr:Rd w 1 ao n cap (byV l)):(convert 34 9 (.slice ao n cap)).run Tryz.prog w=.ok (.string ⟨l.toArray⟩) w:=
 Ak (P:=Tryz.prog) w 34 9 5 Tryz.underlying34 Tryz.underlying5 Tryz.underlying9 ao _ cap _ hr
theorem Je{l l':List UInt8}(h:l≠l'):((⟨l.toArray⟩:ByteArray).toList==(⟨l'.toArray⟩:ByteArray).toList)=false:=
 nz (fun e=>h (by have:=congrArg (fun b:ByteArray=>b.data.toList) e;simpa using this))
theorem rH(v v':OV)(c c':OC)(w:World)(h:OpAt w v c)(h':OpAt w v' c') :
  Calls Tryz.prog 19 #[v.val,v'.val] w (GivesB (bg v c v' c') w):=by
 have hb0:Below w.heap.size w ((w.alloc v.box).alloc v'.box):=cu w _ _;obtain⟨hx,hx'⟩:=dh w v.box v'.box;have ho:=h.later hb0;have ho':=h'.later hb0;have hz:((w.alloc v.box).alloc v'.box).heap.size=w.heap.size+1+1:=by simp
 have lx:c.parts.length=v.bn:=by have:=h.b.1;rw[ig] at this;omega
 have ly:c'.parts.length=v'.bn:=by have:=h'.b.1;rw[ig] at this;omega
 have key:∀e1:v.k=v'.k,∀e2:v.name=v'.name,∀e3:v.to=v'.to,Hid (bg v c v' c'=decide (c.attrs=c'.attrs/\c.parts=c'.parts/\c.cursor=c'.cursor/\v.n=v'.n)):=fun e1 e2 e3=>hid (by simp[bg,e1,e2,e3]);have LX:=hid lx;have LY:=hid ly;clear lx ly;unfold OV.box at hb0 hx hx' ho ho' hz;by_cases e1:v.k=v'.k
 ·have f1:(v.k != v'.k)=false:=by simp[e1]
  by_cases e2:v.name=v'.name
  ·have f2:(v.name.toList==v'.name.toList)=true:=by simp[e2]
   by_cases e3:v.to=v'.to
   ·have f3:(v.to.toList==v'.to.toList)=true:=by simp[e3]
    have Hk:=key e1 e2 e3;unfold OV.val;clear e1 e2 e3 key;go_in;go_wp2_with fail;refine (sJ _ _ _ _ _ _ c.attrs c'.attrs _ ho.a ho'.a (yae ho.la (by decide))).mono ?_;rintro e w1 ⟨rfl,hb1⟩;have hb2:=hb0.trans (hb1.mono hb0.size);have k1:=(hb1.block w.heap.size (by rw[hz];omega)).trans hx;have k2:=(hb1.block (w.heap.size+1) (by rw[hz];omega)).trans hx';have q1:=ho.later hb1;have q1':=ho'.later hb1;have z1:=Eg w1 _ _ _ _ q1.c;have z2:=Eg w1 _ _ _ _ q1'.c;obtain⟨-,c1,c2,c3⟩:=iW (v:=v) k1;obtain⟨-,c4,c5,c6⟩:=iW (v:=v') k2;by_cases e4:c.attrs=c'.attrs
    case neg=>
     rw[yad e4];have Hs:Hid (bg v c v' c'=false):=hid (by rw[Hk.out];simp[e4]);go_wp2_with fail;go_ret;exact⟨by rw[Hs.out];rfl,hb2⟩
    rw[yaa e4];by_cases e5:v.bn=v'.bn
    case neg=>
     have g5:((v.bn:Int) != (v'.bn:Int))=true:=by simp;omega
     have Hs:Hid (bg v c v' c'=false):=hid (by rw[Hk.out];apply yad;rintro⟨-,h,-⟩;rw[<-LX.out,<-LY.out,h] at e5;exact e5 rfl);clear e5;go_wp2_with fail;go_ret;exact⟨by rw[Hs.out];rfl,hb2⟩
    have g5:((v.bn:Int) != (v'.bn:Int))=false:=by simp;omega
    by_cases e6:c.cursor=c'.cursor
    case neg=>
     have Hs:Hid (bg v c v' c'=false):=hid (by rw[Hk.out];simp[e6]);clear e5;go_wp2_with fail;go_ret;exact⟨by rw[Hs.out];rfl,hb2⟩
    by_cases e7:v.n=v'.n
    case neg=>
     have f7:(v.n != v'.n)=true:=by simp[e7]
     have Hs:Hid (bg v c v' c'=false):=hid (by rw[Hk.out];simp[e7]);clear e7 e5;go_wp2_with fail;go_ret;exact⟨by rw[Hs.out];rfl,hb2⟩
    have f7:(v.n != v'.n)=false:=by simp[e7]
    have HK:Hid (bg v c v' c'=decide (c.parts=c'.parts)):=hid (by rw[Hk.out];simp[e4,e6,e7]);have H5:=hid e5;clear e7 e5 e4 Hk;go_wp2_with fail;clear z1 z2 c1 c2 c3 c4 c5 c6 g5 f7 f1 f2 f3 e6;go_loopw [5] (fun p wr=>∃k:Nat,k<=v.bn/\p=.int .i64 (k:Int)/\Hid (c.parts.take k=c'.parts.take k)/\Below w1.heap.size w1 wr) (fun p _=>v.bn-(intOf p).toNat)
    case atStart=>exact⟨0,yam _,rfl,hid rfl,yaj _ _⟩
    case round=>
     obtain⟨k,hk,rfl,Ht,hbr⟩:=hrel;obtain⟨-,c1,-,-⟩:=iW (v:=v) ((hbr.q k1));obtain⟨-,c4,-,-⟩:=iW (v:=v') ((hbr.q k2));have hB:=hb2.trans (hbr.mono hb2.size);by_cases hkn:k<v.bn
     ·have hkm:k<v'.bn:=by have:=H5.out;omega
      have hkb:=ho.lb;obtain⟨b1,o1,ea,hl1,hc1⟩:=(q1.b.later hbr).some (by have:=q1.b.le;omega);obtain⟨b2,o2,eb,hl2,hc2⟩:=(q1'.b.later hbr).some (by have:=q1'.b.le;omega);rw[ea] at c1;rw[eb] at c4;obtain⟨u,hu⟩:∃u,c.parts[k]?=some u:=⟨_,yac (by rw[LX.out];exact hkn)⟩
      obtain⟨t,ht⟩:∃t,c'.parts[k]?=some t:=⟨_,yac (by rw[LY.out];exact hkm)⟩
      have d1:=hc1 k _ (oC c.parts k u hu);have d2:=hc2 k _ (oC c'.parts k t ht);have d1':wr.cell? ⟨b1,o1+k*1,none⟩=some (.string u):=by rw[ycf];exact d1
      have d2':wr.cell? ⟨b2,o2+k*1,none⟩=some (.string t):=by rw[ycf];exact d2
      have i0:(0:Int)<=(k:Int):=by omega
      have i1:(k:Int)<(v.bn:Int):=by omega
      have i2:(k:Int)<(v'.bn:Int):=by omega
      clear hc1 hc2 hkm;by_cases hut:u=t
      ·have f:=pz t;have HT:Hid (c.parts.take (k+1)=c'.parts.take (k+1)):=hid (pM c.parts c'.parts k u t Ht.out hu ht hut);rw[hut] at d1 d1';clear hut;go_upto_region 6 with fail
       go_quiet (fail)
       have hbn:=hbr.trans ((below_drewN (yaj wr.heap.size wr) nq).mono hbr.size);go_wp2_with fail;go_roundw
       case rel=>exact⟨k+1,by omega,by go_num,HT,hbn⟩
       case measure=>simp[intOf];omega
      have f:=nz hut;have Hs:Hid (bg v c v' c'=false):=hid (by rw[HK.out];exact xw c.parts c'.parts k u t hu ht hut);clear hut;go_upto_region 6 with fail
      go_quiet (fail)
      have hbn:=hbr.trans ((below_drewN (yaj wr.heap.size wr) nq).mono hbr.size);go_wp2_with fail;go_ret;exact⟨by rw[Hs.out];rfl,hb2.trans (hbn.mono hb2.size)⟩
     have hkn2:k=v.bn:=by omega
     have h1:=Ht.out;rw[yak (by rw[LX.out];omega),yak (by rw[LY.out,<-H5.out];omega)] at h1;have Hs:Hid (bg v c v' c'=true):=hid (by rw[HK.out];exact yaa h1);clear h1 hkn2;go_wp2_with fail;go_ret;exact⟨by rw[Hs.out];rfl,hB⟩
   have f3:=nz e3;have Hs:=hid (oV (v:=v) (v':=v') (c:=c) (c':=c') (fun h=>e3 h.2.2.1));unfold OV.val;clear e1 e2 e3 key;go_in;go_wp2_with fail;go_ret;exact⟨by rw[Hs.out];rfl,hb0⟩
  have f2:=nz e2;have Hs:=hid (oV (v:=v) (v':=v') (c:=c) (c':=c') (fun h=>e2 h.2.1));unfold OV.val;clear e1 e2 key;go_in;go_wp2_with fail;go_ret;exact⟨by rw[Hs.out];rfl,hb0⟩
 have f1:(v.k != v'.k)=true:=by simp[e1]
 have Hs:=hid (oV (v:=v) (v':=v') (c:=c) (c':=c') (fun h=>e1 h.1));unfold OV.val;clear e1 key;go_in;go_wp2_with fail;go_ret;exact⟨by rw[Hs.out];rfl,hb0⟩
structure InBare (w:World)(v u:OV)(W:World):Prop where
 o:W.heap[w.heap.size]?=some v.box
 r:W.heap[w.heap.size+1]?=some zeroV.box
 b:W.heap[w.heap.size+1+1]?=some u.box
 bel:Below w.heap.size w W
def Jl (v:OV)(w:World)(e:Ending)(w':World):Prop:=e=.returned (.tuple #[(bP (fieldsOf v.k) v).val,.bool (decide (fieldsOf v.k≠[]))])/\Below w.heap.size w w'
theorem InBare.set(h:InBare w v u W)(i:Nat)(x:Value)(u':OV)(hc:∀cs,u.box=.cells cs 36->u'.box=.cells (cs.setIfInBounds i x) 36):InBare w v u' (W.setCell ⟨w.heap.size+1+1,i,none⟩ x):=by
 obtain⟨h1,h2,h3,h4⟩:=h;refine⟨ah h1 (by omega),ah h2 (by omega),?_,h4.setCell (p:=⟨w.heap.size+1+1,i,none⟩) (by dsimp only;omega) x⟩;have e:=hc _ rfl;rw[e];unfold OV.box at h3;exact at_set h3
theorem InBare.done(h:InBare w v u W)(cs:Array Value)(_hc:u.box=.cells cs 36):(W.setRow (w.heap.size+1) cs).heap[w.heap.size+1]?=some (.cells cs 36)/\Below w.heap.size w (W.setRow (w.heap.size+1) cs):=by
 have hr:=h.r;unfold OV.box at hr;exact⟨aO hr,below_setRow h.bel (by omega) _⟩
theorem JR(v:OV)(w:World):Calls Tryz.prog 46 #[v.val] w (Jl v w):=by
 have hmo:=hmO
 have s0:InBare w v (bP [] v) (((w.alloc v.box).alloc zeroV.box).alloc (bP [] v).box):=by
  obtain⟨k1,k2,k3⟩:=rO w v.box zeroV.box (bP [] v).box;exact⟨k1,k2,k3,rW w _ _ _⟩
 unfold OV.box at s0;unfold OV.val;by_cases hk:1<=v.k/\v.k<=8
 case neg=>
  have HF:Hid (fieldsOf v.k=[]):=hid (by unfold fieldsOf;(repeat rw[if_neg (by omega)]));have g1:(v.k==1)=false:=by simp;omega
  have g3:(v.k==3)=false:=by simp;omega
  have g5:(v.k==5)=false:=by simp;omega
  have g2:(v.k==2)=false:=by simp;omega
  have g6:(v.k==6)=false:=by simp;omega
  have g4:(v.k==4)=false:=by simp;omega
  have g7:(v.k==7)=false:=by simp;omega
  have g8:(v.k==8)=false:=by simp;omega
  clear hk;go_in;go_upto_region 2 with (refine zNr rfl ?_;go_simp);generalize hg:((w.alloc _).alloc _).alloc _=W0;have s9:InBare w v (bP [] v) W0:=by rw[<-hg];exact s0
  clear hg s0;obtain⟨c0,c1,c2,c3,c4,c5,c6,-⟩:=aC s9.o;go_wp2_with (first | (refine zLr rfl s9.b ?_;go_simp) | (refine zSr rfl s9.r ?_;go_simp));obtain⟨f1,f2⟩:=s9.done _ rfl;exact yay (aj (i:=2) (j:=3) (t:=36) rfl rfl rfl (by kernel_rfl) (by kernel_rfl) f1) rfl ⟨by rw[HF.out];rfl,f2⟩
 rcases (by omega:v.k=1\/v.k=3\/v.k=5\/v.k=2\/v.k=6\/v.k=4\/v.k=7\/v.k=8) with hv | hv | hv | hv | hv | hv | hv | hv
 all_goals
  clear hk
  first | have g1:(v.k==1)=true:=by simp;omega | have g1:(v.k==1)=false:=by simp;omega
  first | have g3:(v.k==3)=true:=by simp;omega | have g3:(v.k==3)=false:=by simp;omega
  first | have g5:(v.k==5)=true:=by simp;omega | have g5:(v.k==5)=false:=by simp;omega
  first | have g2:(v.k==2)=true:=by simp;omega | have g2:(v.k==2)=false:=by simp;omega
  first | have g6:(v.k==6)=true:=by simp;omega | have g6:(v.k==6)=false:=by simp;omega
  first | have g4:(v.k==4)=true:=by simp;omega | have g4:(v.k==4)=false:=by simp;omega
  first | have g7:(v.k==7)=true:=by simp;omega | have g7:(v.k==7)=false:=by simp;omega
  first | have g8:(v.k==8)=true:=by simp;omega | have g8:(v.k==8)=false:=by simp;omega
  have HV:=hid hv;clear hv;go_in;go_upto_region 2 with (refine zNr rfl ?_;go_simp);generalize hg:((w.alloc _).alloc _).alloc _=W0;have s1:InBare w v (bP [] v) W0:=by rw[<-hg];exact s0
  clear hg s0;obtain⟨c0,c1,c2,c3,c4,c5,c6,-⟩:=aC s1.o;obtain⟨b0,b1,b2,b3,b4,b5,b6,b7⟩:=aC s1.b
 iterate 3
  focus
   have HF:Hid (fieldsOf v.k=[110,97]):=hid (by rw[HV.out];rfl);go_upto_region 7 with fail;have d0:InBare w v (bP [] v) W0.drew:=⟨s1.o,s1.r,s1.b,s1.bel.drew⟩
   refine yaB (S:=fun W=>W.heap[w.heap.size]?=some v.box) hmo ?_;change wpAnyH _ _ _ _ _ _ _ _ (World.drew _);have zf0:=fun (w0:World) (h:w0.heap[w.heap.size]?=some v.box)=>aC h;refine zHp 0 (pp w.heap.size 1) rfl d0.o ?_;go_simp;refine zHa 1 (.string v.name) rfl (by intro _ _;go_simp) d0.o ?_;go_simp;refine zHp 2 (pp w.heap.size 3) rfl d0.o ?_;go_simp;refine zHa 3 (.slice v.ao v.an v.ac) rfl (by intro _ _;go_simp) d0.o ?_;go_simp;refine zHp 4 (.pointer (some ⟨w.heap.size+1+1,1,none⟩)) rfl d0.o ?_;go_simp;refine zH1 5 rfl (fun K hK=>?_);go_simp;have d1:=d0.set 1 (.string v.name) (bP [110] v) (fun cs h=>by cases h;rfl);refine hK _ _ ⟨d1.o,?_⟩;clear hK K;refine zHp 6 (.pointer (some ⟨w.heap.size+1+1,3,none⟩)) rfl d1.o ?_;go_simp;refine zH1 7 rfl (fun K hK=>?_);go_simp;have d2:=d1.set 3 (.slice v.ao v.an v.ac) (bP [110,97] v) (fun cs h=>by cases h;rfl);refine hK _ _ ⟨d2.o,?_⟩;clear hK K;refine zd ?_;have s9:=d2;clear c0 c1 c2 c3 c4 c5 c6 b0 b1 b2 b3 b4 b5 b6 b7
  rotate_left
 iterate 2
  focus
   have HF:Hid (fieldsOf v.k=[110]):=hid (by rw[HV.out];rfl);go_upto_region 17 with fail;have s2:=s1.set 1 (.string v.name) (bP [110] v) (fun cs h=>by cases h;rfl);have s9:=s2;clear c0 c1 c2 c3 c4 c5 c6 b0 b1 b2 b3 b4 b5 b6 b7
  rotate_left
 focus
  have HF:Hid (fieldsOf v.k=[110,116]):=hid (by rw[HV.out];rfl);go_upto_region 12 with fail;have d0:InBare w v (bP [] v) W0.drew:=⟨s1.o,s1.r,s1.b,s1.bel.drew⟩
  refine yaB (S:=fun W=>W.heap[w.heap.size]?=some v.box) hmo ?_;change wpAnyH _ _ _ _ _ _ _ _ (World.drew _);have zf0:=fun (w0:World) (h:w0.heap[w.heap.size]?=some v.box)=>aC h;refine zHp 0 (pp w.heap.size 1) rfl d0.o ?_;go_simp;refine zHa 1 (.string v.name) rfl (by intro _ _;go_simp) d0.o ?_;go_simp;refine zHp 2 (pp w.heap.size 2) rfl d0.o ?_;go_simp;refine zHa 3 (.string v.to) rfl (by intro _ _;go_simp) d0.o ?_;go_simp;refine zHp 4 (.pointer (some ⟨w.heap.size+1+1,1,none⟩)) rfl d0.o ?_;go_simp;refine zH1 5 rfl (fun K hK=>?_);go_simp;have d1:=d0.set 1 (.string v.name) (bP [110] v) (fun cs h=>by cases h;rfl);refine hK _ _ ⟨d1.o,?_⟩;clear hK K;refine zHp 6 (.pointer (some ⟨w.heap.size+1+1,2,none⟩)) rfl d1.o ?_;go_simp;refine zH1 7 rfl (fun K hK=>?_);go_simp;have d2:=d1.set 2 (.string v.to) (bP [110,116] v) (fun cs h=>by cases h;rfl);refine hK _ _ ⟨d2.o,?_⟩;clear hK K;refine zd ?_;have s9:=d2;clear c0 c1 c2 c3 c4 c5 c6 b0 b1 b2 b3 b4 b5 b6 b7
 rotate_left
 focus
  have HF:Hid (fieldsOf v.k=[112,99,107]):=hid (by rw[HV.out];rfl);go_upto_region 14 with fail;have d0:InBare w v (bP [] v) W0.drew:=⟨s1.o,s1.r,s1.b,s1.bel.drew⟩
  refine yaB (S:=fun W=>W.heap[w.heap.size]?=some v.box) hmo ?_;change wpAnyH _ _ _ _ _ _ _ _ (World.drew _);have zf0:=fun (w0:World) (h:w0.heap[w.heap.size]?=some v.box)=>aC h;refine zHp 0 (pp w.heap.size 4) rfl d0.o ?_;go_simp;refine zHa 1 (.slice v.bo v.bn v.bc) rfl (by intro _ _;go_simp) d0.o ?_;go_simp;refine zHp 2 (pp w.heap.size 5) rfl d0.o ?_;go_simp;refine zHa 3 (.slice v.co v.cn v.cc) rfl (by intro _ _;go_simp) d0.o ?_;go_simp;refine zHp 4 (pp w.heap.size 6) rfl d0.o ?_;go_simp;refine zHa 5 (.int .i64 v.n) rfl (by intro _ _;go_simp) d0.o ?_;go_simp;refine zHp 6 (.pointer (some ⟨w.heap.size+1+1,4,none⟩)) rfl d0.o ?_;go_simp;refine zH1 7 rfl (fun K hK=>?_);go_simp;have d1:=d0.set 4 (.slice v.bo v.bn v.bc) (bP [112] v) (fun cs h=>by cases h;rfl);refine hK _ _ ⟨d1.o,?_⟩;clear hK K;refine zHp 8 (.pointer (some ⟨w.heap.size+1+1,5,none⟩)) rfl d1.o ?_;go_simp;refine zH1 9 rfl (fun K hK=>?_);go_simp;have d2:=d1.set 5 (.slice v.co v.cn v.cc) (bP [112,99] v) (fun cs h=>by cases h;rfl);refine hK _ _ ⟨d2.o,?_⟩;clear hK K;refine zHp 10 (.pointer (some ⟨w.heap.size+1+1,6,none⟩)) rfl d2.o ?_;go_simp;refine zH1 11 rfl (fun K hK=>?_);go_simp;have d3:=d2.set 6 (.int .i64 v.n) (bP [112,99,107] v) (fun cs h=>by cases h;rfl);refine hK _ _ ⟨d3.o,?_⟩;clear hK K;refine zd ?_;have s9:=d3;clear c0 c1 c2 c3 c4 c5 c6 b0 b1 b2 b3 b4 b5 b6 b7
 rotate_left
 focus
  have HF:Hid (fieldsOf v.k=[99,107]):=hid (by rw[HV.out];rfl);go_upto_region 16 with fail;have d0:InBare w v (bP [] v) W0.drew:=⟨s1.o,s1.r,s1.b,s1.bel.drew⟩
  refine yaB (S:=fun W=>W.heap[w.heap.size]?=some v.box) hmo ?_;change wpAnyH _ _ _ _ _ _ _ _ (World.drew _);have zf0:=fun (w0:World) (h:w0.heap[w.heap.size]?=some v.box)=>aC h;refine zHp 0 (pp w.heap.size 5) rfl d0.o ?_;go_simp;refine zHa 1 (.slice v.co v.cn v.cc) rfl (by intro _ _;go_simp) d0.o ?_;go_simp;refine zHp 2 (pp w.heap.size 6) rfl d0.o ?_;go_simp;refine zHa 3 (.int .i64 v.n) rfl (by intro _ _;go_simp) d0.o ?_;go_simp;refine zHp 4 (.pointer (some ⟨w.heap.size+1+1,5,none⟩)) rfl d0.o ?_;go_simp;refine zH1 5 rfl (fun K hK=>?_);go_simp;have d1:=d0.set 5 (.slice v.co v.cn v.cc) (bP [99] v) (fun cs h=>by cases h;rfl);refine hK _ _ ⟨d1.o,?_⟩;clear hK K;refine zHp 6 (.pointer (some ⟨w.heap.size+1+1,6,none⟩)) rfl d1.o ?_;go_simp;refine zH1 7 rfl (fun K hK=>?_);go_simp;have d2:=d1.set 6 (.int .i64 v.n) (bP [99,107] v) (fun cs h=>by cases h;rfl);refine hK _ _ ⟨d2.o,?_⟩;clear hK K;refine zd ?_;have s9:=d2;clear c0 c1 c2 c3 c4 c5 c6 b0 b1 b2 b3 b4 b5 b6 b7
 rotate_left
 all_goals
  go_wp2_with (first | (refine zLr rfl s9.b ?_;go_simp) | (refine zSr rfl s9.r ?_;go_simp));obtain⟨f1,f2⟩:=s9.done _ rfl;exact yay (aj (i:=2) (j:=3) (t:=36) rfl rfl rfl (by kernel_rfl) (by kernel_rfl) f1) rfl ⟨by rw[HF.out];rfl,f2⟩
