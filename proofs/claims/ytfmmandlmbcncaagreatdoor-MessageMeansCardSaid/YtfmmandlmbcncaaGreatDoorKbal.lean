/-
  A part of the proof.
-/
import Derived.Lib.Bytealg
import Derived.Deep.Cut
import Derived.Test.YtfmmandlmbcncaaGreatDoorKbah
import Derived.Test.YtfmmandlmbcncaaGreatDoorKbab
set_option maxHeartbeats 40000000
namespace Go.Proofs.YtfmmandlmbcncaaGreatDoor.Msg
open Go.RowKit Go.Lib Go.Proofs.YtfmmandlmbcncaaGreatDoor.Mem Go.Proofs.YtfmmandlmbcncaaGreatDoor.Utf
set_option maxRecDepth 100000 in
theorem cmpStr_any (a b:ByteArray)(w:World):Calls Tryz.prog 183 #[.string a,.string b] w fun e w'=>e=.returned (.int .i64 (compareBytes a.data.toList b.data.toList))∧w'=w:=by
 go_enter Tryz.func183,Tryz.ntmps183
 go_wp2
 rw[run_callFunc_extern Tryz.func227 (by kernel_rfl) (by kernel_rfl) (by kernel_rfl) (e:=Extern.BytealgCompare.compare) (by kernel_rfl),run_compareString]
 simp only[Result.andThen]
 rw[Oper.upon_value]
 go_wp2
 go_ret
 exact⟨rfl,rfl⟩
set_option maxRecDepth 100000 in
theorem strCmp_any (a b:ByteArray)(w:World):Calls Tryz.prog 155 #[.string a,.string b] w fun e w'=>e=.returned (.int .i64 (compareBytes a.data.toList b.data.toList))∧w'=w:=by
 go_enter Tryz.func155,Tryz.ntmps155
 go_wp2_with fail
 refine (cmpStr_any _ _ _).mono ?_
 rintro e w1 ⟨rfl,rfl⟩
 go_wp2_with fail
 go_ret
 exact⟨rfl,rfl⟩
def orI (x y:Int):Int:=if x=0 then y else x
set_option maxRecDepth 100000 in
theorem or_any (x y:Int)(b:Nat)(w:World)(h:Rd w 1 (some ⟨b,0,none⟩) 2 2 [.int .i64 x,.int .i64 y]):Calls Tryz.prog 154 #[.slice (some ⟨b,0,none⟩) 2 2] w fun e w'=>e=.returned (.int .i64 (orI x y))∧w'=w:=by
 have hc:=(h.2.2.2.2 (by decide) _ rfl).2.2
 have c0:w.cell? ⟨b,0,none⟩=some (.int .i64 x):=hc 0 _ rfl
 have c1:w.cell? ⟨b,1,none⟩=some (.int .i64 y):=hc 1 _ rfl
 go_enter Tryz.func154,Tryz.ntmps154
 go_wp2_with fail
 go_loopw [8] (fun p wr=>∃k:Nat,k≤2∧p=.int .i64 (k:Int)∧(1≤k→x=0)∧(2≤k→y=0)∧wr=w) (fun p _=>2-(intOf p).toNat)
 case atStart=>exact⟨0,by omega,rfl,fun h=>by omega,fun h=>by omega,rfl⟩
 case round=>
  obtain⟨k,hk,rfl,hx0,hy0,rfl⟩:=hrel
  rcases (by omega:k=0∨k=1∨k=2) with rfl|rfl|rfl
  ·by_cases hx:x=0
   ·have f1:(x==0)=true:=by simp[hx]
    have HX:=hid hx
    clear hx hx0 hy0
    go_wp2_with fail
    go_roundw
    case rel=>exact⟨1,by omega,rfl,fun _=>HX.out,fun h=>by omega,trivial⟩
    case measure=>simp[intOf]
   have f1:(x==0)=false:=by simp[hx]
   have HX:=hid hx
   clear hx hx0 hy0
   go_wp2_with fail
   go_ret
   exact⟨by unfold orI;rw[if_neg HX.out];rfl,rfl⟩
  ·have hx:=hx0 (by omega)
   clear hx0 hy0
   have HX:=hid hx
   clear hx
   by_cases hy:y=0
   ·have f1:(y==0)=true:=by simp[hy]
    have HY:=hid hy
    clear hy
    go_wp2_with fail
    go_roundw
    case rel=>exact⟨2,by omega,rfl,fun _=>HX.out,fun _=>HY.out,trivial⟩
    case measure=>simp[intOf]
   have f1:(y==0)=false:=by simp[hy]
   clear hy
   go_wp2_with fail
   go_ret
   exact⟨by unfold orI;rw[if_pos HX.out];rfl,rfl⟩
  have hx:=hx0 (by omega)
  have hy:=hy0 (by omega)
  have HX:=hid hx
  have HY:=hid hy
  clear hx0 hy0 hx hy
  go_wp2_with fail
  go_ret
  exact⟨by unfold orI;rw[if_pos HX.out,HY.out];rfl,rfl⟩
def cmpA (a b:ByteArray×ByteArray):Int:=orI (compareBytes a.1.data.toList b.1.data.toList) (compareBytes a.2.data.toList b.2.data.toList)
def atBox (x:ByteArray×ByteArray):Obj:=.cells #[.string x.1,.string x.2] 106
theorem atBox_cells {W:World}{B:Nat}{x:ByteArray×ByteArray}(h:W.heap[B]?=some (atBox x)):W.cell? ⟨B,0,none⟩=some (.string x.1)∧W.cell? ⟨B,1,none⟩=some (.string x.2):=by
 unfold atBox at h
 simp[World.cell?,h]
def InAB (w:World)(a b:ByteArray×ByteArray)(W:World):Prop:=W.heap[w.heap.size]?=some (atBox a)∧W.heap[w.heap.size+1]?=some (atBox b)∧Below w.heap.size w W
theorem InAB.step {w W W':World}{a b:ByteArray×ByteArray}(h:InAB w a b W)(hb:Below W.heap.size W W'):InAB w a b W':=
 ⟨(hb.block _ (Array.getElem?_eq_some_iff.1 h.1).1).trans h.1,(hb.block _ (Array.getElem?_eq_some_iff.1 h.2.1).1).trans h.2.1,h.2.2.trans (hb.mono h.2.2.size)⟩
set_option maxRecDepth 100000 in
theorem compare_any (a b:ByteArray×ByteArray)(w:World):Calls Tryz.prog 123 #[.agg #[.string a.1,.string a.2],.agg #[.string b.1,.string b.2]] w fun e w'=>e=.returned (.int .i64 (cmpA a b))∧Below w.heap.size w w':=by
 have hmo:Tryz.prog.follows .mixedOrders=true:=by kernel_rfl
 obtain⟨x1,hx1⟩:∃x1,compareBytes a.1.data.toList b.1.data.toList=x1:=⟨_,rfl⟩
 obtain⟨x2,hx2⟩:∃x2,compareBytes a.2.data.toList b.2.data.toList=x2:=⟨_,rfl⟩
 have Hx:Hid (cmpA a b=orI x1 x2):=hid (by unfold cmpA;rw[hx1,hx2])
 have hs1:=fun W=>strCmp_any a.1 b.1 W
 have hs2:=fun W=>strCmp_any a.2 b.2 W
 rw[hx1] at hs1
 rw[hx2] at hs2
 clear hx1 hx2
 go_enter Tryz.func123,Tryz.ntmps123
 go_wp2_with fail
 generalize hg:(w.alloc _).alloc _=W0
 have s0:InAB w a b W0.drew:=by
  obtain⟨h1,h2⟩:=two_boxes w (atBox a) (atBox b)
  rw[←hg]
  exact⟨h1,h2,(below_two w _ _).drew⟩
 clear hg
 refine wp_region_held (S:=InAB w a b) hmo ?_
 change wpAnyH _ _ _ _ _ _ _ _ (World.drew W0)
 generalize W0.drew=V0 at *
 refine zHp 0 (.pointer (some ⟨w.heap.size,0,none⟩)) rfl s0 ?_
 go_simp
 refine zHa 1 (.string a.1) rfl (by rintro w h;obtain⟨c0,c1⟩:=atBox_cells h.1;obtain⟨d0,d1⟩:=atBox_cells h.2.1;go_simp) s0 ?_
 go_simp
 refine zHp 2 (.pointer (some ⟨w.heap.size+1,0,none⟩)) rfl s0 ?_
 go_simp
 refine zHa 3 (.string b.1) rfl (by rintro w h;obtain⟨c0,c1⟩:=atBox_cells h.1;obtain⟨d0,d1⟩:=atBox_cells h.2.1;go_simp) s0 ?_
 go_simp
 refine zHp 5 (.pointer (some ⟨w.heap.size,1,none⟩)) rfl s0 ?_
 go_simp
 refine zHa 6 (.string a.2) rfl (by rintro w h;obtain⟨c0,c1⟩:=atBox_cells h.1;obtain⟨d0,d1⟩:=atBox_cells h.2.1;go_simp) s0 ?_
 go_simp
 refine zHp 7 (.pointer (some ⟨w.heap.size+1,1,none⟩)) rfl s0 ?_
 go_simp
 refine zHa 8 (.string b.2) rfl (by rintro w h;obtain⟨c0,c1⟩:=atBox_cells h.1;obtain⟨d0,d1⟩:=atBox_cells h.2.1;go_simp) s0 ?_
 go_simp
 refine zH1 4 rfl (fun K hK=>?_)
 go_simp
 refine (hs1 _).mono ?_
 rintro e W1 ⟨rfl,rfl⟩
 go_simp
 refine hK _ _ ⟨s0,?_⟩
 clear hK K
 refine zH1 9 rfl (fun K hK=>?_)
 go_simp
 refine (hs2 _).mono ?_
 rintro e W2 ⟨rfl,rfl⟩
 go_simp
 refine hK _ _ ⟨s0,?_⟩
 clear hK K
 refine zH1 10 rfl (fun K hK=>?_)
 go_simp
 generalize hg:W2.alloc _=W3
 have e:W2.alloc (.cells #[.int .i64 x1,.int .i64 x2] 3)=W3:=hg
 have hb3:Below W2.heap.size W2 W3:=by rw[←e];exact (Below.refl _ _).alloc (Nat.le_refl _) _
 have hr3:Rd W3 1 (some ⟨W2.heap.size,0,none⟩) 2 2 [.int .i64 x1,.int .i64 x2]:=by rw[←e];exact Rd.new W2 [.int .i64 x1,.int .i64 x2] 3 (0,0) 1 2 rfl (by decide)
 clear hg e
 have s1:=s0.step hb3
 refine hK _ _ ⟨s1,?_⟩
 clear hK K
 refine zH1 11 rfl (fun K hK=>?_)
 go_simp
 refine (or_any x1 x2 _ W3 hr3).mono ?_
 rintro e W4 ⟨rfl,rfl⟩
 go_simp
 refine hK _ _ ⟨s1,?_⟩
 clear hK K
 refine zHp 12 (.int .i64 (orI x1 x2)) rfl s1 ?_
 go_simp
 refine wpAnyH_done (by kernel_rfl) ?_ _
 go_wp2_with fail
 go_ret
 exact⟨by rw[Hx.out];rfl,s1.2.2⟩
def rise:List (ByteArray×ByteArray)→Bool
 | a::b::l=>decide (cmpA a b<0)&&rise (b::l)
 | _=>true
def mayAttrs (l:List (ByteArray×ByteArray)):Bool:=l.all mayAttr&&rise l&&decide (l.length≤50)
theorem rise_snoc (x:ByteArray×ByteArray):∀(l:List (ByteArray×ByteArray)),rise l=true→(∀y,l.getLast?=some y→cmpA y x<0)→rise (l++[x])=true
 | [],_,_=>rfl
 | [a],_,h=>by
  have:=h a rfl
  simp[rise,this]
 | a::b::l,h,h2=>by
  simp only[rise,Bool.and_eq_true] at h
  have:=rise_snoc x (b::l) h.2 (fun y hy=>h2 y (by rw[List.getLast?_cons_cons];exact hy))
  simp only[List.cons_append,rise,Bool.and_eq_true]
  exact⟨h.1,this⟩
theorem rise_no:∀(k:Nat) (l:List (ByteArray×ByteArray)) (a b:ByteArray×ByteArray),l[k]?=some a→l[k+1]?=some b→¬cmpA a b<0→rise l=false
 | 0,x::y::l,a,b,h1,h2,h=>by
  simp at h1 h2
  subst h1 h2
  simp[rise,h]
 | k+1,x::y::l,a,b,h1,h2,h=>by
  have:=rise_no k (y::l) a b (by simpa using h1) (by simpa using h2) h
  simp[rise,this]
 | 0,[x],a,b,h1,h2,h=>by simp at h2
 | k+1,[x],a,b,h1,h2,h=>by simp at h1
 | _,[],a,b,h1,h2,h=>by simp at h1
theorem rise_take (l:List (ByteArray×ByteArray))(k:Nat)(u:ByteArray×ByteArray)(hu:l[k]?=some u)(h:rise (l.take k)=true)(hc:∀p,0<k→l[k-1]?=some p→cmpA p u<0):rise (l.take (k+1))=true:=by
 obtain⟨hl,e⟩:=List.getElem?_eq_some_iff.1 hu
 rw[List.take_succ_eq_append_getElem hl,e]
 refine rise_snoc u _ h (fun y hy=>?_)
 have hk:0<k:=by
  rcases Nat.eq_zero_or_pos k with h0 | h0
  ·subst h0;simp at hy
  exact h0
 refine hc y hk ?_
 rw[List.getLast?_eq_getElem?,List.length_take,Nat.min_eq_left (by omega),List.getElem?_take_of_lt (by omega)] at hy
 exact hy
def InAt (wr:World)(u p:ByteArray×ByteArray)(b o:Nat)(W:World):Prop:=W.heap[wr.heap.size]?=some (atBox u)∧W.cell? ⟨b,o,none⟩=some (.string p.1)∧W.cell? ⟨b,o+1,none⟩=some (.string p.2)∧Below wr.heap.size wr W
theorem InAt.step {wr W W':World}{u p:ByteArray×ByteArray}{b o:Nat}(h:InAt wr u p b o W)(hb:Below W.heap.size W W'):InAt wr u p b o W':=
 ⟨(hb.block _ (Array.getElem?_eq_some_iff.1 h.1).1).trans h.1,(hb.cell (World.block_lt_of_cell? W _ h.2.1)).trans h.2.1,(hb.cell (World.block_lt_of_cell? W _ h.2.2.1)).trans h.2.2.1,h.2.2.2.trans (hb.mono h.2.2.2.size)⟩
set_option maxRecDepth 100000 in
theorem mayAttrs_any (ao:Option Addr)(n cap:Nat)(x:List (ByteArray×ByteArray))(w:World)(hx:Rd w 2 ao n cap (atV x))(hn:n≤1000000000) :
  Calls Tryz.prog 79 #[.slice ao n cap] w (GivesB (mayAttrs x) w):=by
 have hmo:Tryz.prog.follows .mixedOrders=true:=by kernel_rfl
 have lx:x.length=n:=by have:=hx.1;rw[atV_len] at this;omega
 have LX:=hid lx
 clear lx
 go_enter Tryz.func79,Tryz.ntmps79
 go_wp2_with fail
 go_loopw [7] (fun p wr=>∃k:Nat,k≤n∧p=.int .i64 (k:Int)∧Hid ((x.take k).all mayAttr=true)∧Hid (rise (x.take k)=true)∧Below w.heap.size w wr) (fun p _=>n-(intOf p).toNat)
 case atStart=>exact⟨0,Nat.zero_le _,rfl,hid rfl,hid rfl,Below.refl _ _⟩
 case round=>
  obtain⟨k,hk,rfl,Ha,Hr,hbr⟩:=hrel
  by_cases hkn:k<n
  ·obtain⟨b1,o1,rfl,hl1,hc1⟩:=hx.some (by have:=hx.le;omega)
   obtain⟨u,hu⟩:∃u,x[k]?=some u:=⟨_,List.getElem?_eq_getElem (by rw[LX.out];exact hkn)⟩
   obtain⟨p,hp⟩:∃p,x[k-1]?=some p:=⟨_,List.getElem?_eq_getElem (by rw[LX.out];omega)⟩
   obtain⟨v1,v2⟩:=atV_at x k u hu
   obtain⟨v3,v4⟩:=atV_at x (k-1) p hp
   have c1:=(hbr.cell (p:=⟨b1,o1+k*2,none⟩) hl1).trans (hc1 (k*2) _ v1)
   have c2:wr.cell? ⟨b1,o1+k*2+1,none⟩=_:=(hbr.cell (p:=⟨b1,o1+(k*2+1),none⟩) hl1).trans (hc1 (k*2+1) _ v2)
   have c3:=(hbr.cell (p:=⟨b1,o1+(k-1)*2,none⟩) hl1).trans (hc1 ((k-1)*2) _ v3)
   have c4:wr.cell? ⟨b1,o1+(k-1)*2+1,none⟩=_:=(hbr.cell (p:=⟨b1,o1+((k-1)*2+1),none⟩) hl1).trans (hc1 ((k-1)*2+1) _ v4)
   clear v1 v2 v3 v4
   have i0:(0:Int)≤(k:Int):=by omega
   have i1:(k:Int)<(n:Int):=by omega
   go_upto_region 4 with fail
   generalize hg:wr.alloc _=W0
   have hb0:Below wr.heap.size wr W0:=by rw[←hg];exact (Below.refl _ _).alloc (Nat.le_refl _) _
   have k1:W0.heap[wr.heap.size]?=some (atBox u):=by rw[←hg];show (wr.heap.push _)[wr.heap.size]?=some _;exact Array.getElem?_push_size
   have s0:InAt wr u p b1 (o1+(k-1)*2) W0.drew:=⟨k1,(hb0.cell (World.block_lt_of_cell? wr _ c3)).trans c3,(hb0.cell (World.block_lt_of_cell? wr _ c4)).trans c4,hb0.drew⟩
   clear hg hb0 k1 c1 c2 c3 c4
   have hbw:=hbr.size
   by_cases hm:mayAttr u=true
   ·have HM:=hid hm
    have hall:Hid ((x.take (k+1)).all mayAttr=true):=hid (by obtain⟨hl,e⟩:=List.getElem?_eq_some_iff.1 hu;rw[List.take_succ_eq_append_getElem hl,e,List.all_append,Ha.out];simp[hm])
    clear hm
    by_cases hk0:k=0
    ·have HR:Hid (rise (x.take (k+1))=true):=hid (rise_take x k u hu Hr.out (fun p h=>absurd hk0 (by omega)))
     have g1:decide ((0:Int)<(k:Int))=false:=decide_eq_false (by omega)
     clear hk0
     refine wp_region_held (S:=InAt wr u p b1 (o1+(k-1)*2)) hmo ?_
     change wpAnyH _ _ _ _ _ _ _ _ (World.drew W0)
     refine zHa 0 (.agg #[.string u.1,.string u.2]) rfl (by rintro w h;obtain⟨c0,c1⟩:=atBox_cells h.1;have c2:=h.2.1;have c3:=h.2.2.1;go_simp) s0 ?_
     go_simp
     refine zH1 1 rfl (fun K hK=>?_)
     go_simp
     refine (mayAttr_any u _).mono ?_
     rintro e W1 ⟨rfl,hb1⟩
     rw[HM.out]
     have s1:=s0.step hb1
     go_simp
     refine hK _ _ ⟨s1,?_⟩
     clear hK K
     refine zHa 2 (.bool false) rfl (by rintro w h;obtain⟨c0,c1⟩:=atBox_cells h.1;have c2:=h.2.1;have c3:=h.2.2.1;go_simp) s1 ?_
     go_simp
     refine zHp 3 (.bool false) rfl s1 ?_
     go_simp
     refine zHp 4 (.int .i64 (k:Int)) rfl s1 ?_
     go_simp
     refine zHa 5 (.bool false) rfl (by rintro w h;obtain⟨c0,c1⟩:=atBox_cells h.1;have c2:=h.2.1;have c3:=h.2.2.1;go_simp;have:=of_decide_eq_false g1;omega) s1 ?_
     go_simp
     refine zHp 6 (.bool false) rfl s1 ?_
     go_simp
     refine zHo 7 rfl s1 ?_
     go_simp
     refine zHo 8 rfl s1 ?_
     go_simp
     refine zHo 9 rfl s1 ?_
     go_simp
     refine zHo 10 rfl s1 ?_
     go_simp
     refine zHo 11 rfl s1 ?_
     go_simp
     refine zHo 12 rfl s1 ?_
     go_simp
     refine zHo 13 rfl s1 ?_
     go_simp
     refine zHo 14 rfl s1 ?_
     go_simp
     refine zHp 15 (.bool false) rfl s1 ?_
     go_simp
     refine zHp 16 (.bool false) rfl s1 ?_
     go_simp
     refine wpAnyH_done (by kernel_rfl) ?_ _
     go_wp2_with fail
     go_roundw
     case rel=>exact⟨k+1,by omega,by go_num,hall,HR,hbr.trans (s1.2.2.2.mono hbw)⟩
     case measure=>simp[intOf];omega
    have g1:decide ((0:Int)<(k:Int))=true:=decide_eq_true (by omega)
    have g2:IntKind.wrap .i64 ((k:Int)-1)=((k-1:Nat):Int):=by rw[IntKind.wrap_i64];omega
    have i2:(0:Int)≤((k-1:Nat):Int):=by omega
    have i3:((k-1:Nat):Int)<(n:Int):=by omega
    by_cases hcm:cmpA p u<0
    ·have g3:decide ((0:Int)≤cmpA p u)=false:=decide_eq_false (by omega)
     have HR:Hid (rise (x.take (k+1))=true):=hid (rise_take x k u hu Hr.out (fun q _ hq=>by rw[hp] at hq;rw[←Option.some.inj hq];exact hcm))
     clear hcm
     refine wp_region_held (S:=InAt wr u p b1 (o1+(k-1)*2)) hmo ?_
     change wpAnyH _ _ _ _ _ _ _ _ (World.drew W0)
     refine zHa 0 (.agg #[.string u.1,.string u.2]) rfl (by rintro w h;obtain⟨c0,c1⟩:=atBox_cells h.1;have c2:=h.2.1;have c3:=h.2.2.1;go_simp) s0 ?_
     go_simp
     refine zH1 1 rfl (fun K hK=>?_)
     go_simp
     refine (mayAttr_any u _).mono ?_
     rintro e W1 ⟨rfl,hb1⟩
     rw[HM.out]
     have s1:=s0.step hb1
     go_simp
     refine hK _ _ ⟨s1,?_⟩
     clear hK K
     refine zHa 2 (.bool false) rfl (by rintro w h;obtain⟨c0,c1⟩:=atBox_cells h.1;have c2:=h.2.1;have c3:=h.2.2.1;go_simp) s1 ?_
     go_simp
     refine zHp 3 (.bool false) rfl s1 ?_
     go_simp
     refine zHp 4 (.int .i64 (k:Int)) rfl s1 ?_
     go_simp
     refine zHa 5 (.bool true) rfl (by rintro w h;obtain⟨c0,c1⟩:=atBox_cells h.1;have c2:=h.2.1;have c3:=h.2.2.1;go_simp;have:=of_decide_eq_true g1;omega) s1 ?_
     go_simp
     refine zHp 6 (.bool true) rfl s1 ?_
     go_simp
     refine zHp 7 (.slice (some ⟨b1,o1,none⟩) n cap) rfl s1 ?_
     go_simp
     refine zHp 8 (.int .i64 (k:Int)) rfl s1 ?_
     go_simp
     refine zHa 9 (.int .i64 ((k-1:Nat):Int)) rfl (by rintro w h;obtain⟨c0,c1⟩:=atBox_cells h.1;have c2:=h.2.1;have c3:=h.2.2.1;go_simp) s1 ?_
     go_simp
     refine zHa 10 (.pointer (some ⟨b1,o1+(k-1)*2,none⟩)) rfl (by rintro w h;obtain⟨c0,c1⟩:=atBox_cells h.1;have c2:=h.2.1;have c3:=h.2.2.1;go_simp) s1 ?_
     go_simp
     refine zHa 11 (.agg #[.string p.1,.string p.2]) rfl (by rintro w h;obtain⟨c0,c1⟩:=atBox_cells h.1;have c2:=h.2.1;have c3:=h.2.2.1;go_simp) s1 ?_
     go_simp
     refine zHa 12 (.agg #[.string u.1,.string u.2]) rfl (by rintro w h;obtain⟨c0,c1⟩:=atBox_cells h.1;have c2:=h.2.1;have c3:=h.2.2.1;go_simp) s1 ?_
     go_simp
     refine zH1 13 rfl (fun K hK=>?_)
     go_simp
     refine (compare_any p u _).mono ?_
     rintro e W2 ⟨rfl,hb2⟩
     have s2:=s1.step hb2
     go_simp
     refine hK _ _ ⟨s2,?_⟩
     clear hK K
     refine zHa 14 (.bool false) rfl (by rintro w h;obtain⟨c0,c1⟩:=atBox_cells h.1;have c2:=h.2.1;have c3:=h.2.2.1;go_simp) s2 ?_
     go_simp
     refine zHp 15 (.bool false) rfl s2 ?_
     go_simp
     refine zHp 16 (.bool false) rfl s2 ?_
     go_simp
     refine wpAnyH_done (by kernel_rfl) ?_ _
     go_wp2_with fail
     go_roundw
     case rel=>exact⟨k+1,by omega,by go_num,hall,HR,hbr.trans (s2.2.2.2.mono hbw)⟩
     case measure=>simp[intOf];omega
    have g3:decide ((0:Int)≤cmpA p u)=true:=decide_eq_true (by omega)
    have HR:Hid (mayAttrs x=false):=hid (by unfold mayAttrs;rw[rise_no (k-1) x p u hp (by rw[show k-1+1=k from by omega];exact hu) hcm];simp)
    clear hcm
    refine wp_region_held (S:=InAt wr u p b1 (o1+(k-1)*2)) hmo ?_
    change wpAnyH _ _ _ _ _ _ _ _ (World.drew W0)
    refine zHa 0 (.agg #[.string u.1,.string u.2]) rfl (by rintro w h;obtain⟨c0,c1⟩:=atBox_cells h.1;have c2:=h.2.1;have c3:=h.2.2.1;go_simp) s0 ?_
    go_simp
    refine zH1 1 rfl (fun K hK=>?_)
    go_simp
    refine (mayAttr_any u _).mono ?_
    rintro e W1 ⟨rfl,hb1⟩
    rw[HM.out]
    have s1:=s0.step hb1
    go_simp
    refine hK _ _ ⟨s1,?_⟩
    clear hK K
    refine zHa 2 (.bool false) rfl (by rintro w h;obtain⟨c0,c1⟩:=atBox_cells h.1;have c2:=h.2.1;have c3:=h.2.2.1;go_simp) s1 ?_
    go_simp
    refine zHp 3 (.bool false) rfl s1 ?_
    go_simp
    refine zHp 4 (.int .i64 (k:Int)) rfl s1 ?_
    go_simp
    refine zHa 5 (.bool true) rfl (by rintro w h;obtain⟨c0,c1⟩:=atBox_cells h.1;have c2:=h.2.1;have c3:=h.2.2.1;go_simp;have:=of_decide_eq_true g1;omega) s1 ?_
    go_simp
    refine zHp 6 (.bool true) rfl s1 ?_
    go_simp
    refine zHp 7 (.slice (some ⟨b1,o1,none⟩) n cap) rfl s1 ?_
    go_simp
    refine zHp 8 (.int .i64 (k:Int)) rfl s1 ?_
    go_simp
    refine zHa 9 (.int .i64 ((k-1:Nat):Int)) rfl (by rintro w h;obtain⟨c0,c1⟩:=atBox_cells h.1;have c2:=h.2.1;have c3:=h.2.2.1;go_simp) s1 ?_
    go_simp
    refine zHa 10 (.pointer (some ⟨b1,o1+(k-1)*2,none⟩)) rfl (by rintro w h;obtain⟨c0,c1⟩:=atBox_cells h.1;have c2:=h.2.1;have c3:=h.2.2.1;go_simp) s1 ?_
    go_simp
    refine zHa 11 (.agg #[.string p.1,.string p.2]) rfl (by rintro w h;obtain⟨c0,c1⟩:=atBox_cells h.1;have c2:=h.2.1;have c3:=h.2.2.1;go_simp) s1 ?_
    go_simp
    refine zHa 12 (.agg #[.string u.1,.string u.2]) rfl (by rintro w h;obtain⟨c0,c1⟩:=atBox_cells h.1;have c2:=h.2.1;have c3:=h.2.2.1;go_simp) s1 ?_
    go_simp
    refine zH1 13 rfl (fun K hK=>?_)
    go_simp
    refine (compare_any p u _).mono ?_
    rintro e W2 ⟨rfl,hb2⟩
    have s2:=s1.step hb2
    go_simp
    refine hK _ _ ⟨s2,?_⟩
    clear hK K
    refine zHa 14 (.bool true) rfl (by rintro w h;obtain⟨c0,c1⟩:=atBox_cells h.1;have c2:=h.2.1;have c3:=h.2.2.1;go_simp) s2 ?_
    go_simp
    refine zHp 15 (.bool true) rfl s2 ?_
    go_simp
    refine zHp 16 (.bool true) rfl s2 ?_
    go_simp
    refine wpAnyH_done (by kernel_rfl) ?_ _
    go_wp2_with fail
    go_ret
    exact⟨by rw[HR.out];rfl,hbr.trans (s2.2.2.2.mono hbw)⟩
   have hm2:mayAttr u=false:=by simpa using hm
   have HM:=hid hm2
   have HR:Hid (mayAttrs x=false):=hid (by
    unfold mayAttrs
    have:x.all mayAttr=false:=by rw[List.all_eq_false];exact⟨u,List.mem_of_getElem? hu,by simp[hm2]⟩
    rw[this];simp)
   clear hm hm2
   refine wp_region_held (S:=InAt wr u p b1 (o1+(k-1)*2)) hmo ?_
   change wpAnyH _ _ _ _ _ _ _ _ (World.drew W0)
   refine zHa 0 (.agg #[.string u.1,.string u.2]) rfl (by rintro w h;obtain⟨c0,c1⟩:=atBox_cells h.1;have c2:=h.2.1;have c3:=h.2.2.1;go_simp) s0 ?_
   go_simp
   refine zH1 1 rfl (fun K hK=>?_)
   go_simp
   refine (mayAttr_any u _).mono ?_
   rintro e W1 ⟨rfl,hb1⟩
   rw[HM.out]
   have s1:=s0.step hb1
   go_simp
   refine hK _ _ ⟨s1,?_⟩
   clear hK K
   refine zHa 2 (.bool true) rfl (by rintro w h;obtain⟨c0,c1⟩:=atBox_cells h.1;have c2:=h.2.1;have c3:=h.2.2.1;go_simp) s1 ?_
   go_simp
   refine zHp 3 (.bool true) rfl s1 ?_
   go_simp
   refine zHo 4 rfl s1 ?_
   go_simp
   refine zHo 5 rfl s1 ?_
   go_simp
   refine zHo 6 rfl s1 ?_
   go_simp
   refine zHo 7 rfl s1 ?_
   go_simp
   refine zHo 8 rfl s1 ?_
   go_simp
   refine zHo 9 rfl s1 ?_
   go_simp
   refine zHo 10 rfl s1 ?_
   go_simp
   refine zHo 11 rfl s1 ?_
   go_simp
   refine zHo 12 rfl s1 ?_
   go_simp
   refine zHo 13 rfl s1 ?_
   go_simp
   refine zHo 14 rfl s1 ?_
   go_simp
   refine zHo 15 rfl s1 ?_
   go_simp
   refine zHp 16 (.bool true) rfl s1 ?_
   go_simp
   refine wpAnyH_done (by kernel_rfl) ?_ _
   go_wp2_with fail
   go_ret
   exact⟨by rw[HR.out];rfl,hbr.trans (s1.2.2.2.mono hbw)⟩
  have hkn2:k=n:=by omega
  have h1:=Ha.out
  have h2:=Hr.out
  rw[List.take_of_length_le (by rw[LX.out];omega)] at h1 h2
  have HR:Hid (mayAttrs x=decide ((n:Int)≤50)):=hid (by unfold mayAttrs;rw[h1,h2,LX.out,Bool.eq_iff_iff];simp;omega)
  clear h1 h2
  subst hkn2
  go_wp2_with fail
  go_ret
  exact⟨by rw[HR.out];rfl,hbr⟩
end Go.Proofs.YtfmmandlmbcncaaGreatDoor.Msg
