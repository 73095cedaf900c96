/-
  A part of the proof.
-/
import Derived.BigQuiet
import Derived.Test.YtfmmandlmbcncaaGreatDoorKaad
import Derived.Test.YtfmmandlmbcncaaGreatDoorKaae
set_option maxHeartbeats 40000000
namespace Go.Proofs.YtfmmandlmbcncaaGreatDoor.Msg
open Go.RowKit Go.Proofs.YtfmmandlmbcncaaGreatDoor.Mem
def txV (l:List ByteArray):List Value:=l.map Value.string
theorem txV_len (l:List ByteArray):(txV l).length=l.length:=by simp[txV]
def atV (l:List (ByteArray×ByteArray)):List Value:=l.flatMap fun x=>[.string x.1,.string x.2]
theorem atV_len (l:List (ByteArray×ByteArray)):(atV l).length=l.length*2:=by
 induction l with
 | nil=>rfl
 | cons x l ih=>simp only[atV,List.flatMap_cons,List.length_append,List.length_cons,List.length_nil] at ih ⊢;omega
theorem atV_at (l:List (ByteArray×ByteArray))(k:Nat)(y:ByteArray×ByteArray)(h:l[k]?=some y):(atV l)[k*2]?=some (.string y.1)∧(atV l)[k*2+1]?=some (.string y.2):=by
 induction l generalizing k with
 | nil=>simp at h
 | cons z xs ih=>
  cases k with
  | zero=>rw[List.getElem?_cons_zero,Option.some.injEq] at h;subst h;exact⟨rfl,rfl⟩
  | succ k=>
   rw[List.getElem?_cons_succ] at h
   obtain⟨h1,h2⟩:=ih k h
   simp only[atV,List.flatMap_cons,List.cons_append,List.nil_append] at h1 h2 ⊢
   rw[show (k+1)*2=k*2+1+1 by omega]
   simp only[List.getElem?_cons_succ]
   exact⟨h1,h2⟩
theorem txV_at (l:List ByteArray)(k:Nat)(y:ByteArray)(h:l[k]?=some y):(txV l)[k]?=some (.string y):=by simp[txV,h]
theorem byV_at (l:List UInt8)(k:Nat)(y:UInt8)(h:l[k]?=some y):(byV l)[k]?=some (.int .u8 (y.toNat:Int)):=by simp[byV,h]
def GivesB (b:Bool)(w:World)(e:Ending)(w':World):Prop:=e=.returned (.bool b)∧Below w.heap.size w w'
theorem eq_step {α:Type}[DecidableEq α](x y:List α)(k:Nat)(a b:α)(ht:x.take k=y.take k)(ha:x[k]?=some a)(hb:y[k]?=some b)(h:a=b):x.take (k+1)=y.take (k+1):=by
 subst h
 obtain⟨h1,e1⟩:=List.getElem?_eq_some_iff.1 ha
 obtain⟨h2,e2⟩:=List.getElem?_eq_some_iff.1 hb
 rw[List.take_succ_eq_append_getElem h1,List.take_succ_eq_append_getElem h2,ht,e1,e2]
theorem eq_no {α:Type}[DecidableEq α](x y:List α)(k:Nat)(a b:α)(ha:x[k]?=some a)(hb:y[k]?=some b)(h:a≠b):decide (x=y)=false:=by
 apply decide_eq_false
 rintro rfl
 rw[ha] at hb
 exact h (Option.some.inj hb)
theorem ba_toList {a b:ByteArray}(h:a.toList=b.toList):a=b:=by
 rw[ByteArray.toList_eq,ByteArray.toList_eq] at h
 exact ByteArray.ext (Array.toList_inj.1 h)
theorem ba_iff {a b:ByteArray}:a.toList=b.toList↔a=b:=⟨ba_toList,fun h=>by rw[h]⟩
theorem tol_yes (a:ByteArray):(a.toList==a.toList)=true:=by simp
theorem tol_no {a b:ByteArray}(h:a≠b):(a.toList==b.toList)=false:=beq_eq_false_iff_ne.2 (fun e=>h (ba_toList e))
theorem neq_att (x y:ByteArray×ByteArray)(w:World):Sem.run Tryz.prog (binOp .neq 106 (.agg #[.string x.1,.string x.2]) (.agg #[.string y.1,.string y.2])) w=.ok (.bool (!decide (x=y))) w:=by
 have u3:=Tryz.underlying9
 have a3:=Tryz.isAgg9
 have z3:=Tryz.sizeOf9
 have hS:Tryz.prog.underlying 106=some (.struct (Tryz.prog.fieldsOf 106)):=by kernel_rfl
 have hp:Tryz.prog.stoodInHeld 106=false:=by kernel_rfl
 rw[run_neq_struct,show (10000:Nat)=9999+1 from rfl,run_equalIn_agg w 9999 106 _ _ hS hp]
 simp only[Program.fieldsOf,Tryz.underlying106]
 go_simp
 by_cases h1:x.1=y.1<;>by_cases h2:x.2=y.2<;>simp[h1,h2,ba_iff,Prod.ext_iff]
theorem eq_len {α:Type}[DecidableEq α](x y:List α)(h:x.length≠y.length):decide (x=y)=false:=decide_eq_false (fun e=>h (by rw[e]))
set_option maxRecDepth 100000 in
theorem equal_txt (ao bo:Option Addr)(n m cap cbp:Nat)(x y:List ByteArray)(w:World)(hx:Rd w 1 ao n cap (txV x))(hy:Rd w 1 bo m cbp (txV y))(hn:n≤1000000000) :
  Calls Tryz.prog 120 #[.slice ao n cap,.slice bo m cbp] w (GivesB (decide (x=y)) w):=by
 have lx:x.length=n:=by have:=hx.1;rw[txV_len] at this;omega
 have ly:y.length=m:=by have:=hy.1;rw[txV_len] at this;omega
 by_cases hnm:n=m
 ·subst hnm
  have LX:=Lib.hid lx
  have LY:=Lib.hid ly
  clear lx ly
  go_enter Tryz.func120,Tryz.ntmps120
  go_wp2_with fail
  go_loopw [13] (fun p wr=>∃k:Nat,k≤n∧p=.int .i64 (k:Int)∧Hid (x.take k=y.take k)∧Below w.heap.size w wr) (fun p _=>n-(intOf p).toNat)
  case atStart=>exact⟨0,by omega,rfl,Lib.hid (by simp),Below.refl _ _⟩
  case round=>
   obtain⟨k,hk,rfl,Ht,hbr⟩:=hrel
   by_cases hkn:k<n
   ·obtain⟨b1,o1,rfl,hl1,hc1⟩:=hx.some (by have:=hx.le;omega)
    obtain⟨b2,o2,rfl,hl2,hc2⟩:=hy.some (by have:=hy.le;omega)
    obtain⟨u,hu⟩:∃u,x[k]?=some u:=⟨_,List.getElem?_eq_getElem (by rw[LX.out];exact hkn)⟩
    obtain⟨v,hv⟩:∃v,y[k]?=some v:=⟨_,List.getElem?_eq_getElem (by rw[LY.out];exact hkn)⟩
    have c1:=(hbr.cell (p:=⟨b1,o1+k,none⟩) hl1).trans (hc1 k _ (txV_at x k u hu))
    have c2:=(hbr.cell (p:=⟨b2,o2+k,none⟩) hl2).trans (hc2 k _ (txV_at y k v hv))
    have i0:(0:Int)≤(k:Int):=by omega
    have i1:(k:Int)<(n:Int):=by omega
    by_cases huv:u=v
    ·have Hs:=Lib.hid (eq_step x y k u v Ht.out hu hv huv)
     subst huv
     have f1:=tol_yes u
     go_wp2_with fail
     go_quiet (fail)
     go_wp2
     go_roundw
     case rel=>exact⟨k+1,by omega,by go_num,Hs,below_drewN hbr _⟩
     case measure=>simp[intOf];omega
    have Hs:=Lib.hid (eq_no x y k u v hu hv huv)
    have f1:=tol_no huv
    go_wp2_with fail
    go_quiet (fail)
    go_wp2
    go_ret
    exact⟨by rw[Hs.out];rfl,below_drewN hbr _⟩
   have hkn2:k=n:=by omega
   have Hs:Hid (decide (x=y)=true):=Lib.hid (decide_eq_true (by have:=Ht.out;rw[List.take_of_length_le (by rw[LX.out];omega),List.take_of_length_le (by rw[LY.out];omega)] at this;exact this))
   subst hkn2
   go_wp2_with fail
   go_ret
   exact⟨by rw[Hs.out];rfl,hbr⟩
 have f1:((n:Int)==(m:Int))=false:=by simp;omega
 have f2:((n:Int) != (m:Int))=true:=by simp;omega
 have Hs:=Lib.hid (eq_len x y (by omega))
 clear hnm lx ly
 go_enter Tryz.func120,Tryz.ntmps120
 go_wp2_with fail
 go_ret
 exact⟨by rw[Hs.out];rfl,Below.refl _ _⟩
set_option maxRecDepth 100000 in
theorem equal_byt (ao bo:Option Addr)(n m cap cbp:Nat)(x y:List UInt8)(w:World)(hx:Rd w 1 ao n cap (byV x))(hy:Rd w 1 bo m cbp (byV y))(hn:n≤1000000000) :
  Calls Tryz.prog 121 #[.slice ao n cap,.slice bo m cbp] w (GivesB (decide (x=y)) w):=by
 have lx:x.length=n:=by have:=hx.1;rw[byV_len] at this;omega
 have ly:y.length=m:=by have:=hy.1;rw[byV_len] at this;omega
 by_cases hnm:n=m
 ·subst hnm
  have LX:=Lib.hid lx
  have LY:=Lib.hid ly
  clear lx ly
  go_enter Tryz.func121,Tryz.ntmps121
  go_wp2_with fail
  go_loopw [13] (fun p wr=>∃k:Nat,k≤n∧p=.int .i64 (k:Int)∧Hid (x.take k=y.take k)∧Below w.heap.size w wr) (fun p _=>n-(intOf p).toNat)
  case atStart=>exact⟨0,by omega,rfl,Lib.hid (by simp),Below.refl _ _⟩
  case round=>
   obtain⟨k,hk,rfl,Ht,hbr⟩:=hrel
   by_cases hkn:k<n
   ·obtain⟨b1,o1,rfl,hl1,hc1⟩:=hx.some (by have:=hx.le;omega)
    obtain⟨b2,o2,rfl,hl2,hc2⟩:=hy.some (by have:=hy.le;omega)
    obtain⟨u,hu⟩:∃u,x[k]?=some u:=⟨_,List.getElem?_eq_getElem (by rw[LX.out];exact hkn)⟩
    obtain⟨v,hv⟩:∃v,y[k]?=some v:=⟨_,List.getElem?_eq_getElem (by rw[LY.out];exact hkn)⟩
    have c1:=(hbr.cell (p:=⟨b1,o1+k,none⟩) hl1).trans (hc1 k _ (byV_at x k u hu))
    have c2:=(hbr.cell (p:=⟨b2,o2+k,none⟩) hl2).trans (hc2 k _ (byV_at y k v hv))
    have i0:(0:Int)≤(k:Int):=by omega
    have i1:(k:Int)<(n:Int):=by omega
    by_cases huv:u=v
    ·have Hs:=Lib.hid (eq_step x y k u v Ht.out hu hv huv)
     subst huv
     have f1:((u.toNat:Int) != (u.toNat:Int))=false:=by simp
     go_wp2_with fail
     go_quiet (fail)
     go_wp2
     go_roundw
     case rel=>exact⟨k+1,by omega,by go_num,Hs,below_drewN hbr _⟩
     case measure=>simp[intOf];omega
    have Hs:=Lib.hid (eq_no x y k u v hu hv huv)
    have f1:((u.toNat:Int) != (v.toNat:Int))=true:=by simp only[bne_iff_ne,ne_eq];exact fun h=>huv (UInt8.toNat_inj.1 (Int.ofNat.inj h))
    go_wp2_with fail
    go_quiet (fail)
    go_wp2
    go_ret
    exact⟨by rw[Hs.out];rfl,below_drewN hbr _⟩
   have hkn2:k=n:=by omega
   have Hs:Hid (decide (x=y)=true):=Lib.hid (decide_eq_true (by have:=Ht.out;rw[List.take_of_length_le (by rw[LX.out];omega),List.take_of_length_le (by rw[LY.out];omega)] at this;exact this))
   subst hkn2
   go_wp2_with fail
   go_ret
   exact⟨by rw[Hs.out];rfl,hbr⟩
 have f1:((n:Int)==(m:Int))=false:=by simp;omega
 have f2:((n:Int) != (m:Int))=true:=by simp;omega
 have Hs:=Lib.hid (eq_len x y (by omega))
 clear hnm lx ly
 go_enter Tryz.func121,Tryz.ntmps121
 go_wp2_with fail
 go_ret
 exact⟨by rw[Hs.out];rfl,Below.refl _ _⟩
set_option maxRecDepth 100000 in
theorem equal_att (ao bo:Option Addr)(n m cap cbp:Nat)(x y:List (ByteArray×ByteArray))(w:World)(hx:Rd w 2 ao n cap (atV x))(hy:Rd w 2 bo m cbp (atV y))(hn:n≤1000000000) :
  Calls Tryz.prog 119 #[.slice ao n cap,.slice bo m cbp] w (GivesB (decide (x=y)) w):=by
 have lx:x.length=n:=by have:=hx.1;rw[atV_len] at this;omega
 have ly:y.length=m:=by have:=hy.1;rw[atV_len] at this;omega
 by_cases hnm:n=m
 ·subst hnm
  have LX:=Lib.hid lx
  have LY:=Lib.hid ly
  clear lx ly
  go_enter Tryz.func119,Tryz.ntmps119
  go_wp2_with fail
  go_loopw [13] (fun p wr=>∃k:Nat,k≤n∧p=.int .i64 (k:Int)∧Hid (x.take k=y.take k)∧Below w.heap.size w wr) (fun p _=>n-(intOf p).toNat)
  case atStart=>exact⟨0,by omega,rfl,Lib.hid (by simp),Below.refl _ _⟩
  case round=>
   obtain⟨k,hk,rfl,Ht,hbr⟩:=hrel
   by_cases hkn:k<n
   ·obtain⟨b1,o1,rfl,hl1,hc1⟩:=hx.some (by have:=hx.le;omega)
    obtain⟨b2,o2,rfl,hl2,hc2⟩:=hy.some (by have:=hy.le;omega)
    obtain⟨u,hu⟩:∃u,x[k]?=some u:=⟨_,List.getElem?_eq_getElem (by rw[LX.out];exact hkn)⟩
    obtain⟨v,hv⟩:∃v,y[k]?=some v:=⟨_,List.getElem?_eq_getElem (by rw[LY.out];exact hkn)⟩
    obtain⟨v1,v2⟩:=atV_at x k u hu
    obtain⟨v3,v4⟩:=atV_at y k v hv
    have c1:=(hbr.cell (p:=⟨b1,o1+k*2,none⟩) hl1).trans (hc1 (k*2) _ v1)
    have c2:wr.cell? ⟨b1,o1+k*2+1,none⟩=_:=(hbr.cell (p:=⟨b1,o1+(k*2+1),none⟩) hl1).trans (hc1 (k*2+1) _ v2)
    have c3:=(hbr.cell (p:=⟨b2,o2+k*2,none⟩) hl2).trans (hc2 (k*2) _ v3)
    have c4:wr.cell? ⟨b2,o2+k*2+1,none⟩=_:=(hbr.cell (p:=⟨b2,o2+(k*2+1),none⟩) hl2).trans (hc2 (k*2+1) _ v4)
    clear v1 v2 v3 v4
    have i0:(0:Int)≤(k:Int):=by omega
    have i1:(k:Int)<(n:Int):=by omega
    by_cases huv:u=v
    ·have Hs:=Lib.hid (eq_step x y k u v Ht.out hu hv huv)
     subst huv
     have f1:=neq_att u u
     have f2:(!decide (u=u))=false:=by simp
     go_wp2_with fail
     go_quiet (fail)
     go_wp2
     go_roundw
     case rel=>exact⟨k+1,by omega,by go_num,Hs,below_drewN hbr _⟩
     case measure=>simp[intOf];omega
    have Hs:=Lib.hid (eq_no x y k u v hu hv huv)
    have f1:=neq_att u v
    have f2:(!decide (u=v))=true:=by simp[huv]
    go_wp2_with fail
    go_quiet (fail)
    go_wp2
    go_ret
    exact⟨by rw[Hs.out];rfl,below_drewN hbr _⟩
   have hkn2:k=n:=by omega
   have Hs:Hid (decide (x=y)=true):=Lib.hid (decide_eq_true (by have:=Ht.out;rw[List.take_of_length_le (by rw[LX.out];omega),List.take_of_length_le (by rw[LY.out];omega)] at this;exact this))
   subst hkn2
   go_wp2_with fail
   go_ret
   exact⟨by rw[Hs.out];rfl,hbr⟩
 have f1:((n:Int)==(m:Int))=false:=by simp;omega
 have f2:((n:Int) != (m:Int))=true:=by simp;omega
 have Hs:=Lib.hid (eq_len x y (by omega))
 clear hnm lx ly
 go_enter Tryz.func119,Tryz.ntmps119
 go_wp2_with fail
 go_ret
 exact⟨by rw[Hs.out];rfl,Below.refl _ _⟩
end Go.Proofs.YtfmmandlmbcncaaGreatDoor.Msg
