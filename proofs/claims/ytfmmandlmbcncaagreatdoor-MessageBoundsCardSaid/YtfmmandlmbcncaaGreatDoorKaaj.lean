/-
  A part of the proof.
-/
import Derived.Test.YtfmmandlmbcncaaGreatDoorKaai
set_option maxHeartbeats 40000000
namespace Go.Proofs.YtfmmandlmbcncaaGreatDoor.Msg
open Go.RowKit Go.Lib Go.Proofs.YtfmmandlmbcncaaGreatDoor.Mem Go.Proofs.YtfmmandlmbcncaaGreatDoor.Utf
theorem any_next {α:Type}(p:α→Bool)(x:List α)(k:Nat)(u:α)(h:x[k]?=some u)(h1:(x.take k).any p=false)(h2:p u=false):(x.take (k+1)).any p=false:=by
 obtain⟨hl,e⟩:=List.getElem?_eq_some_iff.1 h
 rw[List.take_succ_eq_append_getElem hl,List.any_append,h1,e]
 simp[h2]
theorem any_here {α:Type}(p:α→Bool)(x:List α)(k:Nat)(u:α)(h:x[k]?=some u)(h2:p u=true):x.any p=true:=List.any_eq_true.2 ⟨u,List.mem_of_getElem? h,h2⟩
def GivesI (b:Bool)(w:World)(e:Ending)(w':World):Prop:=∃r:Int,e=.returned (.int .i64 r)∧decide (0≤r)=b∧Below w.heap.size w w'
set_option maxRecDepth 100000 in
theorem index_txt (ao:Option Addr)(n cap:Nat)(x:List ByteArray)(w:World)(hx:Rd w 1 ao n cap (txV x)) :
  Calls Tryz.prog 124 #[.slice ao n cap,.func (.func 73) #[] #[]] w (GivesI (x.any fun u=>!mayName u) w):=by
 have lx:x.length=n:=by have:=hx.1;rw[txV_len] at this;omega
 have LX:=hid lx
 have hcap:n≤9223372036854775807:=by have:=hx.2.1;have:=hx.2.2.1;unfold maxLen at this;omega
 clear lx
 go_enter Tryz.func124,Tryz.ntmps124
 go_wp2_with fail
 go_loopw [8] (fun p wr=>∃k:Nat,k≤n∧p=.int .i64 (k:Int)∧Hid ((x.take k).any (fun u=>!mayName u)=false)∧Below w.heap.size w wr) (fun p _=>n-(intOf p).toNat)
 case atStart=>exact⟨0,Nat.zero_le _,rfl,hid rfl,Below.refl _ _⟩
 case round=>
  obtain⟨k,hk,rfl,Ht,hbr⟩:=hrel
  by_cases hkn:k<n
  ·obtain⟨b1,o1,rfl,hl1,hc1⟩:=hx.some (by have:=hx.le;omega)
   obtain⟨u,hu⟩:∃u,x[k]?=some u:=⟨_,List.getElem?_eq_getElem (by rw[LX.out];exact hkn)⟩
   have c1:=(hbr.cell (p:=⟨b1,o1+k,none⟩) hl1).trans (hc1 k _ (txV_at x k u hu))
   have i0:(0:Int)≤(k:Int):=by omega
   have i1:(k:Int)<(n:Int):=by omega
   go_wp2_with fail
   refine (odd_any _ _).mono ?_
   rintro e w1 ⟨rfl,hb1⟩
   have hb2:=hbr.trans (hb1.mono hbr.size)
   by_cases hm:(!mayName u)=true
   ·have Hs:=hid (any_here (fun u=>!mayName u) x k u hu hm)
    rw[hm]
    go_wp2_with fail
    go_ret
    exact⟨k,rfl,by rw[Hs.out];simp,hb2⟩
   have hm2:(!mayName u)=false:=by simpa using hm
   have Hs:=hid (any_next (fun u=>!mayName u) x k u hu Ht.out hm2)
   rw[hm2]
   go_wp2_with fail
   go_roundw
   case rel=>exact⟨k+1,by omega,by go_num,Hs,hb2⟩
   case measure=>simp[intOf];omega
  have Hs:Hid (x.any (fun u=>!mayName u)=false):=hid (by have:=Ht.out;rw[List.take_of_length_le (by rw[LX.out];omega)] at this;exact this)
  have hkn2:k=n:=by omega
  subst hkn2
  go_wp2_with fail
  go_ret
  exact⟨-1,rfl,by rw[Hs.out];rfl,hbr⟩
theorem contains_txt (ao:Option Addr)(n cap:Nat)(x:List ByteArray)(w:World)(hx:Rd w 1 ao n cap (txV x)) :
  Calls Tryz.prog 80 #[.slice ao n cap,.func (.func 73) #[] #[]] w (GivesB (x.any fun u=>!mayName u) w):=by
 go_enter Tryz.func80,Tryz.ntmps80
 go_wp2_with fail
 refine (index_txt _ _ _ x _ hx).mono ?_
 rintro e w1 ⟨r,rfl,hr,hb1⟩
 have Hr:=hid hr
 clear hr
 go_wp2_with fail
 go_ret
 exact⟨by rw[←Hr.out];rfl,hb1⟩
set_option maxRecDepth 100000 in
theorem index_att (ao:Option Addr)(n cap:Nat)(x:List (ByteArray×ByteArray))(w:World)(hx:Rd w 2 ao n cap (atV x)) :
  Calls Tryz.prog 122 #[.slice ao n cap,.func (.func 71) #[] #[]] w (GivesI (x.any fun u=>!mayAttr u) w):=by
 have lx:x.length=n:=by have:=hx.1;rw[atV_len] at this;omega
 have LX:=hid lx
 have hcap:n≤9223372036854775807:=by have:=hx.2.1;have:=hx.2.2.1;unfold maxLen at this;omega
 clear lx
 go_enter Tryz.func122,Tryz.ntmps122
 go_wp2_with fail
 go_loopw [8] (fun p wr=>∃k:Nat,k≤n∧p=.int .i64 (k:Int)∧Hid ((x.take k).any (fun u=>!mayAttr u)=false)∧Below w.heap.size w wr) (fun p _=>n-(intOf p).toNat)
 case atStart=>exact⟨0,Nat.zero_le _,rfl,hid rfl,Below.refl _ _⟩
 case round=>
  obtain⟨k,hk,rfl,Ht,hbr⟩:=hrel
  by_cases hkn:k<n
  ·obtain⟨b1,o1,rfl,hl1,hc1⟩:=hx.some (by have:=hx.le;omega)
   obtain⟨u,hu⟩:∃u,x[k]?=some u:=⟨_,List.getElem?_eq_getElem (by rw[LX.out];exact hkn)⟩
   obtain⟨v1,v2⟩:=atV_at x k u hu
   have c1:=(hbr.cell (p:=⟨b1,o1+k*2,none⟩) hl1).trans (hc1 (k*2) _ v1)
   have c2:wr.cell? ⟨b1,o1+k*2+1,none⟩=_:=(hbr.cell (p:=⟨b1,o1+(k*2+1),none⟩) hl1).trans (hc1 (k*2+1) _ v2)
   clear v1 v2
   have i0:(0:Int)≤(k:Int):=by omega
   have i1:(k:Int)<(n:Int):=by omega
   go_wp2_with fail
   refine (bad_any _ _).mono ?_
   rintro e w1 ⟨rfl,hb1⟩
   have hb2:=hbr.trans (hb1.mono hbr.size)
   by_cases hm:(!mayAttr u)=true
   ·have Hs:=hid (any_here (fun u=>!mayAttr u) x k u hu hm)
    rw[hm]
    go_wp2_with fail
    go_ret
    exact⟨k,rfl,by rw[Hs.out];simp,hb2⟩
   have hm2:(!mayAttr u)=false:=by simpa using hm
   have Hs:=hid (any_next (fun u=>!mayAttr u) x k u hu Ht.out hm2)
   rw[hm2]
   go_wp2_with fail
   go_roundw
   case rel=>exact⟨k+1,by omega,by go_num,Hs,hb2⟩
   case measure=>simp[intOf];omega
  have Hs:Hid (x.any (fun u=>!mayAttr u)=false):=hid (by have:=Ht.out;rw[List.take_of_length_le (by rw[LX.out];omega)] at this;exact this)
  have hkn2:k=n:=by omega
  subst hkn2
  go_wp2_with fail
  go_ret
  exact⟨-1,rfl,by rw[Hs.out];rfl,hbr⟩
theorem contains_att (ao:Option Addr)(n cap:Nat)(x:List (ByteArray×ByteArray))(w:World)(hx:Rd w 2 ao n cap (atV x)) :
  Calls Tryz.prog 78 #[.slice ao n cap,.func (.func 71) #[] #[]] w (GivesB (x.any fun u=>!mayAttr u) w):=by
 go_enter Tryz.func78,Tryz.ntmps78
 go_wp2_with fail
 refine (index_att _ _ _ x _ hx).mono ?_
 rintro e w1 ⟨r,rfl,hr,hb1⟩
 have Hr:=hid hr
 clear hr
 go_wp2_with fail
 go_ret
 exact⟨by rw[←Hr.out];rfl,hb1⟩
end Go.Proofs.YtfmmandlmbcncaaGreatDoor.Msg
