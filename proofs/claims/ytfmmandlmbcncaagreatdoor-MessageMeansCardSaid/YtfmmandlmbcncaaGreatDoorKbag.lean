/-
  A part of the proof.
-/
import Derived.Test.YtfmmandlmbcncaaGreatDoorKbae
import Derived.Test.YtfmmandlmbcncaaGreatDoorKbaa
set_option maxHeartbeats 40000000
namespace Go.Proofs.YtfmmandlmbcncaaGreatDoor.Msg
open Go.RowKit Go.Lib Go.Proofs.YtfmmandlmbcncaaGreatDoor.Mem Go.Proofs.YtfmmandlmbcncaaGreatDoor.Utf
def mayName (x:ByteArray):Bool:=decide (x.size≤1000)&&decide (wh x.data.toList=x.size)
def smallB (n:Int):Bool:=decide (97≤n)&&decide (n≤122)
def typeB (n:Int):Bool:=smallB n||n==45||(decide (48≤n)&&decide (n≤57))
def mayType (x:ByteArray):Bool:=decide (1≤x.size)&&decide (x.size≤32)&&smallB (bt x.data.toList 0)&&x.data.toList.all fun c=>typeB (c.toNat:Int)
def mayAttr (x:ByteArray×ByteArray):Bool:=mayType x.1&&mayName x.2
set_option maxRecDepth 100000 in
theorem mayName_any (x:ByteArray)(w:World):Calls Tryz.prog 74 #[.string x] w (GivesB (mayName x) w):=by
 by_cases h:x.size≤1000
 ·have f1:decide ((x.size:Int)≤1000)=true:=by simp;omega
  have hv:=valid_any x w (by omega)
  go_enter Tryz.func74,Tryz.ntmps74
  go_wp2_with fail
  refine hv.mono ?_
  rintro e w1 ⟨rfl,hb1⟩
  go_wp2_with fail
  go_ret
  exact⟨by simp[mayName,h],hb1⟩
 have f1:decide ((x.size:Int)≤1000)=false:=by simp;omega
 go_enter Tryz.func74,Tryz.ntmps74
 go_wp2_with fail
 go_ret
 exact⟨by simp[mayName,h],Below.refl _ _⟩
set_option maxRecDepth 100000 in
theorem odd_any (x:ByteArray)(w:World):Calls Tryz.prog 73 #[.string x] w (GivesB (!mayName x) w):=by
 go_enter Tryz.func73,Tryz.ntmps73
 go_wp2_with fail
 refine (mayName_any _ _).mono ?_
 rintro e w1 ⟨rfl,hb1⟩
 go_wp2_with fail
 go_ret
 exact⟨rfl,hb1⟩
theorem small_any (n:Int)(w:World):Calls Tryz.prog 152 #[.int .u8 n] w fun e w'=>e=.returned (.bool (smallB n))∧w'=w:=by
 by_cases h:97≤n
 ·have f1:decide (97≤n)=true:=by simp[h]
  have f2:smallB n=decide (n≤122):=by simp[smallB,h]
  rw[f2]
  clear f2 h
  go_enter Tryz.func152,Tryz.ntmps152
  go_wp2_with fail
  go_ret
  exact⟨rfl,rfl⟩
 have f1:decide (97≤n)=false:=by simp;omega
 have f2:smallB n=false:=by simp[smallB,h]
 rw[f2]
 clear f2 h
 go_enter Tryz.func152,Tryz.ntmps152
 go_wp2_with fail
 go_ret
 exact⟨rfl,rfl⟩
def goodT (l:List UInt8)(k:Nat):Bool:=smallB (bt l 0)&&(l.take k).all fun c=>typeB (c.toNat:Int)
theorem goodT_next (l:List UInt8)(k:Nat)(h:k<l.length):goodT l (k+1)=(goodT l k&&typeB (bt l k)):=by
 have e:bt l k=((l[k]).toNat:Int):=by simp[bt,List.getD_eq_getElem?_getD,List.getElem?_eq_getElem h]
 simp only[goodT,List.take_succ_eq_append_getElem h,List.all_append,e,List.all_cons,List.all_nil,Bool.and_true,Bool.and_assoc]
theorem mayType_yes (x:ByteArray)(h1:1≤x.size)(h2:x.size≤32):mayType x=goodT x.data.toList x.size:=by
 have ht:x.data.toList.take x.size=x.data.toList:=List.take_of_length_le (Nat.le_of_eq (len_data x))
 unfold mayType goodT
 rw[ht,decide_eq_true h1,decide_eq_true h2,Bool.true_and,Bool.true_and]
set_option maxRecDepth 100000 in
theorem mayType_any (x:ByteArray)(w:World):Calls Tryz.prog 117 #[.string x] w fun e w'=>e=.returned (.bool (mayType x))∧w'=w:=by
 by_cases h1:1≤x.size
 ·by_cases h2:x.size≤32
  ·have h0:=hid (by_at x 0 (by omega))
   have Hm:=hid (mayType_yes x h1 h2)
   have f1:decide ((1:Int)≤(x.size:Int))=true:=by simp;omega
   have f2:decide ((x.size:Int)≤32)=true:=by simp;omega
   go_enter Tryz.func117,Tryz.ntmps117
   go_wp2_with fail
   rw[h0.out]
   refine (small_any _ _).mono ?_
   rintro e w1 ⟨rfl,rfl⟩
   have Hg:Hid (smallB (bt x.data.toList 0)=goodT x.data.toList 0):=hid (by simp[goodT])
   rw[Hg.out]
   go_wp2_with fail
   go_loopw [4,26] (fun g p wr=>∃k:Nat,k≤x.size∧g=.bool (goodT x.data.toList k)∧p=.int .i64 (k:Int)∧wr=w1) (fun _ p _=>x.size-(intOf p).toNat)
   case atStart=>exact⟨0,Nat.zero_le _,rfl,rfl,rfl⟩
   case round=>
    obtain⟨k,hk,rfl,rfl,rfl⟩:=hrel
    by_cases hkn:k<x.size
    ·have hk0:=hid (by_at x k hkn)
     have Hn:=hid (goodT_next x.data.toList k hkn)
     by_cases hg:goodT x.data.toList k=true
     ·rw[hg]
      go_wp2_with fail
      rw[hk0.out]
      refine (small_any _ _).mono ?_
      rintro e w2 ⟨rfl,rfl⟩
      obtain⟨c,hc⟩:∃c,bt x.data.toList k=c:=⟨_,rfl⟩
      rw[hc]
      have Hn2:Hid (goodT x.data.toList (k+1)=typeB c):=hid (by rw[Hn.out,hg,hc,Bool.true_and])
      clear Hn
      by_cases hs:smallB c=true
      ·have Hs:Hid (goodT x.data.toList (k+1)=true):=hid (by rw[Hn2.out];simp[typeB,hs])
       rw[hs]
       go_wp2_with fail
       go_roundw
       case rel=>exact⟨k+1,by omega,congrArg Value.bool Hs.out.symm,by go_num,trivial⟩
       case measure=>simp[intOf];omega
      have hs2:smallB c=false:=by simpa using hs
      rw[hs2]
      by_cases h45:c=45
      ·have Hs:Hid (goodT x.data.toList (k+1)=true):=hid (by rw[Hn2.out];simp[typeB,h45])
       have f3:(c==45)=true:=by simp[h45]
       clear h45
       go_wp2_with fail
       go_roundw
       case rel=>exact⟨k+1,by omega,congrArg Value.bool Hs.out.symm,by go_num,trivial⟩
       case measure=>simp[intOf];omega
      have f3:(c==45)=false:=by simp[h45]
      by_cases h48:48≤c
      ·have Hs:Hid (goodT x.data.toList (k+1)=decide (c≤57)):=hid (by rw[Hn2.out];simp[typeB,hs2,h45,h48])
       have f4:decide (48≤c)=true:=by simp[h48]
       clear h48 h45
       go_wp2_with fail
       go_roundw
       case rel=>exact⟨k+1,by omega,congrArg Value.bool Hs.out.symm,by go_num,trivial⟩
       case measure=>simp[intOf];omega
      have Hs:Hid (goodT x.data.toList (k+1)=false):=hid (by rw[Hn2.out];simp[typeB,hs2,h45,h48])
      have f4:decide (48≤c)=false:=by simp;omega
      clear h48 h45
      go_wp2_with fail
      go_roundw
      case rel=>exact⟨k+1,by omega,congrArg Value.bool Hs.out.symm,by go_num,trivial⟩
      case measure=>simp[intOf];omega
     have hg2:goodT x.data.toList k=false:=by simpa using hg
     have Hs:Hid (goodT x.data.toList (k+1)=false):=hid (by rw[Hn.out,hg2,Bool.false_and])
     rw[hg2]
     go_wp2_with fail
     go_roundw
     case rel=>exact⟨k+1,by omega,congrArg Value.bool Hs.out.symm,by go_num,trivial⟩
     case measure=>simp[intOf];omega
    have hke:k=x.size:=by omega
    subst hke
    have f5:decide ((0:Int)<(x.size:Int))=true:=by simp;omega
    by_cases hg:goodT x.data.toList x.size=true
    ·rw[hg]
     go_wp2_with fail
     go_ret
     exact⟨by rw[Hm.out,hg];rfl,rfl⟩
    have hg2:goodT x.data.toList x.size=false:=by simpa using hg
    rw[hg2]
    go_wp2_with fail
    go_ret
    exact⟨by rw[Hm.out,hg2];rfl,rfl⟩
  have Hm:Hid (mayType x=false):=hid (by simp[mayType,h2])
  have f1:decide ((1:Int)≤(x.size:Int))=true:=by simp;omega
  have f2:decide ((x.size:Int)≤32)=false:=by simp;omega
  have f3:((x.size:Int)==0)=false:=beq_eq_false_iff_ne.2 (by omega)
  go_enter Tryz.func117,Tryz.ntmps117
  go_wp2_with fail
  go_ret
  exact⟨by rw[Hm.out];rfl,rfl⟩
 have h0:x.size=0:=by omega
 have Hm:Hid (mayType x=false):=hid (by simp[mayType,h1])
 have f1:decide ((1:Int)≤(x.size:Int))=false:=by simp;omega
 have f3:((x.size:Int)==0)=true:=beq_iff_eq.2 (by omega)
 have f4:decide ((0:Int)<(x.size:Int))=false:=decide_eq_false (by omega)
 go_enter Tryz.func117,Tryz.ntmps117
 go_wp2_with fail
 go_loopw [4,26] (fun g p wr=>g=.bool true∧p=.int .i64 0∧wr=w) (fun _ p _=>0)
 case atStart=>exact⟨rfl,rfl,rfl⟩
 case round=>
  obtain⟨rfl,rfl,rfl⟩:=hrel
  go_wp2_with fail
  go_ret
  exact⟨by rw[Hm.out];rfl,rfl⟩
set_option maxRecDepth 100000 in
theorem mayAttr_any (x:ByteArray×ByteArray)(w:World):Calls Tryz.prog 72 #[.agg #[.string x.1,.string x.2]] w (GivesB (mayAttr x) w):=by
 have hb0:Below w.heap.size w (w.alloc (.cells #[.string x.1,.string x.2] 106)):=(Below.refl _ _).alloc (Nat.le_refl _) _
 go_enter Tryz.func72,Tryz.ntmps72
 go_wp2_with fail
 refine (mayType_any _ _).mono ?_
 rintro e w1 ⟨rfl,rfl⟩
 by_cases h:mayType x.1=true
 ·rw[h]
  go_wp2_with fail
  refine (mayName_any _ _).mono ?_
  rintro e w1 ⟨rfl,hb1⟩
  have Hs:Hid (mayAttr x=mayName x.2):=hid (by simp[mayAttr,h])
  go_wp2_with fail
  go_ret
  exact⟨by rw[Hs.out];rfl,hb0.trans (hb1.mono hb0.size)⟩
 have h2:mayType x.1=false:=by simpa using h
 rw[h2]
 have Hs:Hid (mayAttr x=false):=hid (by simp[mayAttr,h2])
 go_wp2_with fail
 go_ret
 exact⟨by rw[Hs.out];rfl,hb0⟩
set_option maxRecDepth 100000 in
theorem bad_any (x:ByteArray×ByteArray)(w:World):Calls Tryz.prog 71 #[.agg #[.string x.1,.string x.2]] w (GivesB (!mayAttr x) w):=by
 have hb0:Below w.heap.size w (w.alloc (.cells #[.string x.1,.string x.2] 106)):=(Below.refl _ _).alloc (Nat.le_refl _) _
 go_enter Tryz.func71,Tryz.ntmps71
 go_wp2_with fail
 refine (mayAttr_any _ _).mono ?_
 rintro e w1 ⟨rfl,hb1⟩
 go_wp2_with fail
 go_ret
 exact⟨rfl,hb0.trans (hb1.mono hb0.size)⟩
theorem any_next {α:Type}(p:α→Bool)(x:List α)(k:Nat)(u:α)(h:x[k]?=some u)(h1:(x.take k).any p=false)(h2:p u=false):(x.take (k+1)).any p=false:=by
 obtain⟨hl,e⟩:=List.getElem?_eq_some_iff.1 h
 rw[List.take_succ_eq_append_getElem hl,List.any_append,h1,e]
 simp[h2]
theorem any_here {α:Type}(p:α→Bool)(x:List α)(k:Nat)(u:α)(h:x[k]?=some u)(h2:p u=true):x.any p=true:=List.any_eq_true.2 ⟨u,List.mem_of_getElem? h,h2⟩
def GivesI (b:Bool)(w:World)(e:Ending)(w':World):Prop:=∃r:Int,e=.returned (.int .i64 r)∧decide (0≤r)=b∧Below w.heap.size w w'
set_option maxRecDepth 100000 in
theorem index_txt (ao:Option Addr)(n cap:Nat)(x:List ByteArray)(w:World)(hx:Rd w 1 ao n cap (txV x)) :
  Calls Tryz.prog 124 #[.slice ao n cap,.func (.func 73) #[] #[]] w (GivesI (x.any fun u=>!mayName u) w):=by
 have lx:x.length=n:=by have:=hx.1;rw[txV_len] at this;omega
 have LX:=hid lx
 have hcap:n≤9223372036854775807:=by have:=hx.2.1;have:=hx.2.2.1;unfold maxLen at this;omega
 clear lx
 go_enter Tryz.func124,Tryz.ntmps124
 go_wp2_with fail
 go_loopw [8] (fun p wr=>∃k:Nat,k≤n∧p=.int .i64 (k:Int)∧Hid ((x.take k).any (fun u=>!mayName u)=false)∧Below w.heap.size w wr) (fun p _=>n-(intOf p).toNat)
 case atStart=>exact⟨0,Nat.zero_le _,rfl,hid rfl,Below.refl _ _⟩
 case round=>
  obtain⟨k,hk,rfl,Ht,hbr⟩:=hrel
  by_cases hkn:k<n
  ·obtain⟨b1,o1,rfl,hl1,hc1⟩:=hx.some (by have:=hx.le;omega)
   obtain⟨u,hu⟩:∃u,x[k]?=some u:=⟨_,List.getElem?_eq_getElem (by rw[LX.out];exact hkn)⟩
   have c1:=(hbr.cell (p:=⟨b1,o1+k,none⟩) hl1).trans (hc1 k _ (txV_at x k u hu))
   have i0:(0:Int)≤(k:Int):=by omega
   have i1:(k:Int)<(n:Int):=by omega
   go_wp2_with fail
   refine (odd_any _ _).mono ?_
   rintro e w1 ⟨rfl,hb1⟩
   have hb2:=hbr.trans (hb1.mono hbr.size)
   by_cases hm:(!mayName u)=true
   ·have Hs:=hid (any_here (fun u=>!mayName u) x k u hu hm)
    rw[hm]
    go_wp2_with fail
    go_ret
    exact⟨k,rfl,by rw[Hs.out];simp,hb2⟩
   have hm2:(!mayName u)=false:=by simpa using hm
   have Hs:=hid (any_next (fun u=>!mayName u) x k u hu Ht.out hm2)
   rw[hm2]
   go_wp2_with fail
   go_roundw
   case rel=>exact⟨k+1,by omega,by go_num,Hs,hb2⟩
   case measure=>simp[intOf];omega
  have Hs:Hid (x.any (fun u=>!mayName u)=false):=hid (by have:=Ht.out;rw[List.take_of_length_le (by rw[LX.out];omega)] at this;exact this)
  have hkn2:k=n:=by omega
  subst hkn2
  go_wp2_with fail
  go_ret
  exact⟨-1,rfl,by rw[Hs.out];rfl,hbr⟩
theorem contains_txt (ao:Option Addr)(n cap:Nat)(x:List ByteArray)(w:World)(hx:Rd w 1 ao n cap (txV x)) :
  Calls Tryz.prog 80 #[.slice ao n cap,.func (.func 73) #[] #[]] w (GivesB (x.any fun u=>!mayName u) w):=by
 go_enter Tryz.func80,Tryz.ntmps80
 go_wp2_with fail
 refine (index_txt _ _ _ x _ hx).mono ?_
 rintro e w1 ⟨r,rfl,hr,hb1⟩
 have Hr:=hid hr
 clear hr
 go_wp2_with fail
 go_ret
 exact⟨by rw[←Hr.out];rfl,hb1⟩
set_option maxRecDepth 100000 in
theorem index_att (ao:Option Addr)(n cap:Nat)(x:List (ByteArray×ByteArray))(w:World)(hx:Rd w 2 ao n cap (atV x)) :
  Calls Tryz.prog 122 #[.slice ao n cap,.func (.func 71) #[] #[]] w (GivesI (x.any fun u=>!mayAttr u) w):=by
 have lx:x.length=n:=by have:=hx.1;rw[atV_len] at this;omega
 have LX:=hid lx
 have hcap:n≤9223372036854775807:=by have:=hx.2.1;have:=hx.2.2.1;unfold maxLen at this;omega
 clear lx
 go_enter Tryz.func122,Tryz.ntmps122
 go_wp2_with fail
 go_loopw [8] (fun p wr=>∃k:Nat,k≤n∧p=.int .i64 (k:Int)∧Hid ((x.take k).any (fun u=>!mayAttr u)=false)∧Below w.heap.size w wr) (fun p _=>n-(intOf p).toNat)
 case atStart=>exact⟨0,Nat.zero_le _,rfl,hid rfl,Below.refl _ _⟩
 case round=>
  obtain⟨k,hk,rfl,Ht,hbr⟩:=hrel
  by_cases hkn:k<n
  ·obtain⟨b1,o1,rfl,hl1,hc1⟩:=hx.some (by have:=hx.le;omega)
   obtain⟨u,hu⟩:∃u,x[k]?=some u:=⟨_,List.getElem?_eq_getElem (by rw[LX.out];exact hkn)⟩
   obtain⟨v1,v2⟩:=atV_at x k u hu
   have c1:=(hbr.cell (p:=⟨b1,o1+k*2,none⟩) hl1).trans (hc1 (k*2) _ v1)
   have c2:wr.cell? ⟨b1,o1+k*2+1,none⟩=_:=(hbr.cell (p:=⟨b1,o1+(k*2+1),none⟩) hl1).trans (hc1 (k*2+1) _ v2)
   clear v1 v2
   have i0:(0:Int)≤(k:Int):=by omega
   have i1:(k:Int)<(n:Int):=by omega
   go_wp2_with fail
   refine (bad_any _ _).mono ?_
   rintro e w1 ⟨rfl,hb1⟩
   have hb2:=hbr.trans (hb1.mono hbr.size)
   by_cases hm:(!mayAttr u)=true
   ·have Hs:=hid (any_here (fun u=>!mayAttr u) x k u hu hm)
    rw[hm]
    go_wp2_with fail
    go_ret
    exact⟨k,rfl,by rw[Hs.out];simp,hb2⟩
   have hm2:(!mayAttr u)=false:=by simpa using hm
   have Hs:=hid (any_next (fun u=>!mayAttr u) x k u hu Ht.out hm2)
   rw[hm2]
   go_wp2_with fail
   go_roundw
   case rel=>exact⟨k+1,by omega,by go_num,Hs,hb2⟩
   case measure=>simp[intOf];omega
  have Hs:Hid (x.any (fun u=>!mayAttr u)=false):=hid (by have:=Ht.out;rw[List.take_of_length_le (by rw[LX.out];omega)] at this;exact this)
  have hkn2:k=n:=by omega
  subst hkn2
  go_wp2_with fail
  go_ret
  exact⟨-1,rfl,by rw[Hs.out];rfl,hbr⟩
theorem contains_att (ao:Option Addr)(n cap:Nat)(x:List (ByteArray×ByteArray))(w:World)(hx:Rd w 2 ao n cap (atV x)) :
  Calls Tryz.prog 78 #[.slice ao n cap,.func (.func 71) #[] #[]] w (GivesB (x.any fun u=>!mayAttr u) w):=by
 go_enter Tryz.func78,Tryz.ntmps78
 go_wp2_with fail
 refine (index_att _ _ _ x _ hx).mono ?_
 rintro e w1 ⟨r,rfl,hr,hb1⟩
 have Hr:=hid hr
 clear hr
 go_wp2_with fail
 go_ret
 exact⟨by rw[←Hr.out];rfl,hb1⟩
end Go.Proofs.YtfmmandlmbcncaaGreatDoor.Msg
