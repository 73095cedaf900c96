/-
  A part of the proof.
-/
import Derived.Test.YtfmmandlmbcncaaGreatDoorKdaf
import Derived.Test.YtfmmandlmbcncaaGreatDoorKdac
set_option maxHeartbeats 40000000
set_option maxRecDepth 100000
namespace Go.Proofs.YtfmmandlmbcncaaGreatDoor.Msg
open Go.RowKit Mem
def vz (w:World)(size:Nat)(xs:List Value)(n:Nat)(ao0:Option Addr)(e:Ending)(w':World):Prop:=
 ∃ao cap,e=.returned (.slice ao n cap)/\Rd w' size ao n cap xs/\Below w.heap.size w w'/\(∀a,ao=some a->w.heap.size<=a.block)/\(ao0=none->ao=none/\cap=0)
theorem MR (l:List ByteArray):∀u∈txV l,u.oneCell'=true:=by
 intro u hu;simp only[txV,List.mem_map] at hu;obtain⟨c,_,rfl⟩:=hu;rfl
theorem Nb (l:List (ByteArray×ByteArray)):∀u∈atV l,u.oneCell'=true:=by
 intro u hu;simp only[atV,List.mem_flatMap,List.mem_cons,List.not_mem_nil,or_false] at hu;obtain⟨c,_,rfl|rfl⟩:=hu<;>rfl
theorem wF {w w1:World}{t:TypeId}{size:Nat}{xs:List Value}{n:Nat}{a0:Addr}{ao:Option Addr}{cap:Nat}(ho:w1.ownsRow w.heap.size t size (.slice ao (0+n) cap) (0+n) ([]++xs))(hb:Below w.heap.size w w1):vz w size xs n (some a0) (.returned (.slice ao n cap)) w1:=by
 rw[Nat.zero_add,List.nil_append] at ho;refine⟨ao,cap,rfl,Rd.of_own_slice ho,hb,fun a ha=>?_,fun h=>by cases h⟩;rcases ho.2 with ⟨h,_⟩ | ⟨g,c,cur,h,hg,_⟩
 ·have:=(Value.slice.inj h).1;rw[ha] at this;cases this
 have:=(Value.slice.inj h).1;rw[ha] at this;cases this;exact hg
theorem xE:SliceT Tryz.prog 33 9 (.string ⟨#[]⟩) 1 16:=⟨Tryz.underlying33,by kernel_rfl,rfl,by decide⟩
theorem He (ao:Option Addr)(n cap:Nat)(l:List ByteArray)(w:World)(hr:Rd w 1 ao n cap (txV l))(hn:n<=1000000000) :
  Calls Tryz.prog 126 #[.slice ao n cap] w (vz w 1 (txV l) n ao):=by
 cases ao with
 | none=>
  have hc:=hr.2.2.2.1 rfl;obtain⟨h0,hx⟩:=hr.empty hc;subst hc;subst h0;have hn0:Sem.run Tryz.prog (binOp BinOp.eql 33 (.slice none 0 0) (.slice none 0 0)) w=.ok (.bool true) w:=by kernel_rfl
  go_in;go_wp2;go_ret;exact⟨none,0,rfl,hr,Below.refl _ _,(fun a ha=>by cases ha),fun _=>⟨rfl,rfl⟩⟩
 | some a=>
  have hn0:Sem.run Tryz.prog (binOp BinOp.eql 33 (.slice (some a) n cap) (.slice none 0 0)) w=.ok (.bool false) w:=by kernel_rfl
  go_in;have ho0:(w.alloc (.cells #[] 9)).ownsRow w.heap.size 9 1 (.slice (some ⟨w.heap.size,0,none⟩) 0 0) 0 []:=by
   refine⟨rfl,.inr ⟨w.heap.size,0,#[],rfl,?_⟩⟩;exact⟨Nat.le_refl _,(by show (w.heap.push _)[w.heap.size]?=some _;simp),Nat.le_refl _,Nat.zero_le _,rfl,rfl⟩
  go_wp2_with (at_builtin;refine gz _ rfl (.tmp 5) (.tmp 6) 33 rfl w.heap.size 9 (.string ⟨#[]⟩) 1 16 xE _ 0 [] rfl ho0 (some a) n cap (txV l) rfl (hr.later ((Below.refl _ w).alloc (Nat.le_refl _) _)) (MR _) (by unfold maxLen;omega) (by omega) (by simp) ?_;intro ao' cap' w1 ho1 _ hb1 _);go_ret;exact wF ho1 (((Below.refl _ w).alloc (Nat.le_refl _) _).trans hb1)
theorem ED:SliceT Tryz.prog 34 5 (.int .u8 0) 1 1:=⟨Tryz.underlying34,by kernel_rfl,rfl,by decide⟩
theorem zJ (ao:Option Addr)(n cap:Nat)(l:List UInt8)(w:World)(hr:Rd w 1 ao n cap (byV l))(hn:n<=1000000000) :
  Calls Tryz.prog 98 #[.slice ao n cap] w (vz w 1 (byV l) n ao):=by
 cases ao with
 | none=>
  have hc:=hr.2.2.2.1 rfl;obtain⟨h0,hx⟩:=hr.empty hc;subst hc;subst h0;have hn0:Sem.run Tryz.prog (binOp BinOp.eql 34 (.slice none 0 0) (.slice none 0 0)) w=.ok (.bool true) w:=by kernel_rfl
  go_in;go_wp2;go_ret;exact⟨none,0,rfl,hr,Below.refl _ _,(fun a ha=>by cases ha),fun _=>⟨rfl,rfl⟩⟩
 | some a=>
  have hn0:Sem.run Tryz.prog (binOp BinOp.eql 34 (.slice (some a) n cap) (.slice none 0 0)) w=.ok (.bool false) w:=by kernel_rfl
  go_in;have ho0:(w.alloc (.cells #[] 5)).ownsRow w.heap.size 5 1 (.slice (some ⟨w.heap.size,0,none⟩) 0 0) 0 []:=by
   refine⟨rfl,.inr ⟨w.heap.size,0,#[],rfl,?_⟩⟩;exact⟨Nat.le_refl _,(by show (w.heap.push _)[w.heap.size]?=some _;simp),Nat.le_refl _,Nat.zero_le _,rfl,rfl⟩
  go_wp2_with (at_builtin;refine gz _ rfl (.tmp 5) (.tmp 6) 34 rfl w.heap.size 5 (.int .u8 0) 1 1 ED _ 0 [] rfl ho0 (some a) n cap (byV l) rfl (hr.later ((Below.refl _ w).alloc (Nat.le_refl _) _)) (eP _) (by unfold maxLen;omega) (by omega) (by simp) ?_;intro ao' cap' w1 ho1 _ hb1 _);go_ret;exact wF ho1 (((Below.refl _ w).alloc (Nat.le_refl _) _).trans hb1)
theorem mW:SliceT Tryz.prog 32 106 (.agg #[.string ⟨#[]⟩,.string ⟨#[]⟩]) 2 32:=⟨Tryz.underlying32,by kernel_rfl,rfl,by decide⟩
theorem zl (ao:Option Addr)(n cap:Nat)(l:List (ByteArray×ByteArray))(w:World)(hr:Rd w 2 ao n cap (atV l))(hn:n<=1000000000) :
  Calls Tryz.prog 125 #[.slice ao n cap] w (vz w 2 (atV l) n ao):=by
 cases ao with
 | none=>
  have hc:=hr.2.2.2.1 rfl;obtain⟨h0,hx⟩:=hr.empty hc;subst hc;subst h0;have hn0:Sem.run Tryz.prog (binOp BinOp.eql 32 (.slice none 0 0) (.slice none 0 0)) w=.ok (.bool true) w:=by kernel_rfl
  go_in;go_wp2;go_ret;exact⟨none,0,rfl,hr,Below.refl _ _,(fun a ha=>by cases ha),fun _=>⟨rfl,rfl⟩⟩
 | some a=>
  have hn0:Sem.run Tryz.prog (binOp BinOp.eql 32 (.slice (some a) n cap) (.slice none 0 0)) w=.ok (.bool false) w:=by kernel_rfl
  go_in;have ho0:(w.alloc (.cells #[] 106)).ownsRow w.heap.size 106 2 (.slice (some ⟨w.heap.size,0,none⟩) 0 0) 0 []:=by
   refine⟨rfl,.inr ⟨w.heap.size,0,#[],rfl,?_⟩⟩;exact⟨Nat.le_refl _,(by show (w.heap.push _)[w.heap.size]?=some _;simp),Nat.le_refl _,Nat.zero_le _,rfl,rfl⟩
  go_wp2_with (at_builtin;refine gz _ rfl (.tmp 5) (.tmp 6) 32 rfl w.heap.size 106 (.agg #[.string ⟨#[]⟩,.string ⟨#[]⟩]) 2 32 mW _ 0 [] rfl ho0 (some a) n cap (atV l) rfl (hr.later ((Below.refl _ w).alloc (Nat.le_refl _) _)) (Nb _) (by unfold maxLen;omega) (by omega) (by simp) ?_;intro ao' cap' w1 ho1 _ hb1 _);go_ret;exact wF ho1 (((Below.refl _ w).alloc (Nat.le_refl _) _).trans hb1)
end Go.Proofs.YtfmmandlmbcncaaGreatDoor.Msg
namespace Go.Proofs.YtfmmandlmbcncaaGreatDoor.Msg
open Go.RowKit Go.Lib Mem Utf
def bg (x:ByteArray):Bool:=decide (x.size<=1000)&&decide (wh x.data.toList=x.size)
def eX (n:Int):Bool:=decide (97<=n)&&decide (n<=122)
def fO (n:Int):Bool:=eX n||n==45||(decide (48<=n)&&decide (n<=57))
def dX (x:ByteArray):Bool:=decide (1<=x.size)&&decide (x.size<=32)&&eX (bt x.data.toList 0)&&x.data.toList.all fun c=>fO (c.toNat:Int)
def aW (x:ByteArray×ByteArray):Bool:=dX x.1&&bg x.2
theorem pI (x:ByteArray)(w:World):Calls Tryz.prog 74 #[.string x] w (aY (bg x) w):=by
 by_cases h:x.size<=1000
 ·have f1:decide ((x.size:Int)<=1000)=true:=by simp;omega
  have hv:=Jc x w (by omega);go_in;go_wp2_with fail;refine hv.mono ?_;rintro e w1 ⟨rfl,hb1⟩;go_wp2_with fail;go_ret;exact⟨by simp[bg,h],hb1⟩
 have f1:decide ((x.size:Int)<=1000)=false:=by simp;omega
 go_in;go_wp2_with fail;go_ret;exact⟨by simp[bg,h],Below.refl _ _⟩
theorem yG (x:ByteArray)(w:World):Calls Tryz.prog 73 #[.string x] w (aY (!bg x) w):=by
 go_in;go_wp2_with fail;refine (pI _ _).mono ?_;rintro e w1 ⟨rfl,hb1⟩;go_wp2_with fail;go_ret;exact⟨rfl,hb1⟩
theorem zi (n:Int)(w:World):Calls Tryz.prog 152 #[.int .u8 n] w fun e w'=>e=.returned (.bool (eX n))/\w'=w:=by
 by_cases h:97<=n
 ·have f1:decide (97<=n)=true:=by simp[h]
  have f2:eX n=decide (n<=122):=by simp[eX,h]
  rw[f2];clear f2 h;go_in;go_wp2_with fail;go_ret;exact⟨rfl,rfl⟩
 have f1:decide (97<=n)=false:=by simp;omega
 have f2:eX n=false:=by simp[eX,h]
 rw[f2];clear f2 h;go_in;go_wp2_with fail;go_ret;exact⟨rfl,rfl⟩
def gY (l:List UInt8)(k:Nat):Bool:=eX (bt l 0)&&(l.take k).all fun c=>fO (c.toNat:Int)
theorem Em (l:List UInt8)(k:Nat)(h:k<l.length):gY l (k+1)=(gY l k&&fO (bt l k)):=by
 have e:bt l k=((l[k]).toNat:Int):=by simp[bt,List.getD_eq_getElem?_getD,List.getElem?_eq_getElem h]
 simp only[gY,List.take_succ_eq_append_getElem h,List.all_append,e,List.all_cons,List.all_nil,Bool.and_true,Bool.and_assoc]
theorem CO (x:ByteArray)(h1:1<=x.size)(h2:x.size<=32):dX x=gY x.data.toList x.size:=by
 have ht:x.data.toList.take x.size=x.data.toList:=List.take_of_length_le (Nat.le_of_eq (dC x));unfold dX gY;rw[ht,decide_eq_true h1,decide_eq_true h2,Bool.true_and,Bool.true_and]
theorem CY (x:ByteArray)(w:World):Calls Tryz.prog 117 #[.string x] w fun e w'=>e=.returned (.bool (dX x))/\w'=w:=by
 by_cases h1:1<=x.size
 ·by_cases h2:x.size<=32
  ·have h0:=hid (rO x 0 (by omega));have Hm:=hid (CO x h1 h2);have f1:decide ((1:Int)<=(x.size:Int))=true:=by simp;omega
   have f2:decide ((x.size:Int)<=32)=true:=by simp;omega
   go_in;go_wp2_with fail;rw[h0.out];refine (zi _ _).mono ?_;rintro e w1 ⟨rfl,rfl⟩;have Hg:Hid (eX (bt x.data.toList 0)=gY x.data.toList 0):=hid (by simp[gY]);rw[Hg.out];go_wp2_with fail;go_loopw [4,26] (fun g p wr=>∃k:Nat,k<=x.size/\g=.bool (gY x.data.toList k)/\p=.int .i64 (k:Int)/\wr=w1) (fun _ p _=>x.size-(intOf p).toNat)
   case atStart=>exact⟨0,Nat.zero_le _,rfl,rfl,rfl⟩
   case round=>
    obtain⟨k,hk,rfl,rfl,rfl⟩:=hrel;by_cases hkn:k<x.size
    ·have hk0:=hid (rO x k hkn);have Hn:=hid (Em x.data.toList k hkn);by_cases hg:gY x.data.toList k=true
     ·rw[hg];go_wp2_with fail;rw[hk0.out];refine (zi _ _).mono ?_;rintro e w2 ⟨rfl,rfl⟩;obtain⟨c,hc⟩:∃c,bt x.data.toList k=c:=⟨_,rfl⟩
      rw[hc];have Hn2:Hid (gY x.data.toList (k+1)=fO c):=hid (by rw[Hn.out,hg,hc,Bool.true_and]);clear Hn;by_cases hs:eX c=true
      ·have Hs:Hid (gY x.data.toList (k+1)=true):=hid (by rw[Hn2.out];simp[fO,hs]);rw[hs];go_wp2_with fail;go_roundw
       case rel=>exact⟨k+1,by omega,congrArg Value.bool Hs.out.symm,by go_num,trivial⟩
       case measure=>simp[intOf];omega
      have hs2:eX c=false:=by simpa using hs
      rw[hs2];by_cases h45:c=45
      ·have Hs:Hid (gY x.data.toList (k+1)=true):=hid (by rw[Hn2.out];simp[fO,h45]);have f3:(c==45)=true:=by simp[h45]
       clear h45;go_wp2_with fail;go_roundw
       case rel=>exact⟨k+1,by omega,congrArg Value.bool Hs.out.symm,by go_num,trivial⟩
       case measure=>simp[intOf];omega
      have f3:(c==45)=false:=by simp[h45]
      by_cases h48:48<=c
      ·have Hs:Hid (gY x.data.toList (k+1)=decide (c<=57)):=hid (by rw[Hn2.out];simp[fO,hs2,h45,h48]);have f4:decide (48<=c)=true:=by simp[h48]
       clear h48 h45;go_wp2_with fail;go_roundw
       case rel=>exact⟨k+1,by omega,congrArg Value.bool Hs.out.symm,by go_num,trivial⟩
       case measure=>simp[intOf];omega
      have Hs:Hid (gY x.data.toList (k+1)=false):=hid (by rw[Hn2.out];simp[fO,hs2,h45,h48]);have f4:decide (48<=c)=false:=by simp;omega
      clear h48 h45;go_wp2_with fail;go_roundw
      case rel=>exact⟨k+1,by omega,congrArg Value.bool Hs.out.symm,by go_num,trivial⟩
      case measure=>simp[intOf];omega
     have hg2:gY x.data.toList k=false:=by simpa using hg
     have Hs:Hid (gY x.data.toList (k+1)=false):=hid (by rw[Hn.out,hg2,Bool.false_and]);rw[hg2];go_wp2_with fail;go_roundw
     case rel=>exact⟨k+1,by omega,congrArg Value.bool Hs.out.symm,by go_num,trivial⟩
     case measure=>simp[intOf];omega
    have hke:k=x.size:=by omega
    subst hke;have f5:decide ((0:Int)<(x.size:Int))=true:=by simp;omega
    by_cases hg:gY x.data.toList x.size=true
    ·rw[hg];go_wp2_with fail;go_ret;exact⟨by rw[Hm.out,hg];rfl,rfl⟩
    have hg2:gY x.data.toList x.size=false:=by simpa using hg
    rw[hg2];go_wp2_with fail;go_ret;exact⟨by rw[Hm.out,hg2];rfl,rfl⟩
  have Hm:Hid (dX x=false):=hid (by simp[dX,h2]);have f1:decide ((1:Int)<=(x.size:Int))=true:=by simp;omega
  have f2:decide ((x.size:Int)<=32)=false:=by simp;omega
  have f3:((x.size:Int)==0)=false:=beq_eq_false_iff_ne.2 (by omega);go_in;go_wp2_with fail;go_ret;exact⟨by rw[Hm.out];rfl,rfl⟩
 have h0:x.size=0:=by omega
 have Hm:Hid (dX x=false):=hid (by simp[dX,h1]);have f1:decide ((1:Int)<=(x.size:Int))=false:=by simp;omega
 have f3:((x.size:Int)==0)=true:=beq_iff_eq.2 (by omega);have f4:decide ((0:Int)<(x.size:Int))=false:=decide_eq_false (by omega);go_in;go_wp2_with fail;go_loopw [4,26] (fun g p wr=>g=.bool true/\p=.int .i64 0/\wr=w) (fun _ p _=>0)
 case atStart=>exact⟨rfl,rfl,rfl⟩
 case round=>
  obtain⟨rfl,rfl,rfl⟩:=hrel;go_wp2_with fail;go_ret;exact⟨by rw[Hm.out];rfl,rfl⟩
theorem jY (x:ByteArray×ByteArray)(w:World):Calls Tryz.prog 72 #[.agg #[.string x.1,.string x.2]] w (aY (aW x) w):=by
 have hb0:Below w.heap.size w (w.alloc (.cells #[.string x.1,.string x.2] 106)):=(Below.refl _ _).alloc (Nat.le_refl _) _;go_in;go_wp2_with fail;refine (CY _ _).mono ?_;rintro e w1 ⟨rfl,rfl⟩;by_cases h:dX x.1=true
 ·rw[h];go_wp2_with fail;refine (pI _ _).mono ?_;rintro e w1 ⟨rfl,hb1⟩;have Hs:Hid (aW x=bg x.2):=hid (by simp[aW,h]);go_wp2_with fail;go_ret;exact⟨by rw[Hs.out];rfl,hb0.trans (hb1.mono hb0.size)⟩
 have h2:dX x.1=false:=by simpa using h
 rw[h2];have Hs:Hid (aW x=false):=hid (by simp[aW,h2]);go_wp2_with fail;go_ret;exact⟨by rw[Hs.out];rfl,hb0⟩
theorem NT (x:ByteArray×ByteArray)(w:World):Calls Tryz.prog 71 #[.agg #[.string x.1,.string x.2]] w (aY (!aW x) w):=by
 have hb0:Below w.heap.size w (w.alloc (.cells #[.string x.1,.string x.2] 106)):=(Below.refl _ _).alloc (Nat.le_refl _) _;go_in;go_wp2_with fail;refine (jY _ _).mono ?_;rintro e w1 ⟨rfl,hb1⟩;go_wp2_with fail;go_ret;exact⟨rfl,hb0.trans (hb1.mono hb0.size)⟩
theorem oC {α:Type}(p:α->Bool)(x:List α)(k:Nat)(u:α)(h:x[k]?=some u)(h1:(x.take k).any p=false)(h2:p u=false):(x.take (k+1)).any p=false:=by
 obtain⟨hl,e⟩:=List.getElem?_eq_some_iff.1 h;rw[List.take_succ_eq_append_getElem hl,List.any_append,h1,e];simp[h2]
theorem qY {α:Type}(p:α->Bool)(x:List α)(k:Nat)(u:α)(h:x[k]?=some u)(h2:p u=true):x.any p=true:=List.any_eq_true.2 ⟨u,List.mem_of_getElem? h,h2⟩
def xx (b:Bool)(w:World)(e:Ending)(w':World):Prop:=∃r:Int,e=.returned (.int .i64 r)/\decide (0<=r)=b/\Below w.heap.size w w'
theorem GU (ao:Option Addr)(n cap:Nat)(x:List ByteArray)(w:World)(hx:Rd w 1 ao n cap (txV x)) :
  Calls Tryz.prog 124 #[.slice ao n cap,.func (.func 73) #[] #[]] w (xx (x.any fun u=>!bg u) w):=by
 have lx:x.length=n:=by have:=hx.1;rw[iZ] at this;omega
 have LX:=hid lx;have hcap:n<=9223372036854775807:=by have:=hx.2.1;have:=hx.2.2.1;unfold maxLen at this;omega
 clear lx;go_in;go_wp2_with fail;go_loopw [8] (fun p wr=>∃k:Nat,k<=n/\p=.int .i64 (k:Int)/\Hid ((x.take k).any (fun u=>!bg u)=false)/\Below w.heap.size w wr) (fun p _=>n-(intOf p).toNat)
 case atStart=>exact⟨0,Nat.zero_le _,rfl,hid rfl,Below.refl _ _⟩
 case round=>
  obtain⟨k,hk,rfl,Ht,hbr⟩:=hrel;by_cases hkn:k<n
  ·obtain⟨b1,o1,rfl,hl1,hc1⟩:=hx.some (by have:=hx.le;omega);obtain⟨u,hu⟩:∃u,x[k]?=some u:=⟨_,List.getElem?_eq_getElem (by rw[LX.out];exact hkn)⟩
   have c1:=(hbr.cell (p:=⟨b1,o1+k,none⟩) hl1).trans (hc1 k _ (pW x k u hu));have i0:(0:Int)<=(k:Int):=by omega
   have i1:(k:Int)<(n:Int):=by omega
   go_wp2_with fail;refine (yG _ _).mono ?_;rintro e w1 ⟨rfl,hb1⟩;have hb2:=hbr.trans (hb1.mono hbr.size);by_cases hm:(!bg u)=true
   ·have Hs:=hid (qY (fun u=>!bg u) x k u hu hm);rw[hm];go_wp2_with fail;go_ret;exact⟨k,rfl,by rw[Hs.out];simp,hb2⟩
   have hm2:(!bg u)=false:=by simpa using hm
   have Hs:=hid (oC (fun u=>!bg u) x k u hu Ht.out hm2);rw[hm2];go_wp2_with fail;go_roundw
   case rel=>exact⟨k+1,by omega,by go_num,Hs,hb2⟩
   case measure=>simp[intOf];omega
  have Hs:Hid (x.any (fun u=>!bg u)=false):=hid (by have:=Ht.out;rw[List.take_of_length_le (by rw[LX.out];omega)] at this;exact this);have hkn2:k=n:=by omega
  subst hkn2;go_wp2_with fail;go_ret;exact⟨-1,rfl,by rw[Hs.out];rfl,hbr⟩
theorem Bf (ao:Option Addr)(n cap:Nat)(x:List ByteArray)(w:World)(hx:Rd w 1 ao n cap (txV x)) :
  Calls Tryz.prog 80 #[.slice ao n cap,.func (.func 73) #[] #[]] w (aY (x.any fun u=>!bg u) w):=by
 go_in;go_wp2_with fail;refine (GU _ _ _ x _ hx).mono ?_;rintro e w1 ⟨r,rfl,hr,hb1⟩;have Hr:=hid hr;clear hr;go_wp2_with fail;go_ret;exact⟨by rw[<-Hr.out];rfl,hb1⟩
theorem Io (ao:Option Addr)(n cap:Nat)(x:List (ByteArray×ByteArray))(w:World)(hx:Rd w 2 ao n cap (atV x)) :
  Calls Tryz.prog 122 #[.slice ao n cap,.func (.func 71) #[] #[]] w (xx (x.any fun u=>!aW u) w):=by
 have lx:x.length=n:=by have:=hx.1;rw[fE] at this;omega
 have LX:=hid lx;have hcap:n<=9223372036854775807:=by have:=hx.2.1;have:=hx.2.2.1;unfold maxLen at this;omega
 clear lx;go_in;go_wp2_with fail;go_loopw [8] (fun p wr=>∃k:Nat,k<=n/\p=.int .i64 (k:Int)/\Hid ((x.take k).any (fun u=>!aW u)=false)/\Below w.heap.size w wr) (fun p _=>n-(intOf p).toNat)
 case atStart=>exact⟨0,Nat.zero_le _,rfl,hid rfl,Below.refl _ _⟩
 case round=>
  obtain⟨k,hk,rfl,Ht,hbr⟩:=hrel;by_cases hkn:k<n
  ·obtain⟨b1,o1,rfl,hl1,hc1⟩:=hx.some (by have:=hx.le;omega);obtain⟨u,hu⟩:∃u,x[k]?=some u:=⟨_,List.getElem?_eq_getElem (by rw[LX.out];exact hkn)⟩
   obtain⟨v1,v2⟩:=jE x k u hu;have c1:=(hbr.cell (p:=⟨b1,o1+k*2,none⟩) hl1).trans (hc1 (k*2) _ v1);have c2:wr.cell? ⟨b1,o1+k*2+1,none⟩=_:=(hbr.cell (p:=⟨b1,o1+(k*2+1),none⟩) hl1).trans (hc1 (k*2+1) _ v2);clear v1 v2;have i0:(0:Int)<=(k:Int):=by omega
   have i1:(k:Int)<(n:Int):=by omega
   go_wp2_with fail;refine (NT _ _).mono ?_;rintro e w1 ⟨rfl,hb1⟩;have hb2:=hbr.trans (hb1.mono hbr.size);by_cases hm:(!aW u)=true
   ·have Hs:=hid (qY (fun u=>!aW u) x k u hu hm);rw[hm];go_wp2_with fail;go_ret;exact⟨k,rfl,by rw[Hs.out];simp,hb2⟩
   have hm2:(!aW u)=false:=by simpa using hm
   have Hs:=hid (oC (fun u=>!aW u) x k u hu Ht.out hm2);rw[hm2];go_wp2_with fail;go_roundw
   case rel=>exact⟨k+1,by omega,by go_num,Hs,hb2⟩
   case measure=>simp[intOf];omega
  have Hs:Hid (x.any (fun u=>!aW u)=false):=hid (by have:=Ht.out;rw[List.take_of_length_le (by rw[LX.out];omega)] at this;exact this);have hkn2:k=n:=by omega
  subst hkn2;go_wp2_with fail;go_ret;exact⟨-1,rfl,by rw[Hs.out];rfl,hbr⟩
theorem Au (ao:Option Addr)(n cap:Nat)(x:List (ByteArray×ByteArray))(w:World)(hx:Rd w 2 ao n cap (atV x)) :
  Calls Tryz.prog 78 #[.slice ao n cap,.func (.func 71) #[] #[]] w (aY (x.any fun u=>!aW u) w):=by
 go_in;go_wp2_with fail;refine (Io _ _ _ x _ hx).mono ?_;rintro e w1 ⟨r,rfl,hr,hb1⟩;have Hr:=hid hr;clear hr;go_wp2_with fail;go_ret;exact⟨by rw[<-Hr.out];rfl,hb1⟩
def InBox (w:World)(v:OV)(W:World):Prop:=W.heap[w.heap.size]?=some v.box/\Below w.heap.size w W
theorem InBox.step {w W W':World}{v:OV}(h:InBox w v W)(hb:Below W.heap.size W W'):InBox w v W':=
 ⟨(hb.block _ (Array.getElem?_eq_some_iff.1 h.1).1).trans h.1,h.2.trans (hb.mono h.2.size)⟩
theorem InBox.drew {w W:World}{v:OV}(h:InBox w v W):InBox w v W.drew:=⟨h.1,h.2.drew⟩
theorem InBox.new (w:World)(v:OV):InBox w v (w.alloc v.box):=⟨by show (w.heap.push _)[w.heap.size]?=some _;exact Array.getElem?_push_size,(Below.refl _ _).alloc (Nat.le_refl _) _⟩
theorem InBox.at_ {w W:World}{v:OV}{c:OC}(h:InBox w v W)(ho:OpAt w v c):OpAt W v c:=ho.later h.2
def nO (v:OV)(c:OC)(attrs:Bool):Bool:=
 if v.k=1 then attrs else if v.k=5 then decide (v.an=1) else decide (v.bn<=8)&&!(c.parts.any fun u=>!bg u)&&decide (v.cn<=4000)&&decide (0<=v.n)&&decide (v.n<=1000)
def dV (v:OV)(c:OC)(attrs:Bool):Bool:=
 decide (fieldsOf v.k≠[])&&bK v c (eF (fieldsOf v.k) v) (jC (fieldsOf v.k) c)&&bg v.name&&bg v.to&&decide (v.an<=50)&&!(c.attrs.any fun u=>!aW u)&&nO v c attrs
theorem lQ {f s n t l a r:Bool}(h:f=false\/s=false\/n=false\/t=false\/l=false\/a=true):(f&&s&&n&&t&&l&&!a&&r)=false:=by
 rcases h with rfl|rfl|rfl|rfl|rfl|rfl<;>simp
theorem J4 (v:OV)(c:OC)(attrs:Bool)(w:World)(ho:OpAt w v c)(hA:v.k=1->∀W,OpAt W v c->Calls Tryz.prog 79 #[.slice v.ao v.an v.ac] W (aY attrs W)) :
  Calls Tryz.prog 40 #[v.val] w (aY (dV v c attrs) w):=by
 have hmo:Tryz.prog.follows .mixedOrders=true:=by kernel_rfl
 have s0:InBox w v (w.alloc v.box).drew:=(InBox.new w v).drew;obtain⟨b0,hf⟩:∃b,decide (fieldsOf v.k=[])=b:=⟨_,rfl⟩
 have HF:=hid hf;obtain⟨b1,h1⟩:∃b,bK v c (eF (fieldsOf v.k) v) (jC (fieldsOf v.k) c)=b:=⟨_,rfl⟩
 have H1:=hid h1;obtain⟨b2,h2⟩:∃b,(!bg v.name)=b:=⟨_,rfl⟩
 have H2:=hid h2;obtain⟨b3,h3⟩:∃b,(!bg v.to)=b:=⟨_,rfl⟩
 have H3:=hid h3;obtain⟨b5,h5⟩:∃b,(c.attrs.any fun u=>!aW u)=b:=⟨_,rfl⟩
 have H5:=hid h5;clear hf h1 h2 h3 h5;unfold OV.val;go_in;go_wp2_with fail;refine wp_region_held (S:=InBox w v) hmo ?_;change wpAnyH _ _ _ _ _ _ _ _ (World.drew _);refine zHp 0 (.pointer (some ⟨w.heap.size,0,none⟩)) rfl s0 ?_;go_simp;refine zHa 1 (.int .i64 v.k) rfl (by rintro w h;obtain⟨c0,c1,c2,c3,c4,c5,c6,-⟩:=aO h.1;go_simp) s0 ?_;go_simp;refine zH1 2 rfl (fun K hK=>?_);go_simp;refine (mX _ _).mono ?_;rintro e W1 ⟨rfl,hb1⟩;have s1:=s0.step hb1;go_simp;refine hK _ _ ⟨s1,?_⟩;clear hK K;cases b0;rotate_left
 ·have H0:=hid (of_decide_eq_true HF.out);have Hr:Hid (dV v c attrs=false):=hid (lQ (.inl (by simp[H0.out])));clear hA;refine zHa 3 (.bool true) rfl (by rintro w h;obtain⟨c0,c1,c2,c3,c4,c5,c6,-⟩:=aO h.1;go_simp;exact H0.out) s1 ?_;go_simp;refine zHp 4 (.bool true) rfl s1 ?_;go_simp;refine zHo 5 rfl s1 ?_;go_simp;refine zHo 6 rfl s1 ?_;go_simp;refine zHo 7 rfl s1 ?_;go_simp;refine zHo 8 rfl s1 ?_;go_simp;refine zHo 9 rfl s1 ?_;go_simp;refine zHp 10 (.bool true) rfl s1 ?_;go_simp;refine zHp 11 (.bool true) rfl s1 ?_;go_simp;refine zHo 12 rfl s1 ?_;go_simp;refine zHo 13 rfl s1 ?_;go_simp;refine zHo 14 rfl s1 ?_;go_simp;refine zHo 15 rfl s1 ?_;go_simp;refine zHp 16 (.bool true) rfl s1 ?_;go_simp;refine zHp 17 (.bool true) rfl s1 ?_;go_simp;refine zHo 18 rfl s1 ?_;go_simp;refine zHo 19 rfl s1 ?_;go_simp;refine zHo 20 rfl s1 ?_;go_simp;refine zHo 21 rfl s1 ?_;go_simp;refine zHp 22 (.bool true) rfl s1 ?_;go_simp;refine zHp 23 (.bool true) rfl s1 ?_;go_simp;refine zHo 24 rfl s1 ?_;go_simp;refine zHo 25 rfl s1 ?_;go_simp;refine zHo 26 rfl s1 ?_;go_simp;refine zHo 27 rfl s1 ?_;go_simp;refine zHp 28 (.bool true) rfl s1 ?_;go_simp;refine zHp 29 (.bool true) rfl s1 ?_;go_simp;refine zHo 30 rfl s1 ?_;go_simp;refine zHo 31 rfl s1 ?_;go_simp;refine zHo 32 rfl s1 ?_;go_simp;refine zHo 33 rfl s1 ?_;go_simp;refine zHp 34 (.bool true) rfl s1 ?_;go_simp;refine wpAnyH_done (by kernel_rfl) ?_ _;go_wp2_with fail;go_ret;exact⟨by rw[Hr.out];rfl,s1.2⟩
 have H0:=hid (of_decide_eq_false HF.out);refine zHa 3 (.bool false) rfl (by rintro w h;obtain⟨c0,c1,c2,c3,c4,c5,c6,-⟩:=aO h.1;go_simp;exact H0.out) s1 ?_;go_simp;refine zHp 4 (.bool false) rfl s1 ?_;go_simp;refine zHa 5 (.agg #[.int .i64 v.k,.string v.name,.string v.to,.slice v.ao v.an v.ac,.slice v.bo v.bn v.bc,.slice v.co v.cn v.cc,.int .i64 v.n]) rfl (by rintro w h;obtain⟨c0,c1,c2,c3,c4,c5,c6,-⟩:=aO h.1;go_simp) s1 ?_;go_simp;refine zHa 6 (.agg #[.int .i64 v.k,.string v.name,.string v.to,.slice v.ao v.an v.ac,.slice v.bo v.bn v.bc,.slice v.co v.cn v.cc,.int .i64 v.n]) rfl (by rintro w h;obtain⟨c0,c1,c2,c3,c4,c5,c6,-⟩:=aO h.1;go_simp) s1 ?_;go_simp;refine zH1 7 rfl (fun K hK=>?_);go_simp;refine (JI v _).mono ?_;rintro e W2 ⟨rfl,hb2⟩;have s2:=s1.step hb2;have o2:=s2.at_ ho;obtain⟨u,hu⟩:∃u,eF (fieldsOf v.k) v=u:=⟨_,rfl⟩
 have p2:OpAt W2 u (jC (fieldsOf v.k) c):=hu▸NK o2 _;have Hs2:Hid (bK v c u (jC (fieldsOf v.k) c)=b1):=hid (hu▸H1.out);rw[hu];clear hu o2;go_simp;refine hK _ _ ⟨s2,?_⟩;clear hK K;refine zH1 8 rfl (fun K hK=>?_);go_simp;refine (xh v u c (jC (fieldsOf v.k) c) _ (s2.at_ ho) p2).mono ?_;rintro e W3 ⟨rfl,hb3⟩;rw[Hs2.out];have s3:=s2.step hb3;go_simp;refine hK _ _ ⟨s3,?_⟩;clear hK K;cases b1
 ·have Hr:Hid (dV v c attrs=false):=hid (lQ (.inr (.inl H1.out)));clear hA;refine zHa 9 (.bool true) rfl (by rintro w h;obtain⟨c0,c1,c2,c3,c4,c5,c6,-⟩:=aO h.1;go_simp) s3 ?_;go_simp;refine zHp 10 (.bool true) rfl s3 ?_;go_simp;refine zHp 11 (.bool true) rfl s3 ?_;go_simp;refine zHo 12 rfl s3 ?_;go_simp;refine zHo 13 rfl s3 ?_;go_simp;refine zHo 14 rfl s3 ?_;go_simp;refine zHo 15 rfl s3 ?_;go_simp;refine zHp 16 (.bool true) rfl s3 ?_;go_simp;refine zHp 17 (.bool true) rfl s3 ?_;go_simp;refine zHo 18 rfl s3 ?_;go_simp;refine zHo 19 rfl s3 ?_;go_simp;refine zHo 20 rfl s3 ?_;go_simp;refine zHo 21 rfl s3 ?_;go_simp;refine zHp 22 (.bool true) rfl s3 ?_;go_simp;refine zHp 23 (.bool true) rfl s3 ?_;go_simp;refine zHo 24 rfl s3 ?_;go_simp;refine zHo 25 rfl s3 ?_;go_simp;refine zHo 26 rfl s3 ?_;go_simp;refine zHo 27 rfl s3 ?_;go_simp;refine zHp 28 (.bool true) rfl s3 ?_;go_simp;refine zHp 29 (.bool true) rfl s3 ?_;go_simp;refine zHo 30 rfl s3 ?_;go_simp;refine zHo 31 rfl s3 ?_;go_simp;refine zHo 32 rfl s3 ?_;go_simp;refine zHo 33 rfl s3 ?_;go_simp;refine zHp 34 (.bool true) rfl s3 ?_;go_simp;refine wpAnyH_done (by kernel_rfl) ?_ _;go_wp2_with fail;go_ret;exact⟨by rw[Hr.out];rfl,s3.2⟩
 refine zHa 9 (.bool false) rfl (by rintro w h;obtain⟨c0,c1,c2,c3,c4,c5,c6,-⟩:=aO h.1;go_simp) s3 ?_;go_simp;refine zHp 10 (.bool false) rfl s3 ?_;go_simp;refine zHp 11 (.bool false) rfl s3 ?_;go_simp;refine zHp 12 (.func (.func 73) #[] #[]) rfl s3 ?_;go_simp;refine zHp 13 (.pointer (some ⟨w.heap.size,1,none⟩)) rfl s3 ?_;go_simp;refine zHa 14 (.string v.name) rfl (by rintro w h;obtain⟨c0,c1,c2,c3,c4,c5,c6,-⟩:=aO h.1;go_simp) s3 ?_;go_simp;refine zH1 15 rfl (fun K hK=>?_);go_simp;refine (yG _ _).mono ?_;rintro e W4 ⟨rfl,hb4⟩;rw[H2.out];have s4:=s3.step hb4;go_simp;refine hK _ _ ⟨s4,?_⟩;clear hK K;cases b2;rotate_left
 ·have Hr:Hid (dV v c attrs=false):=hid (lQ (.inr (.inr (.inl (by simpa using H2.out)))));clear hA;refine zHp 16 (.bool true) rfl s4 ?_;go_simp;refine zHp 17 (.bool true) rfl s4 ?_;go_simp;refine zHo 18 rfl s4 ?_;go_simp;refine zHo 19 rfl s4 ?_;go_simp;refine zHo 20 rfl s4 ?_;go_simp;refine zHo 21 rfl s4 ?_;go_simp;refine zHp 22 (.bool true) rfl s4 ?_;go_simp;refine zHp 23 (.bool true) rfl s4 ?_;go_simp;refine zHo 24 rfl s4 ?_;go_simp;refine zHo 25 rfl s4 ?_;go_simp;refine zHo 26 rfl s4 ?_;go_simp;refine zHo 27 rfl s4 ?_;go_simp;refine zHp 28 (.bool true) rfl s4 ?_;go_simp;refine zHp 29 (.bool true) rfl s4 ?_;go_simp;refine zHo 30 rfl s4 ?_;go_simp;refine zHo 31 rfl s4 ?_;go_simp;refine zHo 32 rfl s4 ?_;go_simp;refine zHo 33 rfl s4 ?_;go_simp;refine zHp 34 (.bool true) rfl s4 ?_;go_simp;refine wpAnyH_done (by kernel_rfl) ?_ _;go_wp2_with fail;go_ret;exact⟨by rw[Hr.out];rfl,s4.2⟩
 refine zHp 16 (.bool false) rfl s4 ?_;go_simp;refine zHp 17 (.bool false) rfl s4 ?_;go_simp;refine zHp 18 (.func (.func 73) #[] #[]) rfl s4 ?_;go_simp;refine zHp 19 (.pointer (some ⟨w.heap.size,2,none⟩)) rfl s4 ?_;go_simp;refine zHa 20 (.string v.to) rfl (by rintro w h;obtain⟨c0,c1,c2,c3,c4,c5,c6,-⟩:=aO h.1;go_simp) s4 ?_;go_simp;refine zH1 21 rfl (fun K hK=>?_);go_simp;refine (yG _ _).mono ?_;rintro e W5 ⟨rfl,hb5⟩;rw[H3.out];have s5:=s4.step hb5;go_simp;refine hK _ _ ⟨s5,?_⟩;clear hK K;cases b3;rotate_left
 ·have Hr:Hid (dV v c attrs=false):=hid (lQ (.inr (.inr (.inr (.inl (by simpa using H3.out))))));clear hA;refine zHp 22 (.bool true) rfl s5 ?_;go_simp;refine zHp 23 (.bool true) rfl s5 ?_;go_simp;refine zHo 24 rfl s5 ?_;go_simp;refine zHo 25 rfl s5 ?_;go_simp;refine zHo 26 rfl s5 ?_;go_simp;refine zHo 27 rfl s5 ?_;go_simp;refine zHp 28 (.bool true) rfl s5 ?_;go_simp;refine zHp 29 (.bool true) rfl s5 ?_;go_simp;refine zHo 30 rfl s5 ?_;go_simp;refine zHo 31 rfl s5 ?_;go_simp;refine zHo 32 rfl s5 ?_;go_simp;refine zHo 33 rfl s5 ?_;go_simp;refine zHp 34 (.bool true) rfl s5 ?_;go_simp;refine wpAnyH_done (by kernel_rfl) ?_ _;go_wp2_with fail;go_ret;exact⟨by rw[Hr.out];rfl,s5.2⟩
 refine zHp 22 (.bool false) rfl s5 ?_;go_simp;refine zHp 23 (.bool false) rfl s5 ?_;go_simp;refine zHp 24 (.pointer (some ⟨w.heap.size,3,none⟩)) rfl s5 ?_;go_simp;refine zHa 25 (.slice v.ao v.an v.ac) rfl (by rintro w h;obtain⟨c0,c1,c2,c3,c4,c5,c6,-⟩:=aO h.1;go_simp) s5 ?_;go_simp;refine zHa 26 (.int .i64 (v.an:Int)) rfl (by rintro w h;obtain⟨c0,c1,c2,c3,c4,c5,c6,-⟩:=aO h.1;go_simp) s5 ?_;go_simp;by_cases f4:decide (50<(v.an:Int))=true
 ·have Hr:Hid (dV v c attrs=false):=hid (lQ (.inr (.inr (.inr (.inr (.inl (decide_eq_false (by have:=of_decide_eq_true f4;omega))))))));clear hA;refine zHa 27 (.bool true) rfl (by rintro w h;obtain⟨c0,c1,c2,c3,c4,c5,c6,-⟩:=aO h.1;go_simp) s5 ?_;go_simp;refine zHp 28 (.bool true) rfl s5 ?_;go_simp;refine zHp 29 (.bool true) rfl s5 ?_;go_simp;refine zHo 30 rfl s5 ?_;go_simp;refine zHo 31 rfl s5 ?_;go_simp;refine zHo 32 rfl s5 ?_;go_simp;refine zHo 33 rfl s5 ?_;go_simp;refine zHp 34 (.bool true) rfl s5 ?_;go_simp;refine wpAnyH_done (by kernel_rfl) ?_ _;go_wp2_with fail;go_ret;exact⟨by rw[Hr.out];rfl,s5.2⟩
 replace f4:decide (50<(v.an:Int))=false:=by simpa using f4
 refine zHa 27 (.bool false) rfl (by rintro w h;obtain⟨c0,c1,c2,c3,c4,c5,c6,-⟩:=aO h.1;go_simp) s5 ?_;go_simp;refine zHp 28 (.bool false) rfl s5 ?_;go_simp;refine zHp 29 (.bool false) rfl s5 ?_;go_simp;refine zHp 30 (.pointer (some ⟨w.heap.size,3,none⟩)) rfl s5 ?_;go_simp;refine zHa 31 (.slice v.ao v.an v.ac) rfl (by rintro w h;obtain⟨c0,c1,c2,c3,c4,c5,c6,-⟩:=aO h.1;go_simp) s5 ?_;go_simp;refine zHp 32 (.func (.func 71) #[] #[]) rfl s5 ?_;go_simp;refine zH1 33 rfl (fun K hK=>?_);go_simp;refine (Au _ _ _ c.attrs _ (s5.at_ ho).a).mono ?_;rintro e W6 ⟨rfl,hb6⟩;rw[H5.out];have s6:=s5.step hb6;go_simp;refine hK _ _ ⟨s6,?_⟩;clear hK K;cases b5;rotate_left
 ·have Hr:Hid (dV v c attrs=false):=hid (lQ (.inr (.inr (.inr (.inr (.inr H5.out))))));clear hA;refine zHp 34 (.bool true) rfl s6 ?_;go_simp;refine wpAnyH_done (by kernel_rfl) ?_ _;go_wp2_with fail;go_ret;exact⟨by rw[Hr.out];rfl,s6.2⟩
 have Hr:Hid (dV v c attrs=nO v c attrs):=hid (by have:=of_decide_eq_false f4;have h2:=H2.out;have h3:=H3.out;simp only[Bool.not_eq_false'] at h2 h3;unfold dV;rw[H1.out,h2,h3,H5.out,decide_eq_true H0.out,decide_eq_true (by omega)];simp);refine zHp 34 (.bool false) rfl s6 ?_;go_simp;refine wpAnyH_done (by kernel_rfl) ?_ _;obtain⟨c0,c1,c2,c3,c4,c5,c6,-⟩:=aO s6.1;by_cases hk1:v.k=1
 ·have f1:(v.k==1)=true:=by simp[hk1]
  have Hs:Hid (dV v c attrs=attrs):=hid (by rw[Hr.out];simp[nO,hk1]);have hc:=hA hk1 _ (s6.at_ ho);clear hk1 hA;go_wp2_with fail;refine hc.mono ?_;rintro e W7 ⟨rfl,hb7⟩;have s7:=s6.step hb7;go_wp2_with fail;go_ret;exact⟨by rw[Hs.out];rfl,s7.2⟩
 have f1:(v.k==1)=false:=by simp[hk1]
 by_cases hk5:v.k=5
 ·have f2:(v.k==5)=true:=by simp[hk5]
  have Hs:Hid (dV v c attrs=((v.an:Int)==1)):=hid (by rw[Hr.out];unfold nO;rw[if_neg hk1,if_pos hk5,Bool.eq_iff_iff];simp;omega);clear hk1 hk5 hA;go_wp2_with fail;go_ret;exact⟨by rw[Hs.out];rfl,s6.2⟩
 have f2:(v.k==5)=false:=by simp[hk5]
 have Hs:Hid (dV v c attrs=(decide (v.bn<=8)&&!(c.parts.any fun u=>!bg u)&&decide (v.cn<=4000)&&decide (0<=v.n)&&decide (v.n<=1000))):=hid (by rw[Hr.out];unfold nO;rw[if_neg hk1,if_neg hk5]);clear hk1 hk5 hA Hr;by_cases hb:v.bn<=8
 ·have f3:decide ((v.bn:Int)<=8)=true:=decide_eq_true (by omega);go_wp2_with fail;refine (Bf _ _ _ c.parts _ (s6.at_ ho).b).mono ?_;rintro e W7 ⟨rfl,hb7⟩;have s7:=s6.step hb7;clear c0 c1 c2 c3 c4 c5 c6;obtain⟨c0,c1,c2,c3,c4,c5,c6,-⟩:=aO s7.1;by_cases hp:(c.parts.any fun u=>!bg u)=true
  ·have Hs2:Hid (dV v c attrs=false):=hid (by rw[Hs.out,hp];simp);rw[hp];clear Hs hp hb;go_wp2_with fail;go_ret;exact⟨by rw[Hs2.out];rfl,s7.2⟩
  have hp2:(c.parts.any fun u=>!bg u)=false:=by simpa using hp
  have Hs2:Hid (dV v c attrs=(decide (v.cn<=4000)&&decide (0<=v.n)&&decide (v.n<=1000))):=hid (by rw[Hs.out,hp2,decide_eq_true hb];simp);rw[hp2];clear Hs hp hp2 hb;by_cases hc:v.cn<=4000
  ·have f4:decide ((v.cn:Int)<=4000)=true:=decide_eq_true (by omega);by_cases h0:0<=v.n
   ·have f5:decide (0<=v.n)=true:=decide_eq_true h0;have Hs3:Hid (dV v c attrs=decide (v.n<=1000)):=hid (by rw[Hs2.out,decide_eq_true hc,f5];simp);clear Hs2 hc h0;go_wp2_with fail;go_ret;exact⟨by rw[Hs3.out];rfl,s7.2⟩
   have f5:decide (0<=v.n)=false:=decide_eq_false h0;have Hs3:Hid (dV v c attrs=false):=hid (by rw[Hs2.out,f5];simp);clear Hs2 hc h0;go_wp2_with fail;go_ret;exact⟨by rw[Hs3.out];rfl,s7.2⟩
  have f4:decide ((v.cn:Int)<=4000)=false:=decide_eq_false (by omega);have Hs3:Hid (dV v c attrs=false):=hid (by rw[Hs2.out,decide_eq_false hc];simp);clear Hs2 hc;go_wp2_with fail;go_ret;exact⟨by rw[Hs3.out];rfl,s7.2⟩
 have f3:decide ((v.bn:Int)<=8)=false:=decide_eq_false (by omega);have Hs2:Hid (dV v c attrs=false):=hid (by rw[Hs.out,decide_eq_false hb];simp);clear Hs hb;go_wp2_with fail;go_ret;exact⟨by rw[Hs2.out];rfl,s6.2⟩
end Go.Proofs.YtfmmandlmbcncaaGreatDoor.Msg
namespace Go.Proofs.YtfmmandlmbcncaaGreatDoor.Msg
open Go.RowKit Go.Lib Mem
structure CopyOf (w:World)(v u:OV):Prop where
 ek:u.k=v.k
 ename:u.name=v.name
 eto:u.to=v.to
 en:u.n=v.n
 ean:u.an=v.an
 ebn:u.bn=v.bn
 ecn:u.cn=v.cn
 fa:∀a,u.ao=some a->w.heap.size<=a.block
 fb:∀a,u.bo=some a->w.heap.size<=a.block
 fc:∀a,u.co=some a->w.heap.size<=a.block
 na:v.ao=none->u.ao=none/\u.ac=0
 nb:v.bo=none->u.bo=none/\u.bc=0
 nc:v.co=none->u.co=none/\u.cc=0
def P9 (v:OV)(c:OC)(w:World)(e:Ending)(w':World):Prop:=∃u:OV,e=.returned u.val/\CopyOf w v u/\OpAt w' u c/\Below w.heap.size w w'
def InTwo (w:World)(v:OV)(W:World):Prop:=InBox w v W/\W.heap[w.heap.size+1]?=some zeroV.box
theorem InTwo.step {w W W':World}{v:OV}(h:InTwo w v W)(hb:Below W.heap.size W W'):InTwo w v W':=
 ⟨h.1.step hb,(hb.block _ (Array.getElem?_eq_some_iff.1 h.2).1).trans h.2⟩
theorem qm {W:World}{size:Nat}{ao:Option Addr}{n cap:Nat}{xs:List Value}(h:Rd W size ao n cap xs)(p:Addr)(x:Value)(hd:∀a,ao=some a->a.block≠p.block):Rd (W.setCell p x) size ao n cap xs:=by
 obtain⟨h1,h2,h3,h4,h5⟩:=h;refine⟨h1,h2,h3,h4,fun h0 a ha=>?_⟩;obtain⟨s,l,c⟩:=h5 h0 a ha;exact⟨s,by simpa using l,fun j u hu=>(World.cell?_of_block (a:=⟨a.block,a.off+j,none⟩) (Below.heap_setCell W p x _ (hd a ha))).trans (c j u hu)⟩
theorem OpAt.set {W:World}{u:OV}{c:OC}(h:OpAt W u c)(p:Addr)(x:Value)(fa:∀a,u.ao=some a->a.block≠p.block)(fb:∀a,u.bo=some a->a.block≠p.block)(fc:∀a,u.co=some a->a.block≠p.block):OpAt (W.setCell p x) u c:=
 ⟨qm h.a p x fa,qm h.b p x fb,qm h.c p x fc,h.la,h.lb,h.lc⟩
def ql (W:World)(b:Nat)(u:OV):World:=((((((W.setCell ⟨b,0,none⟩ (.int .i64 u.k)).setCell ⟨b,1,none⟩ (.string u.name)).setCell ⟨b,2,none⟩ (.string u.to)).setCell ⟨b,3,none⟩ (.slice u.ao u.an u.ac)).setCell ⟨b,4,none⟩ (.slice u.bo u.bn u.bc)).setCell ⟨b,5,none⟩ (.slice u.co u.cn u.cc)).setCell ⟨b,6,none⟩ (.int .i64 u.n)
theorem Ib {W:World}{b:Nat}{v u:OV}(h:W.heap[b]?=some v.box):(ql W b u).heap[b]?=some u.box:=
 by
 unfold OV.box at h;have h0:=at_set (i:=0) (x:=.int .i64 u.k) h;have h1:=at_set (i:=1) (x:=.string u.name) h0;have h2:=at_set (i:=2) (x:=.string u.to) h1;have h3:=at_set (i:=3) (x:=.slice u.ao u.an u.ac) h2;have h4:=at_set (i:=4) (x:=.slice u.bo u.bn u.bc) h3;have h5:=at_set (i:=5) (x:=.slice u.co u.cn u.cc) h4;have h6:=at_set (i:=6) (x:=.int .i64 u.n) h5;unfold ql;refine h6.trans ?_
 kernel_rfl
theorem IC {W:World}{b:Nat}{u y:OV}{c:OC}(h:OpAt W y c)(fa:∀a,y.ao=some a->a.block≠b)(fb:∀a,y.bo=some a->a.block≠b)(fc:∀a,y.co=some a->a.block≠b):OpAt (ql W b u) y c:=
 ((((((h.set ⟨b,0,none⟩ _ fa fb fc).set ⟨b,1,none⟩ _ fa fb fc).set ⟨b,2,none⟩ _ fa fb fc).set ⟨b,3,none⟩ _ fa fb fc).set ⟨b,4,none⟩ _ fa fb fc).set ⟨b,5,none⟩ _ fa fb fc).set ⟨b,6,none⟩ _ fa fb fc
theorem Aj {B:Nat}{w W:World}{b:Nat}{u:OV}(h:Below B w W)(hb:B<=b):Below B w (ql W b u):=
 ((((((h.setCell (p:=⟨b,0,none⟩) hb _).setCell (p:=⟨b,1,none⟩) hb _).setCell (p:=⟨b,2,none⟩) hb _).setCell (p:=⟨b,3,none⟩) hb _).setCell (p:=⟨b,4,none⟩) hb _).setCell (p:=⟨b,5,none⟩) hb _).setCell (p:=⟨b,6,none⟩) hb _
theorem Ep (v:OV)(c:OC)(w:World)(ho:OpAt w v c):Calls Tryz.prog 81 #[v.val] w (P9 v c w):=by
 have hmo:Tryz.prog.follows .mixedOrders=true:=by kernel_rfl
 have s0:InTwo w v ((w.alloc v.box).alloc zeroV.box).drew:=by
  obtain⟨h1,h2⟩:=bY w v.box zeroV.box;exact⟨⟨h1,(bU w _ _).drew⟩,h2⟩
 unfold OV.val;go_in;go_wp2_with fail;refine ed (k:=10) (S:=InTwo w v) hmo ?_;change dh _ _ _ _ _ _ _ _ _ (World.drew _);refine zTp 0 (.pointer (some ⟨w.heap.size,3,none⟩)) rfl s0 ?_;go_simp;refine zTa 1 (.slice v.ao v.an v.ac) rfl (by rintro w h;obtain⟨c0,c1,c2,c3,c4,c5,c6,-⟩:=aO h.1.1;go_simp) s0 ?_;go_simp;refine zTp 3 (.pointer (some ⟨w.heap.size,4,none⟩)) rfl s0 ?_;go_simp;refine zTa 4 (.slice v.bo v.bn v.bc) rfl (by rintro w h;obtain⟨c0,c1,c2,c3,c4,c5,c6,-⟩:=aO h.1.1;go_simp) s0 ?_;go_simp;refine zTp 6 (.pointer (some ⟨w.heap.size,5,none⟩)) rfl s0 ?_;go_simp;refine zTa 7 (.slice v.co v.cn v.cc) rfl (by rintro w h;obtain⟨c0,c1,c2,c3,c4,c5,c6,-⟩:=aO h.1.1;go_simp) s0 ?_;go_simp;refine zT1 2 rfl (fun K hK=>?_);go_simp;have o0:=ho.later s0.1.2;refine (zl _ _ _ c.attrs _ o0.a o0.la).mono ?_;rintro e W1 ⟨a1,k1,rfl,r1,hb1,fr1,nl1⟩;have s1:=s0.step hb1;have l0:=s0.1.2.size;go_simp;refine hK _ _ ⟨.inr s1,?_⟩;clear hK K;refine zTp 9 (.pointer (some ⟨w.heap.size,3,none⟩)) rfl s1 ?_;go_simp;refine zT1 5 rfl (fun K hK=>?_);go_simp;have o1:=ho.later s1.1.2;refine (He _ _ _ c.parts _ o1.b o1.lb).mono ?_;rintro e W2 ⟨a2,k2,rfl,r2,hb2,fr2,nl2⟩;have s2:=s1.step hb2;have l1:=s1.1.2.size;go_simp;refine hK _ _ ⟨.inr s2,?_⟩;clear hK K;refine zT1 8 rfl (fun K hK=>?_);go_simp;have o2:=ho.later s2.1.2;refine (zJ _ _ _ c.cursor _ o2.c o2.lc).mono ?_;rintro e W3 ⟨a3,k3,rfl,r3,hb3,fr3,nl3⟩;have s3:=s2.step hb3;have l2:=s2.1.2.size;go_simp;refine hK _ _ ⟨.inr s3,?_⟩;clear hK K;obtain⟨b0,b1,b2,b3,b4,b5,b6,b7⟩:=aO s3.1.1;refine dH (by kernel_rfl) (by kernel_rfl) ?_;refine zA1 10 rfl (fun K hK=>?_);go_simp;refine hK _ _ ?_;clear hK K;refine zA1 11 rfl (fun K hK=>?_);go_simp;refine hK _ _ ?_;clear hK K;refine zA1 12 rfl (fun K hK=>?_);go_simp;refine hK _ _ ?_;clear hK K;refine zA1 13 rfl (fun K hK=>?_);go_simp;refine hK _ _ ?_;clear hK K;refine zA1 14 rfl (fun K hK=>?_);go_simp;refine hK _ _ ?_;clear hK K;refine wpAny_done (by kernel_rfl) ?_ _;have hW:=at_set (i:=5) (x:=.slice a3 v.cn k3) (at_set (i:=4) (x:=.slice a2 v.bn k2) (at_set (i:=3) (x:=.slice a1 v.an k1) s3.1.1));obtain⟨u,hu⟩:∃u:OV,u=⟨v.k,v.name,v.to,a1,v.an,k1,a2,v.bn,k2,a3,v.cn,k3,v.n⟩:=⟨_,rfl⟩
 have hU:(((W3.setCell ⟨w.heap.size,3,none⟩ (.slice a1 v.an k1)).setCell ⟨w.heap.size,4,none⟩ (.slice a2 v.bn k2)).setCell ⟨w.heap.size,5,none⟩ (.slice a3 v.cn k3)).heap[w.heap.size]?=some u.box:=by rw[hu];exact hW
 have hZ:(((W3.setCell ⟨w.heap.size,3,none⟩ (.slice a1 v.an k1)).setCell ⟨w.heap.size,4,none⟩ (.slice a2 v.bn k2)).setCell ⟨w.heap.size,5,none⟩ (.slice a3 v.cn k3)).heap[w.heap.size+1]?=some zeroV.box:=af (af (af s3.2 (by omega)) (by omega)) (by omega);have hlow:∀i,w.heap.size<=(⟨w.heap.size,i,none⟩:Addr).block:=fun i=>Nat.le_refl _;have hB:=((s3.1.2.setCell (hlow 3) (.slice a1 v.an k1)).setCell (hlow 4) (.slice a2 v.bn k2)).setCell (hlow 5) (.slice a3 v.cn k3);have hC:CopyOf w v u:=by
  subst hu;exact⟨rfl,rfl,rfl,rfl,rfl,rfl,rfl,fun a ha=>Nat.le_trans l0 (fr1 a ha),fun a ha=>Nat.le_trans l1 (fr2 a ha),fun a ha=>Nat.le_trans l2 (fr3 a ha),nl1,nl2,nl3⟩
 have hz:((w.alloc v.box).alloc zeroV.box).drew.heap.size=w.heap.size+1+1:=by simp
 have lz:w.heap.size+1+1<=W1.heap.size:=Nat.le_trans (Nat.le_of_eq hz.symm) hb1.size;have lz2:=hb2.size;have ga:∀i,i<=1->∀a,u.ao=some a->a.block≠w.heap.size+i:=fun i hi a ha=>by subst hu;have h1:=fr1 a ha;have h2:=Nat.le_trans (Nat.le_of_eq hz.symm) h1;omega
 have gb:∀i,i<=1->∀a,u.bo=some a->a.block≠w.heap.size+i:=fun i hi a ha=>by subst hu;have h1:=fr2 a ha;omega
 have gc:∀i,i<=1->∀a,u.co=some a->a.block≠w.heap.size+i:=fun i hi a ha=>by subst hu;have h1:=fr3 a ha;omega
 have hO:OpAt W3 u c:=by
  subst hu;exact⟨(r1.later hb2).later hb3,r2.later hb3,r3,ho.la,ho.lb,ho.lc⟩
 have hO4:=((hO.set ⟨w.heap.size,3,none⟩ (.slice a1 v.an k1) (ga 0 (by omega)) (gb 0 (by omega)) (gc 0 (by omega))).set ⟨w.heap.size,4,none⟩ (.slice a2 v.bn k2) (ga 0 (by omega)) (gb 0 (by omega)) (gc 0 (by omega))).set ⟨w.heap.size,5,none⟩ (.slice a3 v.cn k3) (ga 0 (by omega)) (gb 0 (by omega)) (gc 0 (by omega));obtain⟨d0,d1,d2,d3,d4,d5,d6,-⟩:=aO hU;obtain⟨e0,e1,e2,e3,e4,e5,e6,e7⟩:=aO hZ;have HC:=hid hC;clear hu hC b0 b1 b2 b3 b4 b5 b6 b7 hU hW hlow;generalize ((W3.setCell ⟨w.heap.size,3,none⟩ (.slice a1 v.an k1)).setCell ⟨w.heap.size,4,none⟩ (.slice a2 v.bn k2)).setCell ⟨w.heap.size,5,none⟩ (.slice a3 v.cn k3)=W4 at *;go_wp2_with fail;have hF:(ql W4 (w.heap.size+1) u).heap[w.heap.size+1]?=some u.box:=Ib hZ;refine bodyPost_ret (w:=ql W4 (w.heap.size+1) u) (wR (i:=2) rfl rfl hF) rfl ⟨u,rfl,HC.out,IC hO4 (ga 1 (Nat.le_refl _)) (gb 1 (Nat.le_refl _)) (gc 1 (Nat.le_refl _)),Aj hB (by omega)⟩
end Go.Proofs.YtfmmandlmbcncaaGreatDoor.Msg
