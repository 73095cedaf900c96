/-
  A part of the proof.
-/
import Derived.Test.YtfmmandlmbcncaaGreatDoorKabp
import Derived.Test.YtfmmandlmbcncaaGreatDoorKabr
set_option maxHeartbeats 40000000
namespace Go.Proofs.YtfmmandlmbcncaaGreatDoor.Msg
open Go.RowKit Go.Lib Go.Proofs.YtfmmandlmbcncaaGreatDoor.Mem Go.Proofs.YtfmmandlmbcncaaGreatDoor.Tlv
def GivesMB (m:MV)(c:MC)(w:World)(e:Ending)(w':World):Prop:=∃(l:List UInt8) (ax:Option Addr) (cx:Nat) (ex:Int),e=.returned (.tuple #[.slice ax l.length cx,.int .i64 ex])∧Rd w' 1 ax l.length cx (byV l)∧Below w.heap.size w w'∧(∀a,ax=some a→w.heap.size≤a.block)∧(mayMsg m c=true→l=msgL m c∧ex=0)∧(mayMsg m c=false→l=[]∧ex=2)
theorem letters_k {m:MV}(h:lettersOf m.k m.wh≠[]):1≤m.k∧m.k≤12:=by
 rcases kinds m.k m.wh with h0 | h0
 ·exact absurd h0 h
 omega
set_option maxRecDepth 100000 in
theorem msgBytes_any (m:MV)(c:MC)(w:World)(h:MAt w m c)(hu:U64M m c)(hf:FitsM m c):Calls Tryz.prog 27 #[m.val] w (GivesMB m c w):=by
 have hb0:Below w.heap.size w (w.alloc m.box):=(Below.refl _ _).alloc (Nat.le_refl _) _
 have k0:(w.alloc m.box).heap[w.heap.size]?=some m.box:=by show (w.heap.push _)[w.heap.size]?=some _;exact Array.getElem?_push_size
 unfold MV.box MV.cells at hb0 k0
 unfold MV.val MV.cells
 go_enter Tryz.func27,Tryz.ntmps27
 go_upto_region 1 with fail
 generalize hg:w.alloc _=W0 at *
 have q0:W0.heap[w.heap.size]?=some m.box:=k0
 have hm0:=well_any m c W0 (h.later hb0) hf.rs
 unfold MV.val MV.cells at hm0
 unfold MV.box MV.cells at q0
 clear hg k0
 go_wp2_with (refine wpList_load_row (ty:=59) q0 rfl rfl rfl (by kernel_rfl) (by kernel_rfl) ?_;go_simp)
 refine hm0.mono ?_
 rintro e W1 ⟨rfl,hb1⟩
 have q1:=(hb1.block _ (Array.getElem?_eq_some_iff.1 q0).1).trans q0
 have hbel:=hb0.trans (hb1.mono hb0.size)
 clear hm0 q0
 cases hm:wellM m c with
 | false=>
  have HM:Hid (mayMsg m c=false):=hid (by unfold mayMsg;rw[hm];rfl)
  clear hm
  go_wp2_with fail
  go_ret2
  exact⟨[],none,0,2,rfl,Rd.nil _ _,hbel,(fun a ha=>by cases ha),fun h=>(by rw[HM.out] at h;cases h),fun _=>⟨rfl,rfl⟩⟩
 | true=>
  have F:=WellP.of hm
  obtain⟨hk1,hk2⟩:=letters_k F.ls
  have HM:=hid hm
  have hr:=pack_any m c W1 (h.later hbel) hu (by omega) (by omega) (F.may hf)
  unfold MV.val MV.cells at hr
  clear hm F
  go_wp2_with (refine wpList_load_row (ty:=59) q1 rfl rfl rfl (by kernel_rfl) (by kernel_rfl) ?_;go_simp)
  refine hr.mono ?_
  rintro e W2 ⟨ax,cx,rfl,hrd,hb2,hfr⟩
  have hbel2:=hbel.trans (hb2.mono hbel.size)
  have hfr2:∀a,ax=some a→w.heap.size≤a.block:=fun a ha=>Nat.le_trans hbel.size (hfr a ha)
  clear hr hb2 hfr q1
  by_cases hl:8388608<(msgL m c).length
  ·have f1:decide ((8388608:Int)<((msgL m c).length:Int))=true:=decide_eq_true (by omega)
   have HN:Hid (mayMsg m c=false):=hid (by unfold mayMsg;rw[decide_eq_false (by omega)];simp)
   clear hl
   go_wp2_with fail
   go_ret2
   exact⟨[],none,0,2,rfl,Rd.nil _ _,hbel2,(fun a ha=>by cases ha),fun h=>(by rw[HN.out] at h;cases h),fun _=>⟨rfl,rfl⟩⟩
  have f1:decide ((8388608:Int)<((msgL m c).length:Int))=false:=decide_eq_false (by omega)
  have HN:Hid (mayMsg m c=true):=hid (by unfold mayMsg;rw[HM.out,decide_eq_true (by omega)];rfl)
  clear hl
  go_wp2_with fail
  go_ret2
  exact⟨_,ax,cx,0,rfl,hrd,hbel2,hfr2,fun _=>⟨rfl,rfl⟩,fun h=>(by rw[HN.out] at h;cases h)⟩
set_option maxRecDepth 100000 in
theorem mayMsg_any (m:MV)(c:MC)(w:World)(h:MAt w m c)(hu:U64M m c)(hf:FitsM m c):Calls Tryz.prog 31 #[m.val] w (GivesB (mayMsg m c) w):=by
 have hb0:Below w.heap.size w (w.alloc m.box):=(Below.refl _ _).alloc (Nat.le_refl _) _
 have k0:(w.alloc m.box).heap[w.heap.size]?=some m.box:=by show (w.heap.push _)[w.heap.size]?=some _;exact Array.getElem?_push_size
 unfold MV.box MV.cells at hb0 k0
 unfold MV.val MV.cells
 go_enter Tryz.func31,Tryz.ntmps31
 go_upto_region 1 with fail
 generalize hg:w.alloc _=W0 at *
 have hm0:=msgBytes_any m c W0 (h.later hb0) hu hf
 unfold MV.val MV.cells at hm0
 clear hg
 go_wp2_with (refine wpList_load_row (ty:=59) k0 rfl rfl rfl (by kernel_rfl) (by kernel_rfl) ?_;go_simp)
 refine hm0.mono ?_
 rintro e W1 ⟨l,ax,cx,ex,rfl,-,hb1,-,h1,h2⟩
 have hbel:=hb0.trans (hb1.mono hb0.size)
 have he:(ex==0)=mayMsg m c:=by
  cases hm:mayMsg m c with
  | true=>rw[(h1 hm).2];rfl
  | false=>rw[(h2 hm).2];rfl
 clear hm0 k0 h1 h2 hb1
 go_wp2_with fail
 go_ret
 exact⟨rfl,hbel⟩
end Go.Proofs.YtfmmandlmbcncaaGreatDoor.Msg
