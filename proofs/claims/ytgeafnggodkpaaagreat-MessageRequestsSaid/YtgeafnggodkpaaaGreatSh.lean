/-
  Requests: SameRequest, the program's and the document's; RequestBytes with its error; requests as they come in.
-/
import Derived.Test.YtgeafnggodkpaaaGreatSe
import Derived.Test.YtgeafnggodkpaaaGreatSg
namespace Go.Proofs.YtgeafnggodkpaaaGreat.Msg
open Go.RowKit Go.Lib Go.Proofs.YtgeafnggodkpaaaGreat.Mem Go.Proofs.YtgeafnggodkpaaaGreat.Tlv
open Go.ChangeShapes Go.WideShapes Go.Deep

/-- The same request. -/
def sameReq (r : RV) (c : OC) (r' : RV) (c' : OC) : Bool := decide (r.cl = r'.cl) && decide (r.nu = r'.nu) && sameOp r.op c r'.op c'

set_option maxRecDepth 100000 in
set_option maxHeartbeats 4000000 in
theorem rSameReq_any (r r' : RV) (c c' : OC) (w : World) (h : OpAt w r.op c) (h' : OpAt w r'.op c') :
    Calls Tryz.prog 23 #[r.val, r'.val] w (GivesB (sameReq r c r' c') w) := by
  have hb0 : Below w.heap.size w ((w.alloc r.box).alloc r'.box) := below_two w _ _
  obtain ⟨k1, k2⟩ := two_boxes w r.box r'.box
  have hsame := rSameOp_any r.op r'.op c c' _ (h.later hb0) (h'.later hb0)
  unfold RV.box RV.cells at hb0 k1 k2 hsame
  unfold OV.val at hsame
  unfold RV.val RV.cells
  by_cases e1 : r.cl = r'.cl
  case neg =>
    have f1 : (r.cl == r'.cl) = false := by simp [e1]
    have Hs : Hid (sameReq r c r' c' = false) := Lib.hid (by unfold sameReq; rw [decide_eq_false e1]; simp)
    clear e1 hsame
    go_enter Tryz.func23, Tryz.ntmps23
    go_wp2_with fail
    go_ret
    exact ⟨by rw [Hs.out]; rfl, hb0⟩
  have f1 : (r.cl == r'.cl) = true := by simp [e1]
  by_cases e2 : r.nu = r'.nu
  case neg =>
    have f2 : (r.nu == r'.nu) = false := by simp [e2]
    have Hs : Hid (sameReq r c r' c' = false) := Lib.hid (by unfold sameReq; rw [decide_eq_false e2]; simp)
    clear e1 e2 hsame
    go_enter Tryz.func23, Tryz.ntmps23
    go_wp2_with fail
    go_ret
    exact ⟨by rw [Hs.out]; rfl, hb0⟩
  have f2 : (r.nu == r'.nu) = true := by simp [e2]
  have Hs : Hid (sameReq r c r' c' = sameOp r.op c r'.op c') := Lib.hid (by unfold sameReq; rw [decide_eq_true e1, decide_eq_true e2]; simp)
  clear e1 e2
  go_enter Tryz.func23, Tryz.ntmps23
  go_wp2_with fail
  refine hsame.mono ?_
  rintro e w1 ⟨rfl, hb1⟩
  rw [← Hs.out]
  go_wp2_with fail
  go_ret
  exact ⟨rfl, hb0.trans (hb1.mono hb0.size)⟩

set_option maxRecDepth 100000 in
set_option maxHeartbeats 4000000 in
theorem pSameReq_any (r r' : RV) (c c' : OC) (w : World) (h : OpAt w r.op c) (h' : OpAt w r'.op c') :
    Calls Tryz.prog 22 #[r.val, r'.val] w (GivesB (sameReq r c r' c') w) := by
  have hb0 : Below w.heap.size w ((w.alloc r.box).alloc r'.box) := below_two w _ _
  obtain ⟨k1, k2⟩ := two_boxes w r.box r'.box
  have hsame := sameOp_any r.op r'.op c c' _ (h.later hb0) (h'.later hb0)
  unfold RV.box RV.cells at hb0 k1 k2 hsame
  unfold OV.val at hsame
  unfold RV.val RV.cells
  by_cases e1 : r.cl = r'.cl
  case neg =>
    have f1 : (r.cl == r'.cl) = false := by simp [e1]
    have Hs : Hid (sameReq r c r' c' = false) := Lib.hid (by unfold sameReq; rw [decide_eq_false e1]; simp)
    clear e1 hsame
    go_enter Tryz.func22, Tryz.ntmps22
    go_wp2_with fail
    go_ret
    exact ⟨by rw [Hs.out]; rfl, hb0⟩
  have f1 : (r.cl == r'.cl) = true := by simp [e1]
  by_cases e2 : r.nu = r'.nu
  case neg =>
    have f2 : (r.nu == r'.nu) = false := by simp [e2]
    have Hs : Hid (sameReq r c r' c' = false) := Lib.hid (by unfold sameReq; rw [decide_eq_false e2]; simp)
    clear e1 e2 hsame
    go_enter Tryz.func22, Tryz.ntmps22
    go_wp2_with fail
    go_ret
    exact ⟨by rw [Hs.out]; rfl, hb0⟩
  have f2 : (r.nu == r'.nu) = true := by simp [e2]
  have Hs : Hid (sameReq r c r' c' = sameOp r.op c r'.op c') := Lib.hid (by unfold sameReq; rw [decide_eq_true e1, decide_eq_true e2]; simp)
  clear e1 e2
  go_enter Tryz.func22, Tryz.ntmps22
  go_wp2_with fail
  refine hsame.mono ?_
  rintro e w1 ⟨rfl, hb1⟩
  rw [← Hs.out]
  go_wp2_with fail
  go_ret
  exact ⟨rfl, hb0.trans (hb1.mono hb0.size)⟩

theorem U64R.of {p : RP} (h : FitP p) : U64R p.1 := ⟨h.c0, h.c1, h.n0, h.n1⟩
/-- A request's bytes, or the error. -/
def GivesQB (r : RV) (c : OC) (w : World) (e : Ending) (w' : World) : Prop := ∃ (l : List UInt8) (ax : Option Addr) (cx : Nat) (ex : Int), e = .returned (.tuple #[.slice ax l.length cx, .int .i64 ex]) ∧ Rd w' 1 ax l.length cx (byV l) ∧ Below w.heap.size w w' ∧ (mayOp r.op c = true → l = reqL r (opL r.op c) ∧ ex = 0) ∧ (mayOp r.op c = false → l = [] ∧ ex = 2)
set_option maxRecDepth 100000 in
set_option maxHeartbeats 2000000 in
theorem reqBytesE_any (r : RV) (c : OC) (w : World) (ho : OpAt w r.op c) (hu : U64R r) : Calls Tryz.prog 18 #[r.val] w (GivesQB r c w) := by
  cases hm : mayOp r.op c with
  | true =>
    have hop := opC_all w r.op c ho
    rw [hm, opBy_yes hm] at hop
    refine (reqBytes_yes r c (opL r.op c) w ho hop hu.c0 hu.n0).mono ?_
    rintro e W ⟨ao, cap, rfl, hr, hb, _⟩
    exact ⟨_, ao, cap, 0, rfl, hr, hb, fun _ => ⟨rfl, rfl⟩, fun h => (by rw [hm] at h; cases h)⟩
  | false =>
    have hop := opC_all w r.op c ho
    rw [hm] at hop
    have hb0 : Below w.heap.size w (w.alloc r.box) := (Below.refl _ _).alloc (Nat.le_refl _) _
    have k0 : (w.alloc r.box).heap[w.heap.size]? = some r.box := by show (w.heap.push _)[w.heap.size]? = some _; exact Array.getElem?_push_size
    have HM := Lib.hid hm
    clear hm
    have hc := mayReq_any r c false _ _ (ho.later hb0) hop
    unfold RV.box RV.cells at hb0 k0 hc
    unfold RV.val RV.cells at hc
    unfold RV.val RV.cells
    go_enter Tryz.func18, Tryz.ntmps18
    go_wp2_with fail
    refine hc.mono ?_
    rintro e w1 ⟨rfl, hb1⟩
    go_wp2_with fail
    go_ret2
    exact ⟨[], none, 0, 2, rfl, Rd.nil _ _, hb0.trans (hb1.mono hb0.size), fun h => (by rw [HM.out] at h; cases h), fun _ => ⟨rfl, rfl⟩⟩

section
variable {H : Type} {enc : TypeId × Value → H} {W : World}
set_option maxRecDepth 100000 in
theorem req_open {v : Value} {base : Nat} {d : DataW H} {ps : List MemPlace} (hv : Value.okWide Tryz.prog W .any base 43 v) (h : DataW.Trod enc Tryz.prog W 0 (fun _ => true) true 43 v d ps) : ∃ p : RP, v = p.1.val ∧ OpRd W p.1.op p.2 ∧ FitP p := by
  obtain ⟨cs, rfl, _⟩ := okWide_struct Tryz.underlying43 hv
  obtain ⟨fuel, hf⟩ := h
  have hL := req_leaves fuel _ _ hf
  obtain ⟨p, ⟨hr, hu⟩, hc⟩ := req_dec _ hL
  refine ⟨p, ?_, hr, hu⟩
  show Value.agg cs = .agg _
  congr 1
  exact (Array.toList_inj.1 hc).symm
end
end Go.Proofs.YtgeafnggodkpaaaGreat.Msg
