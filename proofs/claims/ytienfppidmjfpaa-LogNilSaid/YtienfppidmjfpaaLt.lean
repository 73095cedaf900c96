/-
  Logs that are not there; the walk of LogNil.
-/
import Derived.Test.YtienfppidmjfpaaLs
namespace Go.Proofs.Ytienfppidmjfpaa.Msg
open Go.RowKit Go.Lib Go.Proofs.Ytienfppidmjfpaa.Mem Go.Proofs.Ytienfppidmjfpaa.Tlv

/-- A pointer to a log, or nil. -/
def ptr (p : Option Nat) : Value := .pointer (p.map fun g => ⟨g, 0, none⟩)
/-- None is there: nil, or a zero one. -/
def Gone (p : Option Nat) (W : World) : Prop := ∀ g, p = some g → LogR false g 0 0 none 0 none 0 [] [] W
theorem Gone.later {p : Option Nat} {W W' : World} (h : Gone p W) (hb : Below W.heap.size W W') : Gone p W' := fun g hg => (h g hg).later hb

theorem is_gone (p : Option Nat) (w : World) (h : Gone p w) : Calls Try.prog 20 #[ptr p] w fun e w' => e = .returned (.bool false) ∧ w' = w := by
  cases p with
  | none => exact is_nil w
  | some g => exact is_any false g 0 0 none 0 none 0 [] [] w (h g rfl)
theorem base_gone (p : Option Nat) (w : World) (h : Gone p w) : Calls Try.prog 13 #[ptr p] w fun e w' => e = .returned (.int .u64 0) ∧ w' = w := by
  cases p with
  | none => exact base_nil w
  | some g => exact base_any false g 0 0 none 0 none 0 [] [] w (h g rfl)
theorem len_gone (p : Option Nat) (w : World) (h : Gone p w) : Calls Try.prog 8 #[ptr p] w fun e w' => e = .returned (.int .i64 0) ∧ w' = w := by
  cases p with
  | none => exact len_nil w
  | some g => exact len_any false g 0 0 none 0 none 0 [] [] w (h g rfl)
theorem size_gone (p : Option Nat) (w : World) (h : Gone p w) : Calls Try.prog 15 #[ptr p] w fun e w' => e = .returned (.int .i64 0) ∧ w' = w := by
  cases p with
  | none => exact size_nil w
  | some g => exact size_any false g 0 0 none 0 none 0 [] [] w (h g rfl) (by decide) (fun z hz => by cases hz)
theorem end_gone (p : Option Nat) (w : World) (h : Gone p w) : Calls Try.prog 14 #[ptr p] w fun e w' => e = .returned (.int .u64 0) ∧ ∃ q, w' = w.drewN q := by
  cases p with
  | none => exact end_nil w
  | some g => exact end_any false g 0 0 none 0 none 0 [] [] w (h g rfl) (by decide) (by decide) (by decide)
theorem may_gone (p : Option Nat) (x : Int) (w : World) (h : Gone p w) : Calls Try.prog 24 #[ptr p, .int .u64 x] w fun e w' => e = .returned (.int .i64 1) ∧ w' = w := by
  go_enter Try.func24, Try.ntmps24
  go_wp2_with fail
  refine (is_gone p w h).mono ?_
  rintro e w1 ⟨rfl, rfl⟩
  go_wp2_with fail
  go_ret
  exact ⟨rfl, rfl⟩
theorem cut_gone (p : Option Nat) (x : Int) (w : World) (h : Gone p w) : Calls Try.prog 11 #[ptr p, .int .u64 x] w fun e w' => e = .returned (.int .i64 1) ∧ w' = w := by
  go_enter Try.func11, Try.ntmps11
  go_wp2_with fail
  refine (may_gone p x w h).mono ?_
  rintro e w1 ⟨rfl, rfl⟩
  go_wp2_with fail
  go_ret
  exact ⟨rfl, rfl⟩
theorem drop_gone (p : Option Nat) (x : Int) (w : World) (h : Gone p w) : Calls Try.prog 12 #[ptr p, .int .u64 x] w fun e w' => e = .returned (.int .i64 1) ∧ w' = w := by
  go_enter Try.func12, Try.ntmps12
  go_wp2_with fail
  refine (may_gone p x w h).mono ?_
  rintro e w1 ⟨rfl, rfl⟩
  go_wp2_with fail
  go_ret
  exact ⟨rfl, rfl⟩
theorem from_gone (p : Option Nat) (x : Int) (w : World) (h : Gone p w) : Calls Try.prog 10 #[ptr p, .int .u64 x] w fun e w' => e = .returned (.tuple #[.slice none 0 0, .int .i64 1]) ∧ w' = w := by
  go_enter Try.func10, Try.ntmps10
  go_wp2_with fail
  refine (may_gone p x w h).mono ?_
  rintro e w1 ⟨rfl, rfl⟩
  go_wp2_with fail
  go_ret2
  exact ⟨rfl, rfl⟩
theorem copy_gone (p : Option Nat) (w : World) (h : Gone p w) : Calls Try.prog 17 #[ptr p] w fun e w' => e = .returned (.pointer none) ∧ w' = w := by
  go_enter Try.func17, Try.ntmps17
  go_wp2_with fail
  refine (is_gone p w h).mono ?_
  rintro e w1 ⟨rfl, rfl⟩
  go_wp2_with fail
  go_ret
  exact ⟨rfl, rfl⟩
theorem begins_gone (p : Option Nat) (v : Value) (w : World) (h : Gone p w) : Calls Try.prog 16 #[ptr p, v] w fun e w' => e = .returned (.bool false) ∧ w' = w := by
  go_enter Try.func16, Try.ntmps16
  go_wp2_with fail
  refine (is_gone p w h).mono ?_
  rintro e w1 ⟨rfl, rfl⟩
  go_wp2_with fail
  go_ret
  exact ⟨rfl, rfl⟩
theorem begins_of_gone (p : Option Nat) (g : Nat) (w : World) (h : Gone p w) (hg : LogR true g 0 0 none 0 none 0 [] [] w) : Calls Try.prog 16 #[.pointer (some ⟨g, 0, none⟩), ptr p] w fun e w' => e = .returned (.bool false) ∧ w' = w := by
  go_enter Try.func16, Try.ntmps16
  go_wp2_with fail
  refine (is_any true g 0 0 none 0 none 0 [] [] w hg).mono ?_
  rintro e w1 ⟨rfl, rfl⟩
  go_wp2_with fail
  refine (is_gone p w1 h).mono ?_
  rintro e w2 ⟨rfl, rfl⟩
  go_wp2_with fail
  go_ret
  exact ⟨rfl, rfl⟩
set_option maxRecDepth 100000 in
theorem append_gone (p : Option Nat) (r : RV) (w : World) (h : Gone p w) : Calls Try.prog 7 #[ptr p, r.val] w fun e w' => e = .returned (.tuple #[.int .u64 0, .int .i64 1]) ∧ Below w.heap.size w w' := by
  unfold RV.val RV.cells
  go_enter Try.func7, Try.ntmps7
  go_wp2_with fail
  generalize hg : w.alloc _ = W0
  have hbel : Below w.heap.size w W0 := by rw [← hg]; exact (Below.refl _ _).alloc (Nat.le_refl _) _
  clear hg
  refine (is_gone p W0 (h.later hbel)).mono ?_
  rintro e w1 ⟨rfl, rfl⟩
  go_wp2_with fail
  go_ret2
  exact ⟨rfl, hbel⟩
set_option maxRecDepth 100000 in
theorem at_gone (p : Option Nat) (x : Int) (w : World) (h : Gone p w) : Calls Try.prog 9 #[ptr p, .int .u64 x] w fun e w' => e = .returned (.tuple #[zeroR.val, .int .i64 1]) ∧ Below w.heap.size w w' := by
  go_enter Try.func9, Try.ntmps9
  go_wp2_with fail
  generalize hg : w.alloc _ = W0
  have e : w.alloc zeroR.box = W0 := by simp only [RV.box, RV.cells, zeroR, zeroV]; exact hg
  have hbel : Below w.heap.size w W0 := by rw [← e]; exact (Below.refl _ _).alloc (Nat.le_refl _) _
  have k1 : W0.heap[w.heap.size]? = some zeroR.box := by rw [← e]; show (w.heap.push _)[w.heap.size]? = some _; exact Array.getElem?_push_size
  clear hg e
  refine (is_gone p W0 (h.later hbel)).mono ?_
  rintro e w1 ⟨rfl, rfl⟩
  obtain ⟨e0, e1, e2, e3, e4, e5, e6, e7, e8, e9⟩ := rbox_all k1
  go_wp2_with fail
  have hF : (setReq w1 w.heap.size zeroR).heap[w.heap.size]? = some zeroR.box := setReq_at k1
  exact bodyPost_ret (w := setReq w1 w.heap.size zeroR) (results_req2 (i := 4) (j := 5) rfl rfl rfl hF) rfl ⟨rfl, setReq_below hbel (Nat.le_refl _)⟩
theorem of_arg (w : World) : Calls Try.prog 18 #[.int .u64 4611686018427387905, .slice none 0 0] w fun e w' => e = .returned (.tuple #[.pointer none, .int .i64 2]) ∧ w' = w := by
  go_enter Try.func18, Try.ntmps18
  go_wp2_with fail
  go_ret2
  exact ⟨rfl, rfl⟩
end Go.Proofs.Ytienfppidmjfpaa.Msg
