/-
  The walks of the package utf and of its reference: what each function answers.
-/
import Derived.Test.YtienfppidmjfpaaRows
import Derived.Test.YtienfppidmjfpaaUp
import Derived.WalkKit
import Derived.WalkSpells
import Derived.WalkLawsBesides
namespace Go.Proofs.Ytienfppidmjfpaa.Utf
open Go.RowKit

theorem ret1 {k : IntKind} {a b : Int} (h : a = b) : Ending.returned (.int k a) = .returned (.int k b) := by rw [h]
theorem retB {a b : Bool} (h : a = b) : Ending.returned (.bool a) = .returned (.bool b) := by rw [h]
theorem ret2 {k l : IntKind} {a a' b b' : Int} (h : a = a') (g : b = b') : Ending.returned (.tuple #[.int k a, .int l b]) = .returned (.tuple #[.int k a', .int l b']) := by rw [h, g]
theorem ret3 {k l m : IntKind} {a a' b b' c c' : Int} (h : a = a') (g : b = b') (i : c = c') : Ending.returned (.tuple #[.int k a, .int l b, .int m c]) = .returned (.tuple #[.int k a', .int l b', .int m c']) := by rw [h, g, i]

set_option maxHeartbeats 400000 in
theorem head_any (c : Int) (w : World) (h0 : 0 ≤ c) (h1 : c < 256) :
    Calls Try.prog 83 #[.int .u8 c] w fun e w' => e = .returned (.tuple #[.int .i32 (headR c), .int .i64 (headN c)]) ∧ w = w' := by
  go_enter Try.func83, Try.ntmps83
  go_wp2
  all_goals
    go_ret2
    exact ⟨ret2 (by unfold headR; repeat (first | rw [if_pos (by omega)] | rw [if_neg (by omega)])) (by unfold headN; repeat (first | rw [if_pos (by omega)] | rw [if_neg (by omega)])), rfl⟩

set_option maxHeartbeats 400000 in
theorem may_any (r : Int) (w : World) :
    Calls Try.prog 79 #[.int .i32 r] w fun e w' => e = .returned (.bool (may r)) ∧ w = w' := by
  go_enter Try.func79, Try.ntmps79
  go_wp2
  all_goals
    go_ret
    refine ⟨retB ?_, rfl⟩
    rw [Bool.eq_iff_iff, may_iff]
    simp
    omega
set_option maxHeartbeats 400000 in
theorem size_any (r : Int) (w : World) :
    Calls Try.prog 72 #[.int .i32 r] w fun e w' => e = .returned (.int .i64 (size r)) ∧ w = w' := by
  cases hm : may r
  · have H : Hid (may r = false) := hm
    go_enter Try.func72, Try.ntmps72
    go_wp2_with (go_at_call 79; refine (may_any _ _).mono ?_; rintro e w' ⟨rfl, rfl⟩)
    go_ret
    exact ⟨ret1 (by unfold size; rw [if_pos H.out]), rfl⟩
  · have H : Hid (may r = true) := hm
    go_enter Try.func72, Try.ntmps72
    go_wp2_with (go_at_call 79; refine (may_any _ _).mono ?_; rintro e w' ⟨rfl, rfl⟩)
    all_goals
      go_ret
      exact ⟨ret1 (by unfold size; rw [if_neg (by rw [H.out]; decide)]; repeat (first | rw [if_pos (by omega)] | rw [if_neg (by omega)])), rfl⟩
end Go.Proofs.Ytienfppidmjfpaa.Utf
