/-
  The walks of Valid, Decode, and of the reference's Decode and Same.
-/
import Derived.Test.YtienfppidmjfpaaUt
namespace Go.Proofs.Ytienfppidmjfpaa.Utf
open Go.RowKit Go.Shelf Go.Proofs.Ytienfppidmjfpaa.Mem
attribute [local go_sem] Oper.semAt_some

set_option maxHeartbeats 400000 in
theorem valid_any (s : ByteArray) (w : World) (hs : s.size ≤ 1099511627776) :
    Calls Try.prog 56 #[.string s] w fun e w' => e = .returned (.bool (decide (wh s.data.toList = s.size))) ∧ Below w.heap.size w w' := by
  go_enter Try.func56, Try.ntmps56
  go_wp2_with (go_at_call 66; refine (where_any s _ hs).mono ?_; rintro e w' ⟨rfl, hb⟩)
  go_ret
  exact ⟨retB (by rw [Bool.eq_iff_iff]; simp; omega), hb⟩

def fsts (pre : List PR) : List Int := pre.map fun x => x.1.2
theorem fsts_all (rs : List Int) (xs : List PR) (h : IsPairs rs rs.length xs) : fsts xs = rs := by
  apply List.ext_getElem?
  intro j
  by_cases hj : j < rs.length
  · obtain ⟨x, hx, hx2⟩ := h.2 j hj
    rw [fsts, List.getElem?_map, hx, List.getElem?_eq_getElem hj]
    simp [hx2, List.getElem?_eq_getElem hj]
  · have hl : (fsts xs).length = rs.length := by rw [fsts, List.length_map]; exact h.1
    rw [List.getElem?_eq_none (by omega), List.getElem?_eq_none (by omega)]

theorem fsts_snoc (pre : List PR) (x : PR) : fsts (pre ++ [x]) = fsts pre ++ [x.1.2] := by simp [fsts]
theorem ruV_snoc (l : List Int) (r : Int) : ruV (l ++ [r]) = ruV l ++ [.int .i32 r] := by simp [ruV]
theorem keepsB_box {b : Nat} {W W' : World} {t : TypeId} {v : Value} (h : Boxed W b t v) (h' : Boxed W' b t v) : KeepsB b W W' := Eq.trans h' (Eq.symm h)
/-- A slice of runes is answered, and no error. -/
def GivesR (w : World) (l : List Int) (e : Ending) (w' : World) : Prop := ∃ ao cap, e = .returned (.tuple #[.slice ao l.length cap, .int .i64 0]) ∧ Rd w' 1 ao l.length cap (ruV l) ∧ Below w.heap.size w w'

theorem nx_take4 (l : List UInt8) : nx (l.take 4) = nx l := by
  by_cases h : (nx l).2 = 0
  · rw [nx_zero l h]
    apply nx_zero
    by_cases h2 : (nx (l.take 4)).2 = 0
    · exact h2
    · obtain ⟨a, b, c, d⟩ := nx_some (l.take 4) (nx (l.take 4)).1 (nx (l.take 4)).2 rfl h2
      have hl : (nx (l.take 4)).2 ≤ 4 := nx_le4 _
      have := nx_of_take l (nx (l.take 4)).1 (nx (l.take 4)).2 a (by rw [← d, List.take_take, Nat.min_eq_left hl]) (by rw [List.length_take] at c; omega)
      rw [this] at h; exact absurd h h2
  · obtain ⟨a, b, c, d⟩ := nx_some l (nx l).1 (nx l).2 rfl h
    have hl : (nx l).2 ≤ 4 := nx_le4 _
    exact nx_of_take (l.take 4) (nx l).1 (nx l).2 a (by rw [List.take_take, Nat.min_eq_left hl, d]) (by rw [List.length_take]; omega)
end Go.Proofs.Ytienfppidmjfpaa.Utf
