/-
  The walk of the reference's Next.
-/
import Derived.Test.YtienfppidmjfpaaUf
import Derived.Deep.QuietTactic
import Derived.BigQuiet
import Derived.Deep.RegionLaw
namespace Go.Proofs.Ytienfppidmjfpaa.Utf
open Go.RowKit Go.Proofs.Ytienfppidmjfpaa.Mem
attribute [local go_sem ↓] Go.wp_at_zero Go.wp_at_succ

def md (n : Nat) : Int := if n = 2 then 32 else if n = 3 then 16 else if n = 4 then 8 else 1
def cj (l : List UInt8) (n j : Nat) : Int := if j = 0 then (if 1 < n then bt l 0 % md n else bt l 0) else bt l j % 64
def rv (l : List UInt8) (n : Nat) : Nat → Int
  | 0 => 0
  | j + 1 => 64 * rv l n j + cj l n j
theorem cj_bd (l : List UInt8) (n j : Nat) : 0 ≤ cj l n j ∧ cj l n j < 256 := by
  have := bt_lo l 0; have := bt_hi l 0; have := bt_lo l j; have := bt_hi l j
  unfold cj md; repeat' split
  all_goals omega
theorem cj_bd2 (l : List UInt8) (n j : Nat) (h : 0 < j) : cj l n j < 64 := by
  have := bt_lo l j; have := bt_hi l j
  unfold cj; rw [if_neg (by omega)]; omega
theorem rv_bd (l : List UInt8) (n : Nat) : ∀ j, j ≤ 4 → 0 ≤ rv l n j ∧ rv l n j < 8 * 64 ^ j
  | 0, _ => ⟨Int.le_refl _, by rw [rv]; decide⟩
  | j + 1, h => by
    have ih := rv_bd l n j (by omega)
    have hc := cj_bd l n j
    rw [rv, Int.pow_succ]
    by_cases hj : j = 0
    · subst hj
      simp only [rv] at ih ⊢; omega
    · have := cj_bd2 l n j (by omega)
      omega
/-- Does a rune of n bytes stand at the front? -/
def found (l : List UInt8) (n : Nat) : Prop := may (rv l n n) = true ∧ enc (rv l n n) = l.take n
theorem rv_enc (l : List UInt8) (r : Int) (n : Nat) (hm : may r = true) (he : l.take n = enc r) (hn : n = (enc r).length) (hnl : n ≤ l.length) : rv l n n = r := by
  have hb := nums_bd r hm
  have h' := hm
  rw [may_iff] at h'; obtain ⟨h0, h1, h2⟩ := h'
  rw [enc_len] at hn
  have hB : ∀ i, i < (nums r).length → bt l i = (nums r).getD i 0 := fun i hi => by
    have h1 : l = enc r ++ l.drop n := by rw [← he, List.take_append_drop]
    rw [h1, bt_app _ _ _ (by rw [enc_len]; exact hi), bt_enc r i hi hb]
  have hl := nums_len r
  by_cases c1 : r ≤ 127
  · have hn2 : nums r = [r] := by unfold nums; rw [if_pos c1]
    rw [hn2] at hB hn
    have b0 := hB 0 (by simp); simp at b0 hn; subst hn
    simp [rv, cj, b0]
  by_cases c2 : r ≤ 2047
  · have hn2 : nums r = [192 + r / 64, 128 + r % 64] := by unfold nums; rw [if_neg c1, if_pos c2]
    rw [hn2] at hB hn
    have b0 := hB 0 (by simp); have b1 := hB 1 (by simp); simp at b0 b1 hn; subst hn
    simp [rv, cj, md, b0, b1]; omega
  by_cases c3 : r ≤ 65535
  · have hn2 : nums r = [224 + r / 4096, 128 + r / 64 % 64, 128 + r % 64] := by unfold nums; rw [if_neg c1, if_neg c2, if_pos c3]
    rw [hn2] at hB hn
    have b0 := hB 0 (by simp); have b1 := hB 1 (by simp); have b2 := hB 2 (by simp); simp at b0 b1 b2 hn; subst hn
    simp [rv, cj, md, b0, b1, b2]; omega
  · have hn2 : nums r = [240 + r / 262144, 128 + r / 4096 % 64, 128 + r / 64 % 64, 128 + r % 64] := by unfold nums; rw [if_neg c1, if_neg c2, if_neg c3]
    rw [hn2] at hB hn
    have b0 := hB 0 (by simp); have b1 := hB 1 (by simp); have b2 := hB 2 (by simp); have b3 := hB 3 (by simp); simp at b0 b1 b2 b3 hn; subst hn
    simp [rv, cj, md, b0, b1, b2, b3]; omega
theorem nx_found (l : List UInt8) (n : Nat) (h : found l n) (hn : n ≤ l.length) : nx l = (rv l n n, n) := nx_of_take l _ n h.1 h.2 hn
theorem nx_lost (l : List UInt8) (h : ∀ n, 1 ≤ n → n ≤ 4 → n ≤ l.length → ¬ found l n) : nx l = (0, 0) := by
  apply nx_zero
  by_cases h0 : (nx l).2 = 0
  · exact h0
  · obtain ⟨a, b, c, d⟩ := nx_some l (nx l).1 (nx l).2 rfl h0
    have hr := rv_enc l (nx l).1 (nx l).2 a d b c
    exact absurd ⟨by rw [hr]; exact a, by rw [hr]; exact d.symm⟩ (h (nx l).2 (by omega) (nx_le4 l) c)

theorem ext_take (s : ByteArray) (i : Nat) {l : List UInt8} (h : l = (s.extract 0 i).toList) : l = s.data.toList.take i := by
  rw [h, ByteArray.toList_eq]; simp [ByteArray.extract, ByteArray.copySlice]
theorem ext_take' (s : ByteArray) (i : Nat) {l : List UInt8} (h : l = s.data.toList.take i) : l = (s.extract 0 i).toList := by
  rw [h, ByteArray.toList_eq]; simp [ByteArray.extract, ByteArray.copySlice]
end Go.Proofs.Ytienfppidmjfpaa.Utf
