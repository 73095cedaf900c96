/-
  The walk of utf.Next: what it answers of a text.
-/
import Derived.Test.YtienfppidmjfpaaUw
import Derived.Lib.Hide
namespace Go.Proofs.Ytienfppidmjfpaa.Utf
open Go.RowKit

theorem by_at (s : ByteArray) (i : Nat) (h : i < s.size) : ((s[i].toNat : Nat) : Int) = bt s.data.toList i := by
  unfold bt
  rw [List.getD_eq_getElem?_getD, List.getElem?_eq_getElem (by simpa using h)]
  rfl
theorem len_data (s : ByteArray) : s.data.toList.length = s.size := by simp
/-- What the loop of Next has come to behind k rounds. -/
def acc (l : List UInt8) : Nat → Int
  | 0 => headR (bt l 0)
  | k + 1 => acc l k * 64 + bt l (k + 1) % 64
def Jmp (s : ByteArray) (w : World) (a' : Act) (w' : World) : Prop := w = w' ∧ (nx s.data.toList).2 = 0 ∧ ∃ u1 u2 u3 u4 u5 u6 u7 u8 u9 u10 u11 u12 u13 u14 u15 u16 u17 u18 u19 u20 u21 u22 u23 u24 u25 u26 u27 u28 u29 u30 u31 u32 u33 u34 u35 u36 u37 u38 u39 u40 u41 u42 u43 u44 u45 u46 u47 u48 u49 u50 u51 : Value, a' = { tmps := #[Value.string s, u1, u2, u3, u4, u5, u6, u7, u8, u9, u10, u11, u12, u13, u14, u15, u16, u17, u18, u19, u20, u21, u22, u23, u24, u25, u26, u27, u28, u29, u30, u31, u32, u33, u34, u35, u36, u37, u38, u39, u40, u41, u42, u43, u44, u45, u46, u47, u48, u49, u50, u51], defers := [] }
/-- The three ways to the end, in plain words. -/
theorem nx_bad (l : List UInt8) (h : l = [] ∨ headN (bt l 0) < 0 ∨ (l.length : Int) ≤ headN (bt l 0)) : (nx l).2 = 0 := by
  have l0 := bt_lo l 0
  have hk : l.length = 0 ∨ headN (bt l 0) < 0 ∨ (l.length : Int) ≤ headN (bt l 0) := by
    rcases h with h | h | h
    · exact .inl (by rw [h]; rfl)
    · exact .inr (.inl h)
    · exact .inr (.inr h)
  unfold nx
  unfold headN at hk
  repeat' split at hk
  all_goals
    repeat (first | rw [if_neg (by omega)])
theorem nx_cont (l : List UInt8) (k : Nat) (hk : (k : Int) < headN (bt l 0)) (h : bt l (k + 1) / 64 ≠ 2) : (nx l).2 = 0 := by
  have l0 := bt_lo l 0
  unfold headN at hk
  unfold nx
  repeat' split at hk
  · omega
  · obtain rfl : k = 0 := by omega
    have h' : bt l 1 / 64 ≠ 2 := h
    repeat (first | rw [if_neg (by omega)])
  · rcases (by omega : k = 0 ∨ k = 1) with rfl | rfl
    · have h' : bt l 1 / 64 ≠ 2 := h
      repeat (first | rw [if_neg (by omega)])
    · have h' : bt l 2 / 64 ≠ 2 := h
      repeat (first | rw [if_neg (by omega)])
  · rcases (by omega : k = 0 ∨ k = 1 ∨ k = 2) with rfl | rfl | rfl
    · have h' : bt l 1 / 64 ≠ 2 := h
      repeat (first | rw [if_neg (by omega)])
    · have h' : bt l 2 / 64 ≠ 2 := h
      repeat (first | rw [if_neg (by omega)])
    · have h' : bt l 3 / 64 ≠ 2 := h
      repeat (first | rw [if_neg (by omega)])
  · omega
theorem nx_end (l : List UInt8) (n : Nat) (hn : headN (bt l 0) = (n : Int)) (hl : n < l.length) (hc : ∀ j, j < n → bt l (j + 1) / 64 = 2) :
    nx l = if size (acc l n) = (n : Int) + 1 then (acc l n, n + 1) else (0, 0) := by
  have l0 := bt_lo l 0; have g0 := bt_hi l 0; have l1 := bt_lo l 1; have g1 := bt_hi l 1
  have l2 := bt_lo l 2; have g2 := bt_hi l 2; have l3 := bt_lo l 3; have g3 := bt_hi l 3
  have hsz : ∀ r : Int, size r = if ¬ (0 ≤ r ∧ r ≤ 1114111 ∧ (r < 55296 ∨ 57343 < r)) then 0 else if r < 128 then 1 else if r < 2048 then 2 else if r < 65536 then 3 else 4 := by
    intro r; unfold size
    by_cases h : may r = false
    · rw [if_pos h, if_pos ((may_no r).1 h)]
    · rw [if_neg h, if_neg (fun hh => h ((may_no r).2 hh))]
  unfold headN at hn
  have h3 : v3 l = (bt l 0 % 16 * 64 + bt l 1 % 64) * 64 + bt l 2 % 64 := rfl
  have h4 : v4 l = ((bt l 0 % 8 * 64 + bt l 1 % 64) * 64 + bt l 2 % 64) * 64 + bt l 3 % 64 := rfl
  unfold nx
  by_cases c1 : bt l 0 < 128
  · rw [if_pos c1] at hn; obtain rfl : n = 0 := by omega
    have ha : acc l 0 = bt l 0 := by unfold acc headR; rw [if_pos c1]
    have hs : size (bt l 0) = 1 := by rw [hsz, if_neg (by omega), if_pos c1]
    rw [if_pos ⟨by omega, c1⟩, ha, hs, if_pos (by omega)]
  rw [if_neg c1] at hn
  by_cases c2 : 194 ≤ bt l 0 ∧ bt l 0 < 224
  · rw [if_pos c2] at hn; obtain rfl : n = 1 := by omega
    have ha : acc l 1 = bt l 0 % 32 * 64 + bt l 1 % 64 := by unfold acc acc headR; rw [if_neg c1, if_pos c2]
    have k0 : bt l 1 / 64 = 2 := hc 0 (by omega)
    have hs : size (bt l 0 % 32 * 64 + bt l 1 % 64) = 2 := by rw [hsz, if_neg (by omega), if_neg (by omega), if_pos (by omega)]
    rw [if_neg (by omega), if_pos ⟨by omega, by omega, by omega, by omega⟩, ha, hs, if_pos (by omega)]
  rw [if_neg c2] at hn
  by_cases c3 : 224 ≤ bt l 0 ∧ bt l 0 < 240
  · rw [if_pos c3] at hn; obtain rfl : n = 2 := by omega
    have ha : acc l 2 = v3 l := by unfold acc acc acc headR v3; rw [if_neg c1, if_neg c2, if_pos c3]
    have k0 : bt l 1 / 64 = 2 := hc 0 (by omega); have k1 : bt l 2 / 64 = 2 := hc 1 (by omega)
    rw [if_neg (by omega), if_neg (by omega), ha]
    by_cases hv : 2048 ≤ v3 l ∧ (v3 l < 55296 ∨ 57343 < v3 l)
    · have hs : size (v3 l) = 3 := by rw [hsz, if_neg (by omega), if_neg (by omega), if_neg (by omega), if_pos (by omega)]
      rw [if_pos ⟨by omega, by omega, by omega, by omega, by omega, hv.1, hv.2⟩, hs, if_pos (by omega)]
    · have hs : size (v3 l) ≠ (2 : Nat) + 1 := by
        rw [hsz]; repeat' split
        all_goals omega
      rw [if_neg (by omega), if_neg (by omega), if_neg hs]
  rw [if_neg c3] at hn
  by_cases c4 : 240 ≤ bt l 0 ∧ bt l 0 < 245
  · rw [if_pos c4] at hn; obtain rfl : n = 3 := by omega
    have ha : acc l 3 = v4 l := by unfold acc acc acc acc headR v4; rw [if_neg c1, if_neg c2, if_neg c3, if_pos c4]
    have k0 : bt l 1 / 64 = 2 := hc 0 (by omega); have k1 : bt l 2 / 64 = 2 := hc 1 (by omega); have k2 : bt l 3 / 64 = 2 := hc 2 (by omega)
    rw [if_neg (by omega), if_neg (by omega), if_neg (by omega), ha]
    by_cases hv : 65536 ≤ v4 l ∧ v4 l ≤ 1114111
    · have hs : size (v4 l) = 4 := by rw [hsz, if_neg (by omega), if_neg (by omega), if_neg (by omega), if_neg (by omega)]
      rw [if_pos ⟨by omega, by omega, by omega, by omega, by omega, by omega, hv.1, hv.2⟩, hs, if_pos (by omega)]
    · have hs : size (v4 l) ≠ (3 : Nat) + 1 := by
        rw [hsz]; repeat' split
        all_goals omega
      rw [if_neg (by omega), if_neg hs]
  · rw [if_neg c4] at hn; omega
theorem acc_bd (l : List UInt8) : ∀ k, k ≤ 3 → 0 ≤ acc l k ∧ acc l k < 256 * 64 ^ k
  | 0, _ => by
    have := bt_lo l 0; have := bt_hi l 0
    unfold acc headR; repeat' split
    all_goals omega
  | k + 1, h => by
    have ih := acc_bd l k (by omega)
    have := bt_lo l (k + 1); have := bt_hi l (k + 1)
    rw [acc, Int.pow_succ]; omega

end Go.Proofs.Ytienfppidmjfpaa.Utf
