/-
  Plain facts: texts of runes stand, byte by byte, as their runes do; behind a rune's beginning no rune begins.
-/
import Derived.Test.YtienfppidmjfpaaUf
namespace Go.Proofs.Ytienfppidmjfpaa.Utf
open Go.RowKit

def ltL : List Int → List Int → Bool
  | _, [] => false
  | [], _ :: _ => true
  | a :: x, b :: y => decide (a < b) || (decide (a = b) && ltL x y)

theorem ofN_lt (x y : Int) (h0 : 0 ≤ x) (h1 : x < 256) (h2 : 0 ≤ y) (h3 : y < 256) : decide (ofN x < ofN y) = decide (x < y) := by
  have a := ofN_toNat x h0 h1; have b := ofN_toNat y h2 h3
  rw [decide_eq_decide, UInt8.lt_iff_toNat_lt]; omega
theorem ofN_eq' (x y : Int) (h0 : 0 ≤ x) (h1 : x < 256) (h2 : 0 ≤ y) (h3 : y < 256) : (ofN x == ofN y) = decide (x = y) := by
  have a := ofN_toNat x h0 h1; have b := ofN_toNat y h2 h3
  rw [Bool.eq_iff_iff, beq_iff_eq, decide_eq_true_iff]
  constructor
  · intro h; rw [← a, ← b, h]
  · intro h; rw [h]
/-- One byte ahead of others. -/
theorem less_cons (x y : Int) (X Y : List UInt8) (h0 : 0 ≤ x ∧ x < 256) (h2 : 0 ≤ y ∧ y < 256) : Op.bytesLess (ofN x :: X) (ofN y :: Y) = (decide (x < y) || (decide (x = y) && Op.bytesLess X Y)) := by
  have e1 := ofN_lt x y h0.1 h0.2 h2.1 h2.2
  have e2 := ofN_eq' x y h0.1 h0.2 h2.1 h2.2
  rw [Op.bytesLess, e2]
  simp only [← e1]
def numsLess : List Int → List Int → Bool
  | x :: X, y :: Y => decide (x < y) || (decide (x = y) && numsLess X Y)
  | _, _ => false
/-- Of lists neither of which begins the other it is decided there. -/
def Apart : List Int → List Int → Prop
  | x :: X, y :: Y => x ≠ y ∨ (x = y ∧ Apart X Y)
  | _, _ => False
theorem less_apart : ∀ (c d : List Int) (X Y : List UInt8), (∀ n ∈ c, 0 ≤ n ∧ n < 256) → (∀ n ∈ d, 0 ≤ n ∧ n < 256) → Apart c d → Op.bytesLess (c.map ofN ++ X) (d.map ofN ++ Y) = numsLess c d
  | x :: c, y :: d, X, Y, hc, hd, h => by
    simp only [List.map_cons, List.cons_append]
    rw [less_cons x y _ _ (hc x (by simp)) (hd y (by simp)), numsLess]
    rcases h with h | ⟨rfl, h⟩
    · simp [h]
    · rw [less_apart c d X Y (fun n hn => hc n (by simp [hn])) (fun n hn => hd n (by simp [hn])) h]
  | [], [], _, _, _, _, h => h.elim
  | [], _ :: _, _, _, _, _, h => h.elim
  | _ :: _, [], _, _, _, _, h => h.elim
theorem less_same (c : List UInt8) (X Y : List UInt8) : Op.bytesLess (c ++ X) (c ++ Y) = Op.bytesLess X Y := by
  induction c with
  | nil => rfl
  | cons a c ih => simp [Op.bytesLess, ih]
theorem apart_nums (r s : Int) (hr : may r = true) (hs : may s = true) (h : r ≠ s) : Apart (nums r) (nums s) ∧ numsLess (nums r) (nums s) = decide (r < s) := by
  rw [may_iff] at hr hs
  unfold nums
  repeat' split
  all_goals
    simp only [Apart, numsLess, and_false, or_false]
  all_goals
    refine ⟨by omega, ?_⟩
    rw [Bool.eq_iff_iff]
    simp only [Bool.or_eq_true, Bool.and_eq_true, decide_eq_true_eq, Bool.false_eq_true, and_false, or_false]
    try omega
theorem less_enc (r s : Int) (X Y : List UInt8) (hr : may r = true) (hs : may s = true) : Op.bytesLess (enc r ++ X) (enc s ++ Y) = (decide (r < s) || (decide (r = s) && Op.bytesLess X Y)) := by
  by_cases h : r = s
  · subst h; rw [less_same]; simp
  · have := apart_nums r s hr hs h
    rw [enc, enc, less_apart _ _ _ _ (nums_bd r hr) (nums_bd s hs) this.1, this.2]; simp [h]
theorem less_all : ∀ (a b : List Int), allMay a → allMay b → Op.bytesLess (encAll a) (encAll b) = ltL a b
  | [], [], _, _ => rfl
  | [], s :: b, _, hb => by
    rw [encAll_cons, ltL]
    have := enc_pos s
    cases h : enc s with
    | nil => rw [h] at this; simp at this
    | cons x X => simp [encAll_nil, Op.bytesLess]
  | r :: a, [], _, _ => by simp [encAll_nil, ltL, Op.bytesLess]
  | r :: a, s :: b, ha, hb => by
    rw [encAll_cons, encAll_cons, less_enc r s _ _ (ha r (by simp)) (hb s (by simp)), ltL, less_all a b (fun x hx => ha x (by simp [hx])) (fun x hx => hb x (by simp [hx]))]
theorem enc_inj : ∀ (a b : List Int), allMay a → allMay b → encAll a = encAll b → a = b
  | [], [], _, _, _ => rfl
  | [], s :: b, _, _, h => by
    have := enc_pos s
    have h2 := congrArg List.length h
    rw [encAll_cons, List.length_append, encAll_nil, List.length_nil] at h2; omega
  | r :: a, [], _, _, h => by
    have := enc_pos r
    have h2 := congrArg List.length h
    rw [encAll_cons, List.length_append, encAll_nil, List.length_nil] at h2; omega
  | r :: a, s :: b, ha, hb, h => by
    rw [encAll_cons, encAll_cons] at h
    have h1 := nx_enc r (encAll a) (ha r (by simp))
    have h2 := nx_enc s (encAll b) (hb s (by simp))
    rw [h, h2] at h1
    have e := (Prod.mk.inj h1).1
    subst e
    have h3 := List.append_cancel_left h
    rw [enc_inj a b (fun x hx => ha x (by simp [hx])) (fun x hx => hb x (by simp [hx])) h3]

/-- Lists that begin alike, up to a place. -/
theorem ltL_take : ∀ (k : Nat) (a b : List Int), a.take k = b.take k → k ≤ a.length → k ≤ b.length → ltL a b = ltL (a.drop k) (b.drop k) ∧ (a = b ↔ a.drop k = b.drop k)
  | 0, a, b, _, _, _ => by simp
  | k + 1, [], b, _, h, _ => by simp at h
  | k + 1, x :: a, [], _, _, h => by simp at h
  | k + 1, x :: a, y :: b, ht, ha, hb => by
    simp only [List.take_succ_cons, List.cons.injEq] at ht
    obtain ⟨rfl, ht⟩ := ht
    have ih := ltL_take k a b ht (by simpa using ha) (by simpa using hb)
    constructor
    · rw [ltL]; simpa using ih.1
    · simpa using ih.2
theorem drop_at (l : List Int) (k : Nat) (h : k < l.length) : l.drop k = (l[k]?.getD 0) :: l.drop (k + 1) := by
  rw [List.drop_eq_getElem_cons h, List.getElem?_eq_getElem h]; rfl
theorem ltL_end (k : Nat) (a b : List Int) (ht : a.take k = b.take k) (ha : k = a.length) (hb : k ≤ b.length) : ltL a b = decide (k < b.length) ∧ (a = b ↔ k = b.length) := by
  have h := ltL_take k a b ht (by omega) hb
  have hd : a.drop k = [] := List.drop_eq_nil_of_le (by omega)
  rw [hd] at h
  by_cases hk : k < b.length
  · rw [drop_at b k hk] at h
    rw [h.1, ltL]
    exact ⟨by simp [hk], by rw [h.2]; simp; omega⟩
  · have hd2 : b.drop k = [] := List.drop_eq_nil_of_le (by omega)
    rw [hd2] at h
    exact ⟨by rw [h.1, ltL]; simp [hk], by rw [h.2]; simp; omega⟩
theorem ltL_end2 (k : Nat) (a b : List Int) (ht : a.take k = b.take k) (ha : k < a.length) (hb : k = b.length) : ltL a b = false ∧ a ≠ b := by
  have h := ltL_take k a b ht (by omega) (by omega)
  have hd : b.drop k = [] := List.drop_eq_nil_of_le (by omega)
  rw [hd, drop_at a k ha] at h
  exact ⟨by rw [h.1, ltL], fun e => by have := h.2.1 e; cases this⟩
theorem ltL_mid (k : Nat) (a b : List Int) (ht : a.take k = b.take k) (ha : k < a.length) (hb : k < b.length) (hne : a[k]?.getD 0 ≠ b[k]?.getD 0) : ltL a b = decide (a[k]?.getD 0 < b[k]?.getD 0) ∧ a ≠ b := by
  have h := ltL_take k a b ht (by omega) (by omega)
  rw [drop_at b k hb, drop_at a k ha] at h
  exact ⟨by rw [h.1, ltL]; simp [hne], fun e => by have := h.2.1 e; rw [List.cons.injEq] at this; exact hne this.1⟩
theorem take_next (k : Nat) (a b : List Int) (ht : a.take k = b.take k) (ha : k < a.length) (hb : k < b.length) (he : a[k]?.getD 0 = b[k]?.getD 0) : a.take (k + 1) = b.take (k + 1) := by
  rw [take_at a k ha, take_at b k hb, ht, he]

/-- The bytes of the i-th rune, within the text. -/
theorem bt_all (a : List Int) (i j : Nat) (hi : i < a.length) (hm : allMay a) (hj : j < (enc (a[i]?.getD 0)).length) : bt (encAll a) ((encAll (a.take i)).length + j) = (nums (a[i]?.getD 0)).getD j 0 := by
  have h1 : a = a.take i ++ (a[i]?.getD 0 :: a.drop (i + 1)) := by rw [← drop_at a i hi, List.take_append_drop]
  have hmr : may (a[i]?.getD 0) = true := hm _ (by rw [List.getElem?_eq_getElem hi]; exact List.getElem_mem _)
  have h2 : encAll a = encAll (a.take i) ++ (enc (a[i]?.getD 0) ++ encAll (a.drop (i + 1))) := by
    conv => lhs; rw [h1]
    simp [encAll]
  rw [h2]
  have h3 : bt (encAll (a.take i) ++ (enc (a[i]?.getD 0) ++ encAll (a.drop (i + 1)))) ((encAll (a.take i)).length + j) = bt (enc (a[i]?.getD 0) ++ encAll (a.drop (i + 1))) j := by
    unfold bt; rw [List.getD_eq_getElem?_getD, List.getElem?_append_right (by omega), Nat.add_sub_cancel_left, List.getD_eq_getElem?_getD]
  rw [h3, bt_app _ _ _ hj, bt_enc _ _ (by rw [← enc_len]; exact hj) (nums_bd _ hmr)]
theorem nums_tail (r : Int) (j : Nat) (h1 : 1 ≤ j) (h2 : j < (nums r).length) : 128 ≤ (nums r).getD j 0 ∧ (nums r).getD j 0 < 192 := by
  unfold nums at h2 ⊢
  repeat' split at h2
  · simp at h2; omega
  · rw [if_neg (by omega), if_pos (by omega)]
    simp at h2; obtain rfl : j = 1 := by omega
    simp; omega
  · rw [if_neg (by omega), if_neg (by omega), if_pos (by omega)]
    simp at h2
    rcases (by omega : j = 1 ∨ j = 2) with rfl | rfl <;> (simp; omega)
  · rw [if_neg (by omega), if_neg (by omega), if_neg (by omega)]
    simp at h2
    rcases (by omega : j = 1 ∨ j = 2 ∨ j = 3) with rfl | rfl | rfl <;> (simp; omega)
theorem nx_mid (l : List UInt8) (h0 : 128 ≤ bt l 0) (h1 : bt l 0 < 192) : nx l = (0, 0) := nx_zero l (nx_bad l (.inr (.inl (by unfold headN; rw [if_neg (by omega), if_neg (by omega), if_neg (by omega), if_neg (by omega)]; omega))))
theorem bt_drop (l : List UInt8) (k : Nat) : bt (l.drop k) 0 = bt l k := by
  unfold bt; rw [List.getD_eq_getElem?_getD, List.getElem?_drop, List.getD_eq_getElem?_getD]; simp
/-- Behind a rune's beginning no rune begins. -/
theorem nx_within (a : List Int) (i k : Nat) (hi : i < a.length) (hm : allMay a) (h1 : (encAll (a.take i)).length < k) (h2 : k < (encAll (a.take i)).length + (enc (a[i]?.getD 0)).length) : nx ((encAll a).drop k) = (0, 0) := by
  obtain ⟨j, rfl⟩ : ∃ j, k = (encAll (a.take i)).length + j := ⟨k - (encAll (a.take i)).length, by omega⟩
  have hmr : may (a[i]?.getD 0) = true := hm _ (by rw [List.getElem?_eq_getElem hi]; exact List.getElem_mem _)
  have hb := bt_all a i j hi hm (by omega)
  have ht := nums_tail (a[i]?.getD 0) j (by omega) (by rw [← enc_len]; omega)
  apply nx_mid <;> rw [bt_drop, hb]
  · exact ht.1
  · exact ht.2
theorem encAll_at (a : List Int) (i : Nat) (hi : i < a.length) : (encAll (a.take (i + 1))).length = (encAll (a.take i)).length + (enc (a[i]?.getD 0)).length := by
  rw [encAll_take a i hi, List.length_append]
theorem encAll_le (a : List Int) (i : Nat) : (encAll (a.take i)).length ≤ (encAll a).length := by
  have : encAll a = encAll (a.take i) ++ encAll (a.drop i) := by
    rw [encAll, encAll, encAll, ← List.flatMap_append, List.take_append_drop]
  rw [this, List.length_append]; omega
end Go.Proofs.Ytienfppidmjfpaa.Utf
