/-
  Plain facts on the runes of a text; and the iterator utf.Runes: which places and runes it goes over.
-/
import Derived.Test.YtienfppidmjfpaaUo
import Derived.RangeFuncNested
import Derived.RangeFuncBound
import Derived.RangeFuncCalls
import Derived.RangeFuncLeaves
import Derived.RangeFuncBox
import Derived.Shelf.Abstract
import Derived.Shelf.RegionOpen
import Derived.OwnWalkIn
import Derived.TacticsInMore
import Derived.LoopNIn
import Derived.LoopIn
namespace Go.Proofs.Ytienfppidmjfpaa.Utf
open Go.RowKit Go.Shelf Go.Proofs.Ytienfppidmjfpaa.Mem
attribute [local go_sem] Oper.semAt_some

/-- The runes of a text, up to where none stands. -/
def decR : Nat → List UInt8 → List Int
  | 0, _ => []
  | f + 1, l => if (nx l).2 = 0 then [] else (nx l).1 :: decR f (l.drop (nx l).2)
def runes (l : List UInt8) : List Int := decR l.length l
/-- What they are. -/
def Dec (l : List UInt8) (rs : List Int) : Prop := allMay rs ∧ (∃ t, l = encAll rs ++ t ∧ nx t = (0, 0))
theorem decR_dec : ∀ (f : Nat) (l : List UInt8), l.length ≤ f → Dec l (decR f l)
  | 0, l, h => by
    have : l = [] := List.eq_nil_of_length_eq_zero (by omega)
    subst this
    exact ⟨fun r hr => (by cases hr), [], rfl, nx_zero _ (nx_bad [] (.inl rfl))⟩
  | f + 1, l, h => by
    rw [decR]
    by_cases h0 : (nx l).2 = 0
    · rw [if_pos h0]
      exact ⟨fun r hr => (by cases hr), l, rfl, nx_zero l h0⟩
    · rw [if_neg h0]
      obtain ⟨a, b, c, d⟩ := nx_some l (nx l).1 (nx l).2 rfl h0
      obtain ⟨e, t, g, i⟩ := decR_dec f (l.drop (nx l).2) (by rw [List.length_drop]; omega)
      refine ⟨fun r hr => ?_, t, ?_, i⟩
      · rcases List.mem_cons.1 hr with rfl | hr
        · exact a
        · exact e r hr
      · rw [encAll_cons, ← d, List.append_assoc, ← g, List.take_append_drop]
theorem runes_dec (l : List UInt8) : Dec l (runes l) := decR_dec _ _ (Nat.le_refl _)
theorem dec_uniq : ∀ (a b : List Int) (l : List UInt8), Dec l a → Dec l b → a = b
  | [], [], _, _, _ => rfl
  | [], s :: b, l, ⟨_, t, h, i⟩, ⟨hb, t2, h2, _⟩ => by
    rw [encAll_cons, List.append_assoc] at h2
    have := nx_enc s (encAll b ++ t2) (hb s (by simp))
    rw [← h2, h, encAll_nil, List.nil_append, i] at this
    have := (Prod.mk.inj this).2; have := enc_pos s; omega
  | r :: a, [], l, ⟨ha, t2, h2, _⟩, ⟨_, t, h, i⟩ => by
    rw [encAll_cons, List.append_assoc] at h2
    have := nx_enc r (encAll a ++ t2) (ha r (by simp))
    rw [← h2, h, encAll_nil, List.nil_append, i] at this
    have := (Prod.mk.inj this).2; have := enc_pos r; omega
  | r :: a, s :: b, l, ⟨ha, t, h, i⟩, ⟨hb, t2, h2, i2⟩ => by
    rw [encAll_cons, List.append_assoc] at h h2
    have h1 := nx_enc r (encAll a ++ t) (ha r (by simp))
    have h3 := nx_enc s (encAll b ++ t2) (hb s (by simp))
    rw [← h] at h1; rw [← h2, h1] at h3
    have e := (Prod.mk.inj h3).1
    subst e
    have h4 : encAll a ++ t = encAll b ++ t2 := List.append_cancel_left (h.symm.trans h2)
    rw [dec_uniq a b (encAll a ++ t) ⟨fun x hx => ha x (by simp [hx]), t, rfl, i⟩ ⟨fun x hx => hb x (by simp [hx]), t2, h4, i2⟩]
theorem runes_eq (l : List UInt8) (rs : List Int) (h : Dec l rs) : runes l = rs := dec_uniq _ _ l (runes_dec l) h
theorem runes_may (l : List UInt8) : allMay (runes l) := (runes_dec l).1
/-- How many bytes are well made. -/
def wh (l : List UInt8) : Nat := (encAll (runes l)).length
theorem wh_le (l : List UInt8) : wh l ≤ l.length := by
  obtain ⟨_, t, h, _⟩ := runes_dec l
  have := congrArg List.length h
  rw [List.length_append] at this; unfold wh; omega
theorem runes_len (l : List UInt8) : (runes l).length ≤ l.length := by
  have h1 : ∀ rs : List Int, rs.length ≤ (encAll rs).length := by
    intro rs; induction rs with
    | nil => simp
    | cons r rs ih => have := enc_pos r; rw [encAll_cons, List.length_append, List.length_cons]; omega
  have := h1 (runes l); have := wh_le l; unfold wh at this; omega
/-- The place of the k-th rune. -/
def pl (rs : List Int) (k : Nat) : Nat := (encAll (rs.take k)).length
theorem pl_zero (rs : List Int) : pl rs 0 = 0 := rfl
theorem pl_succ (rs : List Int) (k : Nat) (h : k < rs.length) : pl rs (k + 1) = pl rs k + (enc (rs[k]?.getD 0)).length := encAll_at rs k h
theorem pl_full (rs : List Int) (k : Nat) (h : rs.length ≤ k) : pl rs k = (encAll rs).length := by unfold pl; rw [List.take_of_length_le h]
theorem pl_le (rs : List Int) (k : Nat) : pl rs k ≤ (encAll rs).length := encAll_le rs k
theorem nx_at (l : List UInt8) (k : Nat) (h : k < (runes l).length) : nx (l.drop (pl (runes l) k)) = ((runes l)[k]?.getD 0, (enc ((runes l)[k]?.getD 0)).length) ∧ pl (runes l) k < l.length := by
  obtain ⟨hm, t, hl, _⟩ := runes_dec l
  generalize runes l = rs at *
  subst hl
  have e1 : encAll rs = encAll (rs.take k) ++ (enc (rs[k]?.getD 0) ++ encAll (rs.drop (k + 1))) := by
    conv => lhs; rw [← List.take_append_drop k rs, drop_at _ k h]
    simp [encAll]
  have e2 : (encAll rs ++ t).drop (pl rs k) = enc (rs[k]?.getD 0) ++ (encAll (rs.drop (k + 1)) ++ t) := by
    rw [e1]
    unfold pl
    rw [List.append_assoc, List.drop_left, List.append_assoc]
  have hmr : may (rs[k]?.getD 0) = true := hm _ (by rw [List.getElem?_eq_getElem h]; exact List.getElem_mem _)
  refine ⟨by rw [e2]; exact nx_enc _ _ hmr, ?_⟩
  have h2 := congrArg List.length e2
  rw [List.length_drop, List.length_append] at h2
  have := enc_pos (rs[k]?.getD 0)
  rw [List.length_append] at *
  omega
theorem nx_last (l : List UInt8) : nx (l.drop (wh l)) = (0, 0) := by
  obtain ⟨hm, t, hl, ht⟩ := runes_dec l
  unfold wh
  generalize runes l = rs at *
  subst hl
  rw [List.drop_left]; exact ht

/-- A place and a rune, as they are handed over. -/
abbrev PR := { x : Nat × Int // x.1 ≤ 1099511627776 ∧ may x.2 = true }
def prV (x : PR) : Array Value := #[.int .i64 (x.1.1 : Int), .int .i32 x.1.2]
def IsPairs (rs : List Int) (k : Nat) (pre : List PR) : Prop := pre.length = k ∧ ∀ j, j < k → ∃ x, pre[j]? = some x ∧ x.1 = (pl rs j, rs[j]?.getD 0)
end Go.Proofs.Ytienfppidmjfpaa.Utf
