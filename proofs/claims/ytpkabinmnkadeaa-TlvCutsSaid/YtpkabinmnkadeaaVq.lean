/-
  Values put behind one another, read again, in plain Lean.
-/
import Derived.Test.YtpkabinmnkadeaaVi
import Derived.Test.YtpkabinmnkadeaaVn
namespace Go.Proofs.Ytpkabinmnkadeaa.Tlv

theorem ln_val (t : UInt8) (b r : List UInt8) (hb : b.length ≤ 4194304) : ln (val t b ++ r) = b.length := by
  simp only [ln, val, List.cons_append, List.getElem?_cons_zero, List.getElem?_cons_succ, Option.getD_some, UInt8.toNat_ofNat']
  omega
theorem fs_val (t : UInt8) (b r : List UInt8) (ht : 0 < t.toNat) (hb : b.length ≤ 4194304) : fs (val t b ++ r) = 5 + b.length := by
  have hl : (val t b ++ r).length = 5 + b.length + r.length := by rw [List.length_append, val_len]
  have h0 : ¬ (val t b ++ r)[0]?.getD 0 = 0 := by
    intro h
    have h2 : t = 0 := h
    rw [h2] at ht
    exact absurd ht (by decide)
  rw [fs_yes, ln_val t b r hb]
  rw [ln_val t b r hb, hl]
  rintro (h | h | h | h)
  · omega
  · exact h0 h
  · omega
  · omega
theorem hd1_val (t : UInt8) (b r : List UInt8) (ht : 0 < t.toNat) (hb : b.length ≤ 4194304) : hd1 (val t b ++ r) = (t, b) := by
  unfold hd1
  rw [fs_val t b r ht hb, show 5 + b.length - 5 = b.length by omega]
  exact Prod.ext rfl (by show (b ++ r).take b.length = b; simp)
theorem itsF_its (f : Nat) : ∀ l : List UInt8, l.length ≤ f → itsF f l = its l := by
  suffices h : ∀ f g (l : List UInt8), l.length ≤ f → l.length ≤ g → itsF f l = itsF g l from fun l hl => h f l.length l hl (Nat.le_refl _)
  intro f
  induction f with
  | zero =>
    intro g l hl _
    have : l = [] := List.eq_nil_of_length_eq_zero (by omega)
    subst this
    cases g with
    | zero => rfl
    | succ g => rw [itsF, itsF, if_pos (by decide)]
  | succ f ih =>
    intro g l hl hg
    cases g with
    | zero =>
      have : l = [] := List.eq_nil_of_length_eq_zero (by omega)
      subst this
      rw [itsF, itsF, if_pos (by decide)]
    | succ g =>
      rw [itsF, itsF]
      by_cases h0 : fs l = 0
      · rw [if_pos h0, if_pos h0]
      · rw [if_neg h0, if_neg h0]
        have h5 := fs_five l h0
        have hle := fs_le l
        rw [ih g (l.drop (fs l)) (by rw [List.length_drop]; omega) (by rw [List.length_drop]; omega)]
theorem its_step (l : List UInt8) (h : fs l ≠ 0) : its l = hd1 l :: its (l.drop (fs l)) := by
  have h5 := fs_five l h
  have hle := fs_le l
  obtain ⟨m, hm⟩ : ∃ m, l.length = m + 1 := ⟨l.length - 1, by omega⟩
  unfold its
  rw [hm, itsF, if_neg h, itsF_its m _ (by rw [List.length_drop]; omega)]
  rfl
theorem its_none (l : List UInt8) (h : fs l = 0) : its l = [] := by
  unfold its
  cases l.length with
  | zero => rfl
  | succ m => rw [itsF, if_pos h]
theorem its_val (t : UInt8) (b r : List UInt8) (ht : 0 < t.toNat) (hb : b.length ≤ 4194304) : its (val t b ++ r) = (t, b) :: its r := by
  have hf := fs_val t b r ht hb
  rw [its_step _ (by rw [hf]; omega), hd1_val t b r ht hb, hf]
  congr 2
  rw [← val_len t b]
  exact List.drop_left
theorem its_nil : its [] = [] := rfl
/-- All of a row of values. -/
def vals (rs : List It) : List UInt8 := rs.flatMap fun x => val x.1 x.2
theorem vals_cons (x : It) (rs : List It) : vals (x :: rs) = val x.1 x.2 ++ vals rs := rfl
theorem vals_app (a b : List It) : vals (a ++ b) = vals a ++ vals b := by simp [vals]
theorem ip_all (rs : List It) : ip rs rs.length = (vals rs).length := by
  induction rs with
  | nil => rfl
  | cons x rs ih =>
    rw [vals_cons, List.length_append, val_len, ← ih]
    rfl
def goodIt (x : It) : Prop := 0 < x.1.toNat ∧ x.2.length ≤ 4194304
theorem its_vals (rs : List It) (h : ∀ x ∈ rs, goodIt x) (r : List UInt8) : its (vals rs ++ r) = rs ++ its r := by
  induction rs with
  | nil => rfl
  | cons x rs ih =>
    obtain ⟨h1, h2⟩ := h x List.mem_cons_self
    rw [vals_cons, List.append_assoc, its_val _ _ _ h1 h2, ih (fun y hy => h y (List.mem_cons_of_mem _ hy))]
    rfl
theorem its_all (rs : List It) (h : ∀ x ∈ rs, goodIt x) : its (vals rs) = rs := by
  have := its_vals rs h []
  rw [List.append_nil, its_nil, List.append_nil] at this
  exact this
theorem manyOf_vals (rs : List It) (h : ∀ x ∈ rs, goodIt x) : manyOf (vals rs) = (rs.length : Int) := by
  unfold manyOf
  rw [its_all rs h, if_pos (ip_all rs)]
theorem manyOf_val (t : UInt8) (b : List UInt8) (ht : 0 < t.toNat) (hb : b.length ≤ 4194304) : manyOf (val t b) = 1 := by
  have := manyOf_vals [(t, b)] (fun x hx => by rw [List.mem_singleton] at hx; subst hx; exact ⟨ht, hb⟩)
  simpa [vals] using this
end Go.Proofs.Ytpkabinmnkadeaa.Tlv
