/-
  Values of bytes, in plain Lean: the first value, all of them, their places.
-/
import Derived.WalkKit
import Derived.WalkSpells
namespace Go.Proofs.Ytienfppidmjfpaa.Tlv

/-- The number that bytes 1 to 4 tell. -/
def ln (l : List UInt8) : Nat := 16777216 * (l[1]?.getD 0).toNat + 65536 * (l[2]?.getD 0).toNat + 256 * (l[3]?.getD 0).toNat + (l[4]?.getD 0).toNat
/-- How many bytes the first value takes; 0: there is none. -/
def fs (l : List UInt8) : Nat := if l.length < 5 ∨ l[0]?.getD 0 = 0 ∨ 4194304 < ln l ∨ l.length - 5 < ln l then 0 else 5 + ln l
abbrev It := UInt8 × List UInt8
def hd1 (l : List UInt8) : It := (l[0]?.getD 0, (l.drop 5).take (fs l - 5))

theorem fs_le (l : List UInt8) : fs l ≤ l.length := by unfold fs; split <;> omega
theorem fs_five (l : List UInt8) (h : fs l ≠ 0) : 5 ≤ fs l := by unfold fs at *; split <;> simp_all <;> omega
theorem hd1_len (l : List UInt8) (h : fs l ≠ 0) : 5 + (hd1 l).2.length = fs l := by
  have h1 := fs_le l
  have h2 := fs_five l h
  simp only [hd1, List.length_take, List.length_drop]; omega
theorem fs_no {l : List UInt8} (h : l.length < 5 ∨ l[0]?.getD 0 = 0 ∨ 4194304 < ln l ∨ l.length - 5 < ln l) : fs l = 0 := if_pos h
theorem fs_yes {l : List UInt8} (h : ¬ (l.length < 5 ∨ l[0]?.getD 0 = 0 ∨ 4194304 < ln l ∨ l.length - 5 < ln l)) : fs l = 5 + ln l := if_neg h

def itsF : Nat → List UInt8 → List It
  | 0, _ => []
  | k + 1, l => if fs l = 0 then [] else hd1 l :: itsF k (l.drop (fs l))
/-- All values, up to where none stands. -/
def its (l : List UInt8) : List It := itsF l.length l
/-- The place of a value: what stands ahead of it. -/
def ip : List It → Nat → Nat
  | [], _ => 0
  | _, 0 => 0
  | x :: rs, k + 1 => 5 + x.2.length + ip rs k

theorem ip_zero (rs : List It) : ip rs 0 = 0 := by cases rs <;> rfl
theorem itsF_at (f : Nat) : ∀ (l : List UInt8), l.length ≤ f → ∀ k, k < (itsF f l).length →
    (itsF f l)[k]?.getD (0, []) = hd1 (l.drop (ip (itsF f l) k)) ∧ fs (l.drop (ip (itsF f l) k)) ≠ 0 ∧
      ip (itsF f l) (k + 1) = ip (itsF f l) k + fs (l.drop (ip (itsF f l) k)) ∧ ip (itsF f l) (k + 1) ≤ l.length := by
  induction f with
  | zero => intro l _ k hk; simp [itsF] at hk
  | succ f ih =>
    intro l hl k hk
    by_cases h0 : fs l = 0
    · simp [itsF, h0] at hk
    · have hd := hd1_len l h0
      have h5 := fs_five l h0
      have hle := fs_le l
      simp only [itsF, if_neg h0] at hk ⊢
      cases k with
      | zero =>
        refine ⟨by simp [ip], by simpa [ip] using h0, ?_, ?_⟩
        · simp [ip, ip_zero]; omega
        · simp [ip, ip_zero]; omega
      | succ k =>
        obtain ⟨h1, h2, h3, h4⟩ := ih (l.drop (fs l)) (by rw [List.length_drop]; omega) k (by simpa using hk)
        rw [List.length_drop] at h4
        have e : l.drop (5 + (hd1 l).2.length + ip (itsF f (l.drop (fs l))) k) = (l.drop (fs l)).drop (ip (itsF f (l.drop (fs l))) k) := by rw [List.drop_drop, hd]
        simp only [ip, List.getElem?_cons_succ, e]
        exact ⟨h1, h2, by omega, by omega⟩
theorem itsF_last (f : Nat) : ∀ (l : List UInt8), l.length ≤ f → fs (l.drop (ip (itsF f l) (itsF f l).length)) = 0 ∧ ip (itsF f l) (itsF f l).length ≤ l.length := by
  induction f with
  | zero =>
    intro l hl
    have : l = [] := List.eq_nil_of_length_eq_zero (by omega)
    subst this
    exact ⟨by decide, Nat.le_refl _⟩
  | succ f ih =>
    intro l hl
    by_cases h0 : fs l = 0
    · simp [itsF, h0, ip]
    · have hd := hd1_len l h0
      have h5 := fs_five l h0
      have hle := fs_le l
      obtain ⟨h1, h2⟩ := ih (l.drop (fs l)) (by rw [List.length_drop]; omega)
      rw [List.length_drop] at h2
      simp only [itsF, if_neg h0, List.length_cons, ip]
      rw [← List.drop_drop, hd]
      exact ⟨h1, by omega⟩
theorem its_at (l : List UInt8) (k : Nat) (hk : k < (its l).length) : (its l)[k]?.getD (0, []) = hd1 (l.drop (ip (its l) k)) ∧ fs (l.drop (ip (its l) k)) ≠ 0 ∧
      ip (its l) (k + 1) = ip (its l) k + fs (l.drop (ip (its l) k)) ∧ ip (its l) (k + 1) ≤ l.length := itsF_at _ l (Nat.le_refl _) k hk
theorem its_last (l : List UInt8) : fs (l.drop (ip (its l) (its l).length)) = 0 ∧ ip (its l) (its l).length ≤ l.length := itsF_last _ l (Nat.le_refl _)
theorem itsF_len (f : Nat) : ∀ (l : List UInt8), (itsF f l).length * 5 ≤ l.length := by
  induction f with
  | zero => intro l; simp [itsF]
  | succ f ih =>
    intro l
    by_cases h0 : fs l = 0
    · simp [itsF, h0]
    · have h5 := fs_five l h0
      have hle := fs_le l
      have := ih (l.drop (fs l))
      rw [List.length_drop] at this
      simp only [itsF, if_neg h0, List.length_cons]; omega
theorem its_len (l : List UInt8) : (its l).length * 5 ≤ l.length := itsF_len _ l
end Go.Proofs.Ytienfppidmjfpaa.Tlv
