/-
  Plain facts: a well made text and another one behind it; a text that is cut.
-/
import Derived.Test.YtpkabinmnkadeaaUv
namespace Go.Proofs.Ytpkabinmnkadeaa.Utf
open Go.RowKit

theorem encAll_app (a b : List Int) : encAll (a ++ b) = encAll a ++ encAll b := by simp [encAll]
theorem valid_enc (l : List UInt8) (h : wh l = l.length) : l = encAll (runes l) := by
  obtain ⟨_, t, hl, _⟩ := runes_dec l
  have h2 := congrArg List.length hl
  rw [List.length_append] at h2
  unfold wh at h
  have : t = [] := List.eq_nil_of_length_eq_zero (by omega)
  rw [this, List.append_nil] at hl; exact hl
theorem runes_enc (rs : List Int) (h : allMay rs) : runes (encAll rs) = rs := runes_eq _ _ ⟨h, [], by simp, nx_zero _ (nx_bad [] (.inl rfl))⟩
theorem wh_enc (rs : List Int) (h : allMay rs) : wh (encAll rs) = (encAll rs).length := by unfold wh; rw [runes_enc rs h]
theorem runes_join (s t : List UInt8) (h : wh s = s.length) : runes (s ++ t) = runes s ++ runes t := by
  obtain ⟨hm, t', ht, hn⟩ := runes_dec t
  refine runes_eq _ _ ⟨fun r hr => ?_, t', ?_, hn⟩
  · rcases List.mem_append.1 hr with hr | hr
    · exact runes_may s r hr
    · exact hm r hr
  · rw [encAll_app, ← valid_enc s h, List.append_assoc, ← ht]
theorem wh_join (s t : List UInt8) (h : wh s = s.length) : wh (s ++ t) = s.length + wh t := by
  rw [← h]; unfold wh; rw [runes_join s t h, encAll_app, List.length_append]
/-- A part of a rune's bytes is no rune's. -/
theorem nx_part (r : Int) (j : Nat) (hm : may r = true) (h : j < (enc r).length) : nx ((enc r).take j) = (0, 0) := by
  apply nx_zero
  by_cases h0 : (nx ((enc r).take j)).2 = 0
  · exact h0
  · obtain ⟨a, b, c, d⟩ := nx_some ((enc r).take j) (nx ((enc r).take j)).1 (nx ((enc r).take j)).2 rfl h0
    generalize (nx ((enc r).take j)).1 = x at *
    generalize (nx ((enc r).take j)).2 = n at *
    rw [List.length_take] at c
    rw [List.take_take, Nat.min_eq_left (by omega)] at d
    have h1 := nx_of_take (enc r) x n a d.symm (by omega)
    have h2 := nx_enc r [] hm
    rw [List.append_nil, h1] at h2
    have := (Prod.mk.inj h2).2; omega
/-- Does a rune begin at a place (or is it the end)? -/
def At (rs : List Int) (c : Nat) : Prop := ∃ k, k ≤ rs.length ∧ pl rs k = c
theorem pl_between (rs : List Int) : ∀ (c : Nat), c ≤ (encAll rs).length → ¬ At rs c → ∃ k, k < rs.length ∧ pl rs k < c ∧ c < pl rs k + (enc (rs[k]?.getD 0)).length := by
  intro c hc hn
  have key : ∀ m, m ≤ rs.length → c < pl rs m → ∃ k, k < rs.length ∧ pl rs k < c ∧ c < pl rs k + (enc (rs[k]?.getD 0)).length := by
    intro m
    induction m with
    | zero => intro _ h; rw [pl_zero] at h; omega
    | succ m ih =>
      intro hm h
      by_cases hlt : c < pl rs m
      · exact ih (by omega) hlt
      · have hne : pl rs m ≠ c := fun e => hn ⟨m, by omega, e⟩
        exact ⟨m, by omega, by omega, by rw [← pl_succ rs m (by omega)]; exact h⟩
  have hf := pl_full rs rs.length (Nat.le_refl _)
  refine key rs.length (Nat.le_refl _) ?_
  have hne : pl rs rs.length ≠ c := fun e => hn ⟨rs.length, Nat.le_refl _, e⟩
  omega
theorem cut_at (rs : List Int) (c : Nat) (hm : allMay rs) (h : At rs c) : wh ((encAll rs).take c) = ((encAll rs).take c).length ∧ wh ((encAll rs).drop c) = ((encAll rs).drop c).length := by
  obtain ⟨k, hk, rfl⟩ := h
  have e : encAll rs = encAll (rs.take k) ++ encAll (rs.drop k) := by rw [← encAll_app, List.take_append_drop]
  unfold pl
  rw [e, List.take_left, List.drop_left]
  exact ⟨wh_enc _ (fun r hr => hm r (List.mem_of_mem_take hr)), wh_enc _ (fun r hr => hm r (List.mem_of_mem_drop hr))⟩
theorem cut_within (rs : List Int) (c : Nat) (hm : allMay rs) (hc : c ≤ (encAll rs).length) (h : ¬ At rs c) : wh ((encAll rs).take c) ≠ ((encAll rs).take c).length ∧ wh ((encAll rs).drop c) ≠ ((encAll rs).drop c).length := by
  obtain ⟨k, hk, h1, h2⟩ := pl_between rs c hc h
  have hmr : may (rs[k]?.getD 0) = true := hm _ (by rw [List.getElem?_eq_getElem hk]; exact List.getElem_mem _)
  constructor
  · have e1 : encAll rs = encAll (rs.take k) ++ (enc (rs[k]?.getD 0) ++ encAll (rs.drop (k + 1))) := by
      conv => lhs; rw [← List.take_append_drop k rs, drop_at _ k hk]
      simp [encAll]
    have e2 : (encAll rs).take c = encAll (rs.take k) ++ (enc (rs[k]?.getD 0)).take (c - pl rs k) := by
      rw [e1, List.take_append, List.take_append]
      have a1 : (encAll (rs.take k)).take c = encAll (rs.take k) := List.take_of_length_le (by unfold pl at h1; omega)
      have a2 : c - (encAll (rs.take k)).length - (enc (rs[k]?.getD 0)).length = 0 := by unfold pl at h2; omega
      rw [a1, a2, List.take_zero, List.append_nil]; rfl
    have hr : runes ((encAll rs).take c) = rs.take k := by
      refine runes_eq _ _ ⟨fun r hr => hm r (List.mem_of_mem_take hr), _, e2, nx_part _ _ hmr (by omega)⟩
    unfold wh
    rw [hr]
    have : ((encAll rs).take c).length = c := by rw [List.length_take]; omega
    rw [this]
    unfold pl at h1; omega
  · have hn := nx_within rs k c hk hm (by unfold pl at h1; exact h1) (by unfold pl at h2; exact h2)
    have hr : runes ((encAll rs).drop c) = [] := runes_eq _ _ ⟨fun r hr => (by cases hr), _, rfl, hn⟩
    unfold wh
    rw [hr, encAll_nil, List.length_drop]
    have hple := pl_le rs (k + 1)
    rw [pl_succ rs k hk] at hple
    simp; omega
end Go.Proofs.Ytpkabinmnkadeaa.Utf
