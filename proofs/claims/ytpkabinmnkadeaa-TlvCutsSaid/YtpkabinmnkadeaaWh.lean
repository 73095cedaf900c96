/-
  TlvCuts: in plain Lean.
-/
import Derived.Test.YtpkabinmnkadeaaWf
namespace Go.Proofs.Ytpkabinmnkadeaa.Tlv

theorem fs_take {l : List UInt8} {m : Nat} (h : fs (l.take m) ≠ 0) : fs (l.take m) = fs l := by
  have hc : ¬ ((l.take m).length < 5 ∨ (l.take m)[0]?.getD 0 = 0 ∨ 4194304 < ln (l.take m) ∨ (l.take m).length - 5 < ln (l.take m)) := fun hh => h (fs_no hh)
  have hl : ¬ (l.take m).length < 5 := fun e => hc (.inl e)
  rw [List.length_take] at hl
  have hg : ∀ i, i < 5 → (l.take m)[i]? = l[i]? := fun i hi => List.getElem?_take_of_lt (by omega)
  have hln : ln (l.take m) = ln l := by unfold ln; rw [hg 1 (by omega), hg 2 (by omega), hg 3 (by omega), hg 4 (by omega)]
  rw [fs_yes hc, hln, fs_yes]
  rintro (e | e | e | e)
  · omega
  · exact hc (.inr (.inl (by rw [hg 0 (by omega)]; exact e)))
  · exact hc (.inr (.inr (.inl (by rw [hln]; exact e))))
  · exact hc (.inr (.inr (.inr (by rw [hln, List.length_take]; omega))))
theorem ip_take (rs : List It) : ∀ n, n ≤ rs.length → ip rs n = (vals (rs.take n)).length := by
  induction rs with
  | nil => intro n h; obtain rfl : n = 0 := by simpa using h
           rfl
  | cons x rs ih =>
    intro n h
    cases n with
    | zero => rfl
    | succ n =>
      rw [List.take_succ_cons, vals_cons, List.length_append, val_len, ← ih n (by simpa using h)]
      rfl
/-- The values ahead of a cut. -/
theorem its_cut (l : List UInt8) (n cut : Nat) (hn : n ≤ (its l).length) (h1 : ip (its l) n ≤ cut) (h2 : n = (its l).length ∨ cut < ip (its l) (n + 1)) : its (l.take cut) = (its l).take n := by
  obtain ⟨r, hr⟩ := vals_its l.length l (Nat.le_refl _)
  have hsp : l = vals ((its l).take n) ++ l.drop (ip (its l) n) := by
    have h3 : l.take (ip (its l) n) = vals ((its l).take n) := by
      have h4 : vals (its l) = vals ((its l).take n) ++ vals ((its l).drop n) := by rw [← vals_app, List.take_append_drop]
      rw [h4, List.append_assoc] at hr
      have h5 := congrArg (List.take (ip (its l) n)) hr
      rw [ip_take _ n hn, List.take_left] at h5
      rw [ip_take _ n hn]
      exact h5
    rw [← h3, List.take_append_drop]
  have hgood : ∀ x ∈ (its l).take n, goodIt x := fun x hx => by
    obtain ⟨k, hk, rfl⟩ := List.getElem_of_mem (List.mem_of_mem_take hx)
    exact its_good l k _ hk (by rw [List.getElem?_eq_getElem hk]; rfl)
  have htk : l.take cut = vals ((its l).take n) ++ (l.drop (ip (its l) n)).take (cut - ip (its l) n) := by
    have h3 := congrArg (List.take cut) hsp
    have h4 : (vals ((its l).take n)).take cut = vals ((its l).take n) := List.take_of_length_le (by rw [← ip_take _ n hn]; exact h1)
    rw [List.take_append, h4, ← ip_take _ n hn] at h3
    exact h3
  suffices h0 : fs ((l.drop (ip (its l) n)).take (cut - ip (its l) n)) = 0 by
    rw [htk, its_vals _ hgood, its_none _ h0, List.append_nil]
  by_cases h0 : fs ((l.drop (ip (its l) n)).take (cut - ip (its l) n)) = 0
  · exact h0
  · exfalso
    have h3 := fs_take h0
    have hle := fs_le ((l.drop (ip (its l) n)).take (cut - ip (its l) n))
    rw [List.length_take] at hle
    rcases h2 with rfl | h2
    · exact h0 (h3.trans (its_last l).1)
    · rcases Nat.lt_or_ge n (its l).length with hlt | hge
      · obtain ⟨_, _, h4, _⟩ := its_at l n hlt
        omega
      · obtain rfl : n = (its l).length := by omega
        exact h0 (h3.trans (its_last l).1)
end Go.Proofs.Ytpkabinmnkadeaa.Tlv
