/-
  The walks of two statements of layer 1: UtfRunes, UtfMakes; and of the chapter's rows ('known').
-/
import Derived.Test.YtpkabinmnkadeaaUg
namespace Go.Proofs.Ytpkabinmnkadeaa.Utf
open Go.RowKit Go.Proofs.Ytpkabinmnkadeaa.Mem

/-- A bool is answered; what was there is as it was. -/
def GivesTrue (w : World) (e : Ending) (w' : World) : Prop := e = .returned (.bool true) ∧ Below w.heap.size w w'

theorem known_enc : encAll [8364] = [226, 130, 172] := by decide
theorem known_nx : nx [192, 128] = (0, 0) := by decide

set_option maxRecDepth 100000 in
set_option maxHeartbeats 400000 in
theorem known_any (w : World) : Calls Try.prog 16 #[] w (GivesTrue w) := by
  have hm : allMay [8364] := by intro r hr; rw [List.mem_singleton] at hr; subst hr; decide
  have hrd := Rd.new w (ruV [8364]) 21 (0, 0) 1 1 rfl (by unfold maxLen; omega)
  have HM := Lib.hid hm
  clear hm
  go_enter Try.func16, Try.ntmps16
  go_wp2_with fail
  refine (encode_yes _ 1 1 [8364] _ hrd (by omega) HM.out).mono ?_
  rintro e w1 ⟨rfl, hb1⟩
  rw [known_enc]
  go_wp2_with fail
  refine (next_ok _ _ (by show 2 ≤ maxLen; unfold maxLen; omega)).mono ?_
  rintro e w2 ⟨rfl, rfl⟩
  rw [known_nx]
  go_wp2_with (go_at_call 23; refine (num_any _ _).mono ?_; rintro e w2 ⟨rfl, rfl⟩)
  go_ret
  exact ⟨rfl, ((Below.refl _ _).alloc (Nat.le_refl _) _).trans (hb1.mono (by simp))⟩

set_option maxRecDepth 100000 in
set_option maxHeartbeats 1000000 in
theorem runes_any (r : Int) (s : ByteArray) (w : World) (hs : s.size ≤ maxLen) : Calls Try.prog 4 #[.int .i32 r, .string s] w (GivesTrue w) := by
  unfold maxLen at hs
  by_cases hbig : 9000 < s.size
  · go_enter Try.func4, Try.ntmps4
    go_wp2_with (go_at_call 16; refine (known_any _).mono ?_; rintro e w2 ⟨rfl, hb⟩)
    go_ret
    exact ⟨rfl, hb⟩
  · have hsz := Lib.hid (size_len r)
    have hno := Lib.hid (show may r = false → size r = 0 from fun h => by unfold size; rw [if_pos h])
    have hle := enc_le r
    obtain ⟨x, n, hx⟩ : ∃ x n, nx s.data.toList = (x, n) := ⟨_, _, rfl⟩
    obtain ⟨q, hq⟩ : ∃ q : Int, (if n = 0 then (5 : Int) else 0) = q := ⟨_, rfl⟩
    have HX := Lib.hid hx
    have HQ := Lib.hid hq
    have hn4 : n ≤ 4 := by have := nx_le4 s.data.toList; rw [hx] at this; exact this
    have hcase : (n = 0 ∧ q = 5) ∨ (1 ≤ n ∧ q = 0) := by
      by_cases h : n = 0
      · rw [if_pos h] at hq; exact .inl ⟨h, hq.symm⟩
      · rw [if_neg h] at hq; exact .inr ⟨by omega, hq.symm⟩
    clear hx hq
    go_enter Try.func4, Try.ntmps4
    go_wp2_with fail
    refine (next_ok _ _ (by unfold maxLen; omega)).mono ?_
    rintro e w1 ⟨rfl, rfl⟩
    rw [HX.out, HQ.out]
    go_wp2_with fail
    refine (rnext_any _ _ (by unfold maxLen; omega)).mono ?_
    rintro e w1 ⟨rfl, hb1⟩
    rw [HX.out]
    go_wp2_with fail
    refine (rmay_any _ _).mono ?_
    rintro e w2 ⟨rfl, rfl⟩
    cases hm : may r
    · have Hm := Lib.hid hm
      have h0 := Lib.hid (hno.out hm)
      clear hm
      rcases hcase with ⟨rfl, rfl⟩ | ⟨hn1, rfl⟩
      all_goals
        go_wp2_with (first | (go_at_call 16; refine (known_any _).mono ?_; rintro e w5 ⟨rfl, hb5⟩) | (go_at_call 19; refine (may_false _ _ Hm.out).mono ?_; rintro e w4 ⟨rfl, rfl⟩) | (go_at_call 21; refine (may_any _ _).mono ?_; rintro e w4 ⟨rfl, rfl⟩; rw [Hm.out]) | (go_at_call 22; refine (size_any _ _).mono ?_; rintro e w4 ⟨rfl, rfl⟩; rw [h0.out]) | (go_at_call 23; refine (num_any _ _).mono ?_; rintro e w4 ⟨rfl, rfl⟩))
        go_ret
        exact ⟨rfl, hb1.trans (hb5.mono hb1.size)⟩
    · have Hm := Lib.hid hm
      have h0 := Lib.hid (hsz.out hm)
      clear hm
      rcases hcase with ⟨rfl, rfl⟩ | ⟨hn1, rfl⟩
      all_goals
        go_wp2_with (first | (go_at_call 20; refine (rput_any _ _ Hm.out).mono ?_; rintro e w2 ⟨ao, cap, rfl, hrd, hb2⟩) | (go_at_call 16; refine (known_any _).mono ?_; rintro e w5 ⟨rfl, hb5⟩) | (go_at_call 19; refine (may_true _ _ Hm.out).mono ?_; rintro e w4 ⟨rfl, rfl⟩) | (go_at_call 21; refine (may_any _ _).mono ?_; rintro e w4 ⟨rfl, rfl⟩; rw [Hm.out]) | (go_at_call 22; refine (size_any _ _).mono ?_; rintro e w4 ⟨rfl, rfl⟩; rw [h0.out]) | (go_at_call 23; refine (num_any _ _).mono ?_; rintro e w4 ⟨rfl, rfl⟩))
        go_ret
        have hb12 := hb1.trans (hb2.mono hb1.size)
        exact ⟨rfl, hb12.trans (hb5.mono hb12.size)⟩
end Go.Proofs.Ytpkabinmnkadeaa.Utf
