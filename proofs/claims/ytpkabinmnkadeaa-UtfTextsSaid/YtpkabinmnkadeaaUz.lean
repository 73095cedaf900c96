/-
  The walk of UtfTexts.
-/
import Derived.Test.YtpkabinmnkadeaaUy
import Derived.Test.YtpkabinmnkadeaaUm
namespace Go.Proofs.Ytpkabinmnkadeaa.Utf
open Go.RowKit Go.Shelf Go.Proofs.Ytpkabinmnkadeaa.Mem

theorem texts_out (s : ByteArray) (leave : Int) (w : World) (h : 9000 < s.size) :
    Calls Try.prog 8 #[.string s, .int .i64 leave] w (GivesTrue w) := by
  go_enter Try.func8, Try.ntmps8
  go_wp2_with (go_at_call 16; refine (known_any _).mono ?_; rintro e w' ⟨rfl, hb⟩)
  go_ret
  exact ⟨rfl, hb⟩

set_option maxRecDepth 100000 in
set_option maxHeartbeats 2000000 in
theorem texts_in (s : ByteArray) (leave : Int) (w : World) (h : s.size ≤ 9000) :
    Calls Try.prog 8 #[.string s, .int .i64 leave] w (GivesTrue w) := by
  have hrl : (runes s.data.toList).length ≤ s.size := by have := runes_len s.data.toList; rwa [len_data] at this
  have hwl := wh_le s.data.toList
  rw [len_data] at hwl
  go_enter Try.func8, Try.ntmps8
  go_wp2_with fail
  refine (rdecode_any s _ (by omega)).mono ?_
  rintro e w1 ⟨ao1, cap1, rfl, hrd1, hb1⟩
  by_cases hv : wh s.data.toList = s.size
  · have f1 : ((wh s.data.toList : Int) == (s.size : Int)) = true := by simp; omega
    have f2 : decide (wh s.data.toList < s.size) = false := by simp; omega
    have HV := Lib.hid hv
    have hl2 := hrl
    go_wp2_with fail
    refine (decode_yes s _ (by omega) HV.out).mono ?_
    rintro e w2 ⟨ao2, cap2, rfl, hrd2, hb2⟩
    have hrd1' := hrd1.later hb2
    have hbc2 := hb1.trans (hb2.mono hb1.size)
    generalize hN : (runes s.data.toList).length = N at *
    have HN := Lib.hid hN
    clear hN hv
    have hV1 : Hid (decide (wh s.data.toList = s.size) = true) := by show _ = _; rw [decide_eq_true_iff]; exact HV.out
    go_wp2_with (fail)
    refine (valid_any s _ (by omega)).mono ?_
    rintro e w3 ⟨rfl, hb3⟩
    rw [hV1.out]
    have hbc3 := hbc2.trans (hb3.mono hbc2.size)
    go_wp2_with fail
    refine (where_any s _ (by omega)).mono ?_
    rintro e w4 ⟨rfl, hb4⟩
    rw [HV.out]
    have hbc4 := hbc3.trans (hb4.mono hbc3.size)
    have hr4 := (hrd1'.later hb3).later hb4
    go_wp2_with fail
    refine (once_any s _ _ _ _ _ (by omega) hr4).mono ?_
    rintro e w5 ⟨rfl, hb5⟩
    have hbc5 := hbc4.trans (hb5.mono hbc4.size)
    have hr5 := hr4.later hb5
    go_wp2_with fail
    refine (once_any s _ _ _ _ _ (by omega) hr5).mono ?_
    rintro e w6 ⟨rfl, hb6⟩
    have hbc6 := hbc5.trans (hb6.mono hbc5.size)
    have hr6 := hr5.later hb6
    have hq6 := (((hrd2.later hb3).later hb4).later hb5).later hb6
    go_wp2_with fail
    refine (same_any _ _ _ _ _ _ _ _ _ hq6 hr6 (by omega)).mono ?_
    rintro e w7 ⟨rfl, hb7⟩
    have hbc7 := hbc6.trans (hb7.mono hbc6.size)
    have hsm : decide (runes s.data.toList = runes s.data.toList) = true := by simp
    rw [hsm]
    go_wp2_with (first | (go_at_call 23; refine (num_any _ _).mono ?_; rintro e w9 ⟨rfl, rfl⟩) | (go_at_call 16; refine (known_any _).mono ?_; rintro e w9 ⟨rfl, hb9⟩))
    go_ret
    exact ⟨rfl, hbc7.trans (hb9.mono hbc7.size)⟩
  · have f1 : ((wh s.data.toList : Int) == (s.size : Int)) = false := by simp; omega
    have f2 : decide (wh s.data.toList < s.size) = true := by simp; omega
    have HV := Lib.hid hv
    go_wp2_with fail
    refine (decode_no s _ (by omega) HV.out).mono ?_
    rintro e w2 ⟨rfl, hb2⟩
    have hrd1' := hrd1.later hb2
    have hbc2 := hb1.trans (hb2.mono hb1.size)
    have hV1 : Hid (decide (wh s.data.toList = s.size) = false) := by show _ = _; rw [decide_eq_false_iff_not]; exact HV.out
    clear hv
    generalize hN : (runes s.data.toList).length = N at *
    clear hN
    go_wp2_with (fail)
    refine (valid_any s _ (by omega)).mono ?_
    rintro e w3 ⟨rfl, hb3⟩
    rw [hV1.out]
    have hbc3 := hbc2.trans (hb3.mono hbc2.size)
    go_wp2_with fail
    refine (where_any s _ (by omega)).mono ?_
    rintro e w4 ⟨rfl, hb4⟩
    have hbc4 := hbc3.trans (hb4.mono hbc3.size)
    have hr4 := (hrd1'.later hb3).later hb4
    go_wp2_with fail
    refine (once_any s _ _ _ _ _ (by omega) hr4).mono ?_
    rintro e w5 ⟨rfl, hb5⟩
    have hbc5 := hbc4.trans (hb5.mono hbc4.size)
    have hr5 := hr4.later hb5
    go_wp2_with fail
    refine (once_any s _ _ _ _ _ (by omega) hr5).mono ?_
    rintro e w6 ⟨rfl, hb6⟩
    have hbc6 := hbc5.trans (hb6.mono hbc5.size)
    go_wp2_with (first | (go_at_call 23; refine (num_any _ _).mono ?_; rintro e w9 ⟨rfl, rfl⟩) | (go_at_call 16; refine (known_any _).mono ?_; rintro e w9 ⟨rfl, hb9⟩))
    go_ret
    exact ⟨rfl, hbc6.trans (hb9.mono hbc6.size)⟩

theorem texts_any (s : ByteArray) (leave : Int) (w : World) :
    Calls Try.prog 8 #[.string s, .int .i64 leave] w (GivesTrue w) := by
  by_cases h : 9000 < s.size
  · exact texts_out s leave w h
  · exact texts_in s leave w (by omega)
end Go.Proofs.Ytpkabinmnkadeaa.Utf
