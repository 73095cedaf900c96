/-
  The walk of the statement UtfMakes.
-/
import Derived.Test.YtpkabinmnkadeaaUh
namespace Go.Proofs.Ytpkabinmnkadeaa.Utf
open Go.RowKit Go.Proofs.Ytpkabinmnkadeaa.Mem

set_option maxRecDepth 100000 in
set_option maxHeartbeats 1000000 in
theorem makes_any (ao : Option Addr) (n cap : Nat) (l : List Int) (w : World) (hr : Rd w 1 ao n cap (ruV l)) : Calls Try.prog 5 #[.slice ao n cap] w (GivesTrue w) := by
  have hle := hr.le
  have hm := hr.2.2.1
  unfold maxLen at hm
  by_cases hbig : 3000 < n
  · go_enter Try.func5, Try.ntmps5
    go_wp2_with (go_at_call 16; refine (known_any _).mono ?_; rintro e w2 ⟨rfl, hb⟩)
    go_ret
    exact ⟨rfl, hb⟩
  · have hl : l.length = n := by have := hr.1; rw [ruV_len] at this; omega
    have HL := Lib.hid hl
    clear hl
    by_cases hall : allMay l
    · have HM := Lib.hid hall
      clear hall
      go_enter Try.func5, Try.ntmps5
      go_wp2_with fail
      refine (encode_yes ao n cap l _ hr (by omega) HM.out).mono ?_
      rintro e w1 ⟨rfl, hb1⟩
      have hr1 := hr.later hb1
      go_wp2
      go_loop [5] (fun i => ∃ k : Nat, k ≤ n ∧ i = .int .i64 k) (fun i => n - (intOf i).toNat)
      case atStart => exact ⟨0, Nat.zero_le _, rfl⟩
      case round =>
        obtain ⟨k, hk, rfl⟩ := hrel
        by_cases hlt : k < n
        · obtain ⟨b, off, hao, hb, hc⟩ := hr1.some (by omega)
          subst hao
          have hcell := hc k _ (ruV_at l k (by rw [HL.out]; exact hlt))
          have hm := Lib.hid (HM.out (l[k]?.getD 0) (by rw [List.getElem?_eq_getElem (by rw [HL.out]; exact hlt)]; exact List.getElem_mem _))
          go_wp2_with (go_at_call 19; refine (may_true _ _ hm.out).mono ?_; rintro e w4 ⟨rfl, rfl⟩)
          go_round
          case rel => exact ⟨k + 1, by omega, by go_num⟩
          case measure => simp [intOf]; omega
        · go_wp2_with fail
          refine (rencode_yes ao n cap l _ hr1 (by omega) HM.out).mono ?_
          rintro e w2 ⟨rfl, hb2⟩
          go_wp2_with (first | (go_at_call 16; refine (known_any _).mono ?_; rintro e w5 ⟨rfl, hb5⟩) | (go_at_call 23; refine (num_any _ _).mono ?_; rintro e w4 ⟨rfl, rfl⟩))
          go_ret
          have hb12 := hb1.trans (hb2.mono hb1.size)
          exact ⟨rfl, hb12.trans (hb5.mono hb12.size)⟩
    · obtain ⟨q, q1, q2, q3⟩ := not_allMay hall
      have HM := Lib.hid hall
      have H2 := Lib.hid q2
      have H3 := Lib.hid q3
      have hqn : q < n := by rw [HL.out] at q1; exact q1
      clear hall q1 q2 q3
      go_enter Try.func5, Try.ntmps5
      go_wp2_with fail
      refine (encode_no ao n cap l _ hr (by omega) HM.out).mono ?_
      rintro e w1 ⟨rfl, hb1⟩
      have hr1 := hr.later hb1
      go_wp2
      go_loop [5] (fun i => ∃ k : Nat, k ≤ q ∧ i = .int .i64 k) (fun i => n - (intOf i).toNat)
      case atStart => exact ⟨0, Nat.zero_le _, rfl⟩
      case round =>
        obtain ⟨k, hk, rfl⟩ := hrel
        have hlt : k < n := by omega
        obtain ⟨b, off, hao, hb, hc⟩ := hr1.some (by omega)
        subst hao
        have hcell := hc k _ (ruV_at l k (by rw [HL.out]; exact hlt))
        by_cases hkq : k < q
        · have hm := Lib.hid (H3.out k hkq)
          go_wp2_with (go_at_call 19; refine (may_true _ _ hm.out).mono ?_; rintro e w4 ⟨rfl, rfl⟩)
          go_round
          case rel => exact ⟨k + 1, by omega, by go_num⟩
          case measure => simp [intOf]; omega
        · obtain rfl : k = q := by omega
          go_wp2_with (first | (go_at_call 19; refine (rmay_any _ _).mono ?_; rintro e w4 ⟨rfl, rfl⟩; rw [H2.out]) | (go_at_call 16; refine (known_any _).mono ?_; rintro e w5 ⟨rfl, hb5⟩) | (go_at_call 23; refine (num_any _ _).mono ?_; rintro e w4 ⟨rfl, rfl⟩))
          go_ret
          exact ⟨rfl, hb1.trans (hb5.mono hb1.size)⟩
end Go.Proofs.Ytpkabinmnkadeaa.Utf
