/-
  The walk of the reference's Next.
-/
import Derived.Test.YtpkabinmnkadeaaUf
import Derived.Deep.QuietTactic
import Derived.BigQuiet
import Derived.Deep.RegionLaw
namespace Go.Proofs.Ytpkabinmnkadeaa.Utf
open Go.RowKit Go.Proofs.Ytpkabinmnkadeaa.Mem
attribute [local go_sem ↓] Go.wp_at_zero Go.wp_at_succ

def md (n : Nat) : Int := if n = 2 then 32 else if n = 3 then 16 else if n = 4 then 8 else 1
def cj (l : List UInt8) (n j : Nat) : Int := if j = 0 then (if 1 < n then bt l 0 % md n else bt l 0) else bt l j % 64
def rv (l : List UInt8) (n : Nat) : Nat → Int
  | 0 => 0
  | j + 1 => 64 * rv l n j + cj l n j
theorem cj_bd (l : List UInt8) (n j : Nat) : 0 ≤ cj l n j ∧ cj l n j < 256 := by
  have := bt_lo l 0; have := bt_hi l 0; have := bt_lo l j; have := bt_hi l j
  unfold cj md; repeat' split
  all_goals omega
theorem cj_bd2 (l : List UInt8) (n j : Nat) (h : 0 < j) : cj l n j < 64 := by
  have := bt_lo l j; have := bt_hi l j
  unfold cj; rw [if_neg (by omega)]; omega
theorem rv_bd (l : List UInt8) (n : Nat) : ∀ j, j ≤ 4 → 0 ≤ rv l n j ∧ rv l n j < 8 * 64 ^ j
  | 0, _ => ⟨Int.le_refl _, by rw [rv]; decide⟩
  | j + 1, h => by
    have ih := rv_bd l n j (by omega)
    have hc := cj_bd l n j
    rw [rv, Int.pow_succ]
    by_cases hj : j = 0
    · subst hj
      simp only [rv] at ih ⊢; omega
    · have := cj_bd2 l n j (by omega)
      omega
/-- Does a rune of n bytes stand at the front? -/
def found (l : List UInt8) (n : Nat) : Prop := may (rv l n n) = true ∧ enc (rv l n n) = l.take n
theorem rv_enc (l : List UInt8) (r : Int) (n : Nat) (hm : may r = true) (he : l.take n = enc r) (hn : n = (enc r).length) (hnl : n ≤ l.length) : rv l n n = r := by
  have hb := nums_bd r hm
  have h' := hm
  rw [may_iff] at h'; obtain ⟨h0, h1, h2⟩ := h'
  rw [enc_len] at hn
  have hB : ∀ i, i < (nums r).length → bt l i = (nums r).getD i 0 := fun i hi => by
    have h1 : l = enc r ++ l.drop n := by rw [← he, List.take_append_drop]
    rw [h1, bt_app _ _ _ (by rw [enc_len]; exact hi), bt_enc r i hi hb]
  have hl := nums_len r
  by_cases c1 : r ≤ 127
  · have hn2 : nums r = [r] := by unfold nums; rw [if_pos c1]
    rw [hn2] at hB hn
    have b0 := hB 0 (by simp); simp at b0 hn; subst hn
    simp [rv, cj, b0]
  by_cases c2 : r ≤ 2047
  · have hn2 : nums r = [192 + r / 64, 128 + r % 64] := by unfold nums; rw [if_neg c1, if_pos c2]
    rw [hn2] at hB hn
    have b0 := hB 0 (by simp); have b1 := hB 1 (by simp); simp at b0 b1 hn; subst hn
    simp [rv, cj, md, b0, b1]; omega
  by_cases c3 : r ≤ 65535
  · have hn2 : nums r = [224 + r / 4096, 128 + r / 64 % 64, 128 + r % 64] := by unfold nums; rw [if_neg c1, if_neg c2, if_pos c3]
    rw [hn2] at hB hn
    have b0 := hB 0 (by simp); have b1 := hB 1 (by simp); have b2 := hB 2 (by simp); simp at b0 b1 b2 hn; subst hn
    simp [rv, cj, md, b0, b1, b2]; omega
  · have hn2 : nums r = [240 + r / 262144, 128 + r / 4096 % 64, 128 + r / 64 % 64, 128 + r % 64] := by unfold nums; rw [if_neg c1, if_neg c2, if_neg c3]
    rw [hn2] at hB hn
    have b0 := hB 0 (by simp); have b1 := hB 1 (by simp); have b2 := hB 2 (by simp); have b3 := hB 3 (by simp); simp at b0 b1 b2 b3 hn; subst hn
    simp [rv, cj, md, b0, b1, b2, b3]; omega
theorem nx_found (l : List UInt8) (n : Nat) (h : found l n) (hn : n ≤ l.length) : nx l = (rv l n n, n) := nx_of_take l _ n h.1 h.2 hn
theorem nx_lost (l : List UInt8) (h : ∀ n, 1 ≤ n → n ≤ 4 → n ≤ l.length → ¬ found l n) : nx l = (0, 0) := by
  apply nx_zero
  by_cases h0 : (nx l).2 = 0
  · exact h0
  · obtain ⟨a, b, c, d⟩ := nx_some l (nx l).1 (nx l).2 rfl h0
    have hr := rv_enc l (nx l).1 (nx l).2 a d b c
    exact absurd ⟨by rw [hr]; exact a, by rw [hr]; exact d.symm⟩ (h (nx l).2 (by omega) (nx_le4 l) c)

theorem ext_take (s : ByteArray) (i : Nat) {l : List UInt8} (h : l = (s.extract 0 i).toList) : l = s.data.toList.take i := by
  rw [h, ByteArray.toList_eq]; simp [ByteArray.extract, ByteArray.copySlice]
theorem ext_take' (s : ByteArray) (i : Nat) {l : List UInt8} (h : l = s.data.toList.take i) : l = (s.extract 0 i).toList := by
  rw [h, ByteArray.toList_eq]; simp [ByteArray.extract, ByteArray.copySlice]
theorem may_false (r : Int) (w : World) (h : may r = false) : Calls Try.prog 19 #[.int .i32 r] w fun e w' => e = .returned (.bool false) ∧ w' = w :=
  (rmay_any r w).mono fun e w' ⟨he, hw⟩ => ⟨by rw [he, h], hw.symm⟩
theorem may_true (r : Int) (w : World) (h : may r = true) : Calls Try.prog 19 #[.int .i32 r] w fun e w' => e = .returned (.bool true) ∧ w = w' :=
  (rmay_any r w).mono fun e w' ⟨he, hw⟩ => ⟨by rw [he, h], hw⟩
set_option maxRecDepth 100000 in
set_option maxHeartbeats 1000000 in
theorem rnext_any (s : ByteArray) (w : World) (hs : s.size ≤ maxLen) :
    Calls Try.prog 18 #[.string s] w fun e w' => e = .returned (.tuple #[.int .i32 (nx s.data.toList).1, .int .i64 ((nx s.data.toList).2 : Int)]) ∧ Below w.heap.size w w' := by
  unfold maxLen at hs
  go_enter Try.func18, Try.ntmps18
  go_wp2
  go_loopw [4] (fun i wr => ∃ k : Nat, 1 ≤ k ∧ k ≤ 5 ∧ i = .int .i64 k ∧ Hid (∀ n, 1 ≤ n → n < k → n ≤ s.data.toList.length → ¬ found s.data.toList n) ∧ Below w.heap.size w wr) (fun i _ => 5 - (intOf i).toNat)
  case atStart => exact ⟨1, Nat.le_refl _, by omega, rfl, Lib.hid (fun n h1 h2 => by omega), Below.refl _ _⟩
  case round =>
    obtain ⟨k, hk1, hk5, rfl, Hf, hbel⟩ := hrel
    by_cases hlt : k ≤ 4 ∧ k ≤ s.size
    · obtain ⟨hk4, hks⟩ := hlt
      have t1 : decide ((k : Int) ≤ 4) = true := by simp; omega
      have t2 : decide ((k : Int) ≤ (s.size : Int)) = true := by simp; omega
      go_wp2
      obtain ⟨wo, hwo⟩ : ∃ wo : World, wo = wr := ⟨_, rfl⟩
      subst hwo
      go_loopw [5, 6] (fun r j wi => ∃ i : Nat, i ≤ k ∧ j = .int .i64 i ∧ r = .int .i32 (rv s.data.toList k i) ∧ Below w.heap.size w wi) (fun _ j _ => k - (intOf j).toNat)
      case atStart => exact ⟨0, Nat.zero_le _, rfl, rfl, hbel⟩
      case round =>
        obtain ⟨i, hik, rfl, rfl, hbi⟩ := hrel
        by_cases hil : i < k
        · have hb := Lib.hid (by_at s i (by omega))
          have hu0 : (0 : Int) ≤ ((s[i]'(by omega)).toNat : Int) := by omega
          have hu1 : ((s[i]'(by omega)).toNat : Int) < 256 := by have := UInt8.toNat_lt (s[i]'(by omega)); omega
          have hrb := rv_bd s.data.toList k i (by omega)
          have hp : (64 : Int) ^ i ≤ 262144 := by
            rcases (by omega : i = 0 ∨ i = 1 ∨ i = 2 ∨ i = 3) with rfl | rfl | rfl | rfl <;> decide
          have hr8 : rv s.data.toList k i < 2097152 := by omega
          have hr0 : 0 ≤ rv s.data.toList k i := hrb.1
          have hstep := Lib.hid (show rv s.data.toList k (i + 1) = 64 * rv s.data.toList k i + cj s.data.toList k i from rfl)
          have hmd1 : 1 ≤ md k := by unfold md; repeat' split <;> omega
          have hmd2 : md k ≤ 32 := by unfold md; repeat' split <;> omega
          clear hrb hp
          have hq0 : 0 ≤ ((s[i]'(by omega)).toNat : Int) % md k := Int.emod_nonneg _ (by omega)
          have hq1 : ((s[i]'(by omega)).toNat : Int) % md k < 32 := Int.lt_of_lt_of_le (Int.emod_lt_of_pos _ (by omega)) hmd2
          by_cases hi0 : i = 0
          · have z1 : decide ((i : Int) = 0) = true := by simp; omega
            have z2 : ((i : Int) == 0) = true := by simp; omega
            have z3 : i ≤ 0 := by omega
            by_cases hk2 : 1 < k
            · have hcell : (wr.alloc (Obj.cells #[.int .i32 1, .int .i32 1, .int .i32 32, .int .i32 16, .int .i32 8] 21)).cell? ⟨wr.heap.size, k, none⟩ = some (.int .i32 (md k)) := by
                rw [World.cell?_alloc_mark]
                rcases (by omega : k = 2 ∨ k = 3 ∨ k = 4) with rfl | rfl | rfl <;> rfl
              have hc := Lib.hid (show cj s.data.toList k i = bt s.data.toList i % md k by unfold cj; rw [if_pos hi0, if_pos hk2, hi0])
              clear hi0
              go_wp2
              go_roundw
              case rel => exact ⟨i + 1, by omega, by go_num, congrArg (Value.int .i32) (by rw [hstep.out, hc.out, hb.out]), hbi.alloc hbi.size _⟩
              case measure => simp [intOf]; omega
            · have hc := Lib.hid (show cj s.data.toList k i = bt s.data.toList i by unfold cj; rw [if_pos hi0, if_neg hk2, hi0])
              clear hi0
              go_wp2
              go_roundw
              case rel => exact ⟨i + 1, by omega, by go_num, congrArg (Value.int .i32) (by rw [hstep.out, hc.out, hb.out]), hbi⟩
              case measure => simp [intOf]; omega
          · have z1 : decide ((i : Int) = 0) = false := by simp; omega
            have z2 : ((i : Int) == 0) = false := by simp; omega
            have z3 : 0 < i := by omega
            have hc := Lib.hid (show cj s.data.toList k i = bt s.data.toList i % 64 by unfold cj; rw [if_neg hi0])
            clear hi0
            go_wp2
            go_roundw
            case rel => exact ⟨i + 1, by omega, by go_num, congrArg (Value.int .i32) (by rw [hstep.out, hc.out, hb.out]), hbi⟩
            case measure => simp [intOf]; omega
        · have hkn : i = k := by omega
          subst hkn
          have hd := len_data s
          have Hd := Lib.hid hd
          clear hd
          generalize hr : rv s.data.toList i i = r at *
          have Hr := Lib.hid hr
          clear hr
          cases hm : may r
          · have Hm := Lib.hid hm
            clear hm
            go_wp2
            go_quiet ((go_at_call 19; refine Calls.quiet_of_same (may_false _ _ Hm.out)))
            go_wp2
            go_roundw
            case rel => exact ⟨i + 1, by omega, by omega, by go_num, Lib.hid (fun n h1 h2 h3 => by
                rcases Nat.lt_succ_iff_lt_or_eq.1 h2 with h | rfl
                · exact Hf.out n h1 h h3
                · intro hf; rw [found, Hr.out, Hm.out] at hf; cases hf.1), below_drewN hbi _⟩
            case measure => simp [intOf]; omega
          · have Hm := Lib.hid hm
            clear hm
            go_wp2
            go_region_law ((first | (go_simp; go_at_call 19; refine (may_true _ _ Hm.out).mono ?_; rintro e w' ⟨rfl, rfl⟩; dsimp only) | (go_simp; go_at_call 20; refine (rput_any _ _ Hm.out).mono ?_; rintro e w1 ⟨ao1, cap1, rfl, hrd1, hb1⟩; have hcv := run_str (P := Try.prog) w1 22 9 5 Try.underlying22 Try.underlying5 Try.underlying9 ao1 _ cap1 _ hrd1; dsimp only)))
            have hbw : Below w.heap.size w w1 := hbi.drew.trans (hb1.mono hbi.size)
            go_wp2
            · have ht : (enc r == (s.extract 0 i).toList) = true := by assumption
              have he := ext_take s i (eq_of_beq ht)
              have hx := nx_found s.data.toList i ⟨by rw [Hr.out]; exact Hm.out, by rw [Hr.out]; exact he⟩ (by rw [Hd.out]; omega)
              go_ret2
              exact ⟨ret2 (by rw [hx, Hr.out]) (by rw [hx]), hbw⟩
            · have ht : (enc r == (s.extract 0 i).toList) = false := by assumption
              go_roundw
              case rel => exact ⟨i + 1, by omega, by omega, by go_num, Lib.hid (fun n h1 h2 h3 => by
                  rcases Nat.lt_succ_iff_lt_or_eq.1 h2 with h | rfl
                  · exact Hf.out n h1 h h3
                  · intro hf; rw [found, Hr.out] at hf
                    have := ext_take' s n hf.2
                    rw [this, beq_self_eq_true] at ht; cases ht), hbw⟩
              case measure => simp [intOf]; omega
    · go_wp2
      all_goals
        go_ret2
        have hz := nx_lost s.data.toList (fun n h1 h2 h3 => Hf.out n h1 (by rw [len_data] at h3; omega) h3)
        exact ⟨ret2 (by rw [hz]) (by rw [hz]; rfl), hbel⟩
end Go.Proofs.Ytpkabinmnkadeaa.Utf
