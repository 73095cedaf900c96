/-
  A part of the proof: what this text holds is told at each of its declarations.
-/
import Derived.Test.YtgeafnggodkpaaaGreatZabf
namespace Go.Proofs.YtgeafnggodkpaaaGreat.Tlv
open Go.RowKit Go.Proofs.YtgeafnggodkpaaaGreat.Mem

theorem flag_bytes (s : RS) (t : UInt8) : s.flag t = if (s.bytes t).2.bad = true ∨ ¬ ((s.bytes t).1.length = 1 ∧ ((s.bytes t).1[0]?.getD 0).toNat ≤ 1) then (false, ⟨(s.bytes t).2.l, true⟩) else (decide (((s.bytes t).1[0]?.getD 0).toNat = 1), (s.bytes t).2) := by
  unfold RS.flag RS.bytes
  cases h : s.take t with
  | mk ox s' =>
    cases ox with
    | none =>
      have hb := take_none h
      dsimp only
      rw [if_pos (.inl hb), ← hb]
    | some x =>
      have hb := (take_some h).2.1
      dsimp only [Option.getD_some]
      by_cases h8 : x.length = 1 ∧ (x[0]?.getD 0).toNat ≤ 1
      · rw [if_pos h8, if_neg (fun h => h.elim (fun h => by rw [hb] at h; cases h) (fun h => h h8))]
      · rw [if_neg h8, if_pos (.inr h8)]

set_option maxRecDepth 100000 in
set_option maxHeartbeats 2000000 in
theorem rfflag_any (B g : Nat) (s : RS) (t : UInt8) (W : World) (hr : RfS B g s W) (hl : s.l.length ≤ 100000000) : Calls Tryz.prog 93 #[.pointer (some ⟨g, 0, none⟩), .int .u8 (t.toNat : Int)] W
    (GivesF B g (.bool (s.flag t).1) (s.flag t).2 W) := by
  have hc := rftake_any B g s t W hr hl
  unfold GivesTf at hc
  rw [flag_bytes]
  generalize s.bytes t = r at *
  obtain ⟨x, s'⟩ := r
  dsimp only at hc ⊢
  by_cases hb : s'.bad = true ∨ ¬ x.length = 1
  · rw [if_pos (hb.imp id (fun h k => h k.1))]
    have HB := Lib.hid hb
    clear hb
    go_enter Tryz.func93, Tryz.ntmps93
    go_wp2_with fail
    refine hc.mono ?_
    rintro e w' ⟨⟨ao1, cap1, h1⟩, h2, ao, cap, rfl, h3, h4⟩
    obtain ⟨c0, c1, z0, z1⟩ := rf_cells h1
    have Hf := Lib.hid h1.fail
    cases hs : s'.bad with
    | true =>
      rw [hs] at c1
      clear h1 hs
      go_wp2_with fail
      go_ret
      exact ⟨rfl, ⟨_, _, Hf.out⟩, grown_trans h2 (grown_set _ _ _ _)⟩
    | false =>
      rw [hs] at c1
      have f0 : ((x.length : Int) != 1) = true := by
        rw [bne_iff_ne]
        rcases HB.out with h | h
        · rw [hs] at h; cases h
        · omega
      clear h1 hs
      go_wp2_with fail
      go_ret
      exact ⟨rfl, ⟨_, _, Hf.out⟩, grown_trans h2 (grown_set _ _ _ _)⟩
  · simp only [not_or, Bool.not_eq_true, Decidable.not_not] at hb
    obtain ⟨hb1, h8⟩ := hb
    generalize hP : (if s'.bad = true ∨ ¬ (x.length = 1 ∧ (x[0]?.getD 0).toNat ≤ 1) then ((false, ⟨s'.l, true⟩) : Bool × RS) else (decide ((x[0]?.getD 0).toNat = 1), s')) = P
    have HP := Lib.hid hP
    clear hP
    go_enter Tryz.func93, Tryz.ntmps93
    go_wp2_with fail
    refine hc.mono ?_
    rintro e w' ⟨⟨ao1, cap1, h1⟩, h2, ao, cap, rfl, h4, _⟩
    obtain ⟨c0, c1, z0, z1⟩ := rf_cells h1
    have Hf := Lib.hid h1.fail
    rw [hb1] at c1
    have hle := h4.le
    obtain ⟨b, o, rfl, _, hcc⟩ := h4.some (by omega)
    have x0 : w'.cell? ⟨b, o, none⟩ = some (.int .u8 ((x[0]?.getD 0).toNat : Int)) := hcc 0 _ (byV_at x 0 (by omega))
    generalize (x[0]?.getD 0).toNat = q at *
    rw [h8]
    have H1 := Lib.hid h1
    have HB := Lib.hid hb1
    have H8 := Lib.hid h8
    clear h1 hb1 h8 hcc hc h4 hle
    by_cases hv : q ≤ 1
    · have f0 : decide ((1 : Int) < (q : Int)) = false := decide_eq_false (by omega)
      have HN : Hid (¬ (s'.bad = true ∨ ¬ (x.length = 1 ∧ q ≤ 1))) := Lib.hid (fun h => h.elim (fun h => by rw [HB.out] at h; cases h) (fun h => h ⟨H8.out, hv⟩))
      by_cases h1v : q = 1
      · have f1 : ((q : Int) == 1) = true := by rw [h1v]; rfl
        have HV := Lib.hid h1v
        clear hv h1v
        go_wp2_with fail
        go_ret
        rw [← HP.out, if_neg HN.out]
        exact ⟨by rw [decide_eq_true HV.out]; rfl, ⟨_, _, H1.out⟩, h2⟩
      · have f1 : ((q : Int) == 1) = false := by rw [beq_eq_false_iff_ne]; omega
        have HV := Lib.hid h1v
        clear hv h1v
        go_wp2_with fail
        go_ret
        rw [← HP.out, if_neg HN.out]
        exact ⟨by rw [decide_eq_false HV.out]; rfl, ⟨_, _, H1.out⟩, h2⟩
    · have f0 : decide ((1 : Int) < (q : Int)) = true := decide_eq_true (by omega)
      have HN : Hid (s'.bad = true ∨ ¬ (x.length = 1 ∧ q ≤ 1)) := Lib.hid (.inr (fun h => hv h.2))
      clear hv
      go_wp2_with fail
      go_ret
      rw [← HP.out, if_pos HN.out]
      exact ⟨rfl, ⟨_, _, Hf.out⟩, grown_trans h2 (grown_set _ _ _ _)⟩
end Go.Proofs.YtgeafnggodkpaaaGreat.Tlv
