/-
  A part of the proof: what this text holds is told at each of its declarations.
-/
import Derived.Test.YtgeafnggodkpaaaGreatZabd
namespace Go.Proofs.YtgeafnggodkpaaaGreat.Msg
open Go.RowKit Go.Lib Go.Proofs.YtgeafnggodkpaaaGreat.Mem Go.Proofs.YtgeafnggodkpaaaGreat.Tlv

theorem bareQ_at (W : World) (k : Int) : QAt W (bareQ k) ⟨[], []⟩ := ⟨⟨Rd.nil _ _, fun _ hp => absurd hp List.not_mem_nil⟩, Rd.nil _ _, Nat.zero_le _⟩
/-- Entries that may be, all of them, are not too many bytes. -/
def ShortQ (c : QC) : Prop := (∀ p ∈ c.ents, mayEntry p.1 p.2 = true) → (entsB c.ents).length ≤ 4194304
theorem mayRes_zero {v : QV} {c : QC} (h : v.code = 0) (hl : ShortQ c) : mayRes v c = !(decide (1000 < v.en) || (c.ents.any fun u => !mayEntry u.1 u.2) || decide (4000 < v.cn)) := by
  unfold mayRes
  rw [if_pos h]
  cases ha : (c.ents.any fun u => !mayEntry u.1 u.2) with
  | true => simp
  | false =>
    have hall : ∀ p ∈ c.ents, mayEntry p.1 p.2 = true := fun p hp => by
      have := List.any_eq_false.1 ha p hp
      simpa using this
    rw [decide_eq_true (hl hall), Bool.and_true]
set_option maxRecDepth 100000 in
set_option maxHeartbeats 4000000 in
theorem mayRes_any (v : QV) (c : QC) (w : World) (h : QAt w v c) (hlen : ShortQ c) : Calls Tryz.prog 31 #[v.val] w (GivesB (mayRes v c) w) := by
  have hb0 : Below w.heap.size w (w.alloc v.box) := (Below.refl _ _).alloc (Nat.le_refl _) _
  have k0 : (w.alloc v.box).heap[w.heap.size]? = some v.box := by show (w.heap.push _)[w.heap.size]? = some _; exact Array.getElem?_push_size
  unfold QV.box QV.cells at hb0 k0
  unfold QV.val QV.cells
  by_cases hc0 : v.code = 0
  case neg =>
    have f1 : (v.code == 0) = false := by simp [hc0]
    have g1 : (v.code != 0) = true := by simp [hc0]
    have HM : Hid (mayRes v c = (decide (0 < v.code) && decide (v.code ≤ 14) && sameRes v c (bareQ v.code) ⟨[], []⟩)) := Lib.hid (by unfold mayRes; rw [if_neg hc0])
    clear hc0
    go_enter Tryz.func31, Tryz.ntmps31
    go_upto_region 1 with fail
    generalize hg : w.alloc _ = W0 at *
    have q0 : W0.heap[w.heap.size]? = some v.box := k0
    clear hg k0
    obtain ⟨c0, c1, c2, c3, -⟩ := qbox_all q0
    by_cases h1 : 0 < v.code
    · have f2 : decide (0 < v.code) = true := decide_eq_true h1
      have H1 := Lib.hid h1
      clear h1
      by_cases h2 : v.code ≤ 14
      · have f3 : decide (v.code ≤ 14) = true := decide_eq_true h2
        have H2 := Lib.hid h2
        clear h2
        have hs := sameRes_any v (bareQ v.code) c ⟨[], []⟩ W0 (h.later hb0) (bareQ_at _ _)
        unfold QV.val QV.cells bareQ at hs
        dsimp only at hs
        go_wp2_with fail
        refine hs.mono ?_
        rintro e W1 ⟨rfl, hb1⟩
        go_wp2_with fail
        go_ret
        exact ⟨by rw [HM.out, decide_eq_true H1.out, decide_eq_true H2.out]; simp only [Bool.true_and]; rfl, hb0.trans (hb1.mono hb0.size)⟩
      · have f3 : decide (v.code ≤ 14) = false := decide_eq_false h2
        have H2 := Lib.hid h2
        clear h2
        go_wp2_with fail
        go_ret
        exact ⟨by rw [HM.out, decide_eq_false (by have := H2.out; omega : ¬ v.code ≤ 14)]; simp, hb0⟩
    · have f2 : decide (0 < v.code) = false := decide_eq_false h1
      have H1 := Lib.hid h1
      clear h1
      go_wp2_with fail
      go_ret
      exact ⟨by rw [HM.out, decide_eq_false (by have := H1.out; omega : ¬ 0 < v.code)]; simp, hb0⟩
  have f1 : (v.code == 0) = true := by simp [hc0]
  have g1 : (v.code != 0) = false := by simp [hc0]
  have HM : Hid (mayRes v c = !(decide (1000 < v.en) || (c.ents.any fun u => !mayEntry u.1 u.2) || decide (4000 < v.cn))) := Lib.hid (mayRes_zero hc0 hlen)
  have HC := Lib.hid hc0
  clear hc0
  go_enter Tryz.func31, Tryz.ntmps31
  go_upto_region 1 with fail
  generalize hg : w.alloc _ = W0 at *
  have q0 : W0.heap[w.heap.size]? = some v.box := k0
  clear hg k0
  obtain ⟨c0, c1, c2, c3, -⟩ := qbox_all q0
  by_cases hn : 1000 < v.en
  case pos =>
    have f2 : decide ((1000 : Int) < (v.en : Int)) = true := decide_eq_true (by omega)
    have HN := Lib.hid hn
    clear hn
    go_wp2_with fail
    go_ret
    exact ⟨by rw [HM.out, decide_eq_true HN.out]; simp, hb0⟩
  have f2 : decide ((1000 : Int) < (v.en : Int)) = false := decide_eq_false (by omega)
  have HN := Lib.hid hn
  clear hn
  go_wp2_with fail
  refine (contains_ent v.eo v.en v.ec c.ents W0 (h.later hb0).e).mono ?_
  rintro e W1 ⟨rfl, hb1⟩
  have q1 := (hb1.block _ (Array.getElem?_eq_some_iff.1 q0).1).trans q0
  have hbel := hb0.trans (hb1.mono hb0.size)
  clear c0 c1 c2 c3
  obtain ⟨c0, c1, c2, c3, -⟩ := qbox_all q1
  cases ha : (c.ents.any fun u => !mayEntry u.1 u.2) with
  | true =>
    have HA := Lib.hid ha
    clear ha
    go_wp2_with fail
    go_ret
    exact ⟨by rw [HM.out, HA.out]; simp, hbel⟩
  | false =>
    have HA := Lib.hid ha
    clear ha
    by_cases hcn : 4000 < v.cn
    · have f3 : decide ((4000 : Int) < (v.cn : Int)) = true := decide_eq_true (by omega)
      have HK := Lib.hid hcn
      clear hcn
      go_wp2_with fail
      go_ret
      exact ⟨by rw [HM.out, decide_eq_true HK.out]; simp, hbel⟩
    · have f3 : decide ((4000 : Int) < (v.cn : Int)) = false := decide_eq_false (by omega)
      have HK := Lib.hid hcn
      have hrb := resBytes_any v c W1 (h.later hbel) (by rw [HC.out]; decide) (by rw [HC.out]; decide) (by have := HN.out; omega) (fun p hp => by
        have := List.any_eq_false.1 HA.out p hp
        simpa using this) (hlen (fun p hp => by
        have := List.any_eq_false.1 HA.out p hp
        simpa using this)) (by omega)
      unfold QV.val QV.cells at hrb
      clear hcn
      go_wp2_with (refine wpList_load_row q1 rfl rfl rfl (by kernel_rfl) (by kernel_rfl) ?_; go_simp)
      refine hrb.mono ?_
      rintro e W2 ⟨a2, x2, rfl, -, hb2, -⟩
      go_wp2_with fail
      go_ret
      exact ⟨by rw [HM.out, HA.out, decide_eq_false (by have := HK.out; omega : ¬ 4000 < v.cn), decide_eq_false (by have := HN.out; omega : ¬ 1000 < v.en)]; rfl, hbel.trans (hb2.mono hbel.size)⟩
end Go.Proofs.YtgeafnggodkpaaaGreat.Msg
namespace Go.Proofs.YtgeafnggodkpaaaGreat.Msg
open Go.RowKit Go.Lib Go.Proofs.YtgeafnggodkpaaaGreat.Mem Go.Proofs.YtgeafnggodkpaaaGreat.Tlv

/-- A result that may be: how great it is. -/
structure FitQ (v : QV) (c : QC) : Prop where
  c0 : 0 ≤ v.code
  c14 : v.code ≤ 14
  en : v.en ≤ 1000
  all : ∀ p ∈ c.ents, mayEntry p.1 p.2 = true
  len : (entsB c.ents).length ≤ 4194304
  cn : v.cn ≤ 4000
theorem sameEnts_nil : ∀ {l : List EP}, sameEnts l [] = true → l = []
  | [], _ => rfl
  | _ :: _, h => by simp [sameEnts] at h
theorem FitQ.of {W : World} {v : QV} {c : QC} (h : QAt W v c) (hm : mayRes v c = true) : FitQ v c := by
  have lx := h.e.len
  have lc : c.cursor.length = v.cn := by have := h.c.1; rw [byV_len] at this; omega
  unfold mayRes at hm
  by_cases h0 : v.code = 0
  · rw [if_pos h0] at hm
    simp only [Bool.and_eq_true, Bool.not_eq_true', Bool.or_eq_false_iff, decide_eq_false_iff_not, decide_eq_true_eq] at hm
    obtain ⟨⟨⟨h1, h2⟩, h3⟩, h4⟩ := hm
    exact ⟨by omega, by omega, by omega, fun p hp => (by
      have := List.any_eq_false.1 h2 p hp
      simpa using this), h4, by omega⟩
  · rw [if_neg h0] at hm
    simp only [Bool.and_eq_true, decide_eq_true_eq] at hm
    obtain ⟨⟨h1, h2⟩, h3⟩ := hm
    unfold sameRes at h3
    simp only [Bool.and_eq_true, decide_eq_true_eq] at h3
    obtain ⟨-, -, h4, h5⟩ := h3
    have e1 := sameEnts_nil h4
    rw [e1] at lx
    rw [h5] at lc
    have l0 : ([] : List EP).length = 0 := rfl
    have l1 : ([] : List UInt8).length = 0 := rfl
    refine ⟨by omega, by omega, by omega, fun p hp => ?_, ?_, by omega⟩
    · rw [e1] at hp; cases hp
    · rw [e1]; exact Nat.zero_le _
/-- A result's bytes, or the error. -/
def GivesRB (v : QV) (c : QC) (w : World) (e : Ending) (w' : World) : Prop := ∃ (l : List UInt8) (ax : Option Addr) (cx : Nat) (ex : Int), e = .returned (.tuple #[.slice ax l.length cx, .int .i64 ex]) ∧ Rd w' 1 ax l.length cx (byV l) ∧ Below w.heap.size w w' ∧ (∀ a, ax = some a → w.heap.size ≤ a.block) ∧ (mayRes v c = true → l = resL v c ∧ ex = 0) ∧ (mayRes v c = false → l = [] ∧ ex = 2)
set_option maxRecDepth 100000 in
set_option maxHeartbeats 4000000 in
theorem resBytesE_any (v : QV) (c : QC) (w : World) (h : QAt w v c) (hs : ShortQ c) : Calls Tryz.prog 27 #[v.val] w (GivesRB v c w) := by
  have hb0 : Below w.heap.size w (w.alloc v.box) := (Below.refl _ _).alloc (Nat.le_refl _) _
  have k0 : (w.alloc v.box).heap[w.heap.size]? = some v.box := by show (w.heap.push _)[w.heap.size]? = some _; exact Array.getElem?_push_size
  unfold QV.box QV.cells at hb0 k0
  unfold QV.val QV.cells
  go_enter Tryz.func27, Tryz.ntmps27
  go_upto_region 1 with fail
  generalize hg : w.alloc _ = W0 at *
  have q0 : W0.heap[w.heap.size]? = some v.box := k0
  have hm0 := mayRes_any v c W0 (h.later hb0) hs
  unfold QV.val QV.cells at hm0
  clear hg k0
  obtain ⟨c0, c1, c2, c3, -⟩ := qbox_all q0
  go_wp2_with fail
  refine hm0.mono ?_
  rintro e W1 ⟨rfl, hb1⟩
  have q1 := (hb1.block _ (Array.getElem?_eq_some_iff.1 q0).1).trans q0
  have hbel := hb0.trans (hb1.mono hb0.size)
  clear c0 c1 c2 c3 hm0
  cases hm : mayRes v c with
  | false =>
    have HM := Lib.hid hm
    clear hm
    go_wp2_with fail
    go_ret2
    exact ⟨[], none, 0, 2, rfl, Rd.nil _ _, hbel, (fun a ha => by cases ha), fun h => (by rw [HM.out] at h; cases h), fun _ => ⟨rfl, rfl⟩⟩
  | true =>
    have F := FitQ.of h hm
    have HM := Lib.hid hm
    have hr := resBytes_any v c W1 (h.later hbel) F.c0 (by have := F.c14; omega) F.en F.all F.len F.cn
    unfold QV.val QV.cells at hr
    clear hm F
    go_wp2_with (refine wpList_load_row q1 rfl rfl rfl (by kernel_rfl) (by kernel_rfl) ?_; go_simp)
    refine hr.mono ?_
    rintro e W2 ⟨ax, cx, rfl, hrd, hb2, hfr⟩
    go_wp2_with fail
    go_ret2
    exact ⟨_, ax, cx, 0, rfl, hrd, hbel.trans (hb2.mono hbel.size), fun a ha => Nat.le_trans hbel.size (hfr a ha), fun _ => ⟨rfl, rfl⟩, fun h => (by rw [HM.out] at h; cases h)⟩
end Go.Proofs.YtgeafnggodkpaaaGreat.Msg
