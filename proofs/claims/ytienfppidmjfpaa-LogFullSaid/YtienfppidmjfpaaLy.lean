/-
  The walk of LogFull.
-/
import Derived.Test.YtienfppidmjfpaaLx
import Derived.Test.YtienfppidmjfpaaLv
namespace Go.Proofs.Ytienfppidmjfpaa.Msg
open Go.RowKit Go.Lib Go.Proofs.Ytienfppidmjfpaa.Mem Go.Proofs.Ytienfppidmjfpaa.Tlv

def reqF : RV := ⟨1, 2, lookA⟩
/-- Behind k rounds. -/
structure FullAt (w : World) (k : Nat) (l s : Value) (wr : World) : Prop where
  log : LogW w.heap.size w.heap.size 0 l s (List.replicate (min k 4096) reqF) (List.replicate (min k 4096) 50) wr
  box : wr.heap[w.heap.size + 1]? = some reqF.box
  l : l.ownBlock ≠ some (w.heap.size + 1)
  s : s.ownBlock ≠ some (w.heap.size + 1)
  bel : Below w.heap.size w wr
theorem FullAt.later {w : World} {k : Nat} {l s : Value} {wr W' : World} (h : FullAt w k l s wr) (hb : Below wr.heap.size wr W') : FullAt w k l s W' :=
  ⟨h.log.later hb, (hb.block _ (Array.getElem?_eq_some_iff.1 h.box).1).trans h.box, h.l, h.s, h.bel.trans (hb.mono h.bel.size)⟩
theorem sum_rep (k : Nat) : (List.replicate k (50 : Int)).sum = 50 * k := by
  induction k with
  | zero => rfl
  | succ k ih => rw [List.replicate_succ, List.sum_cons, ih]; omega

set_option maxRecDepth 100000 in
set_option maxHeartbeats 4000000 in
theorem logFull_in (n : Nat) (hn : n ≤ 4200) (w : World) : Calls Try.prog 3 #[.int .i64 (n : Int)] w (GivesB true w) := by
  have f1 : decide ((n : Int) < 0) = false := decide_eq_false (by omega)
  have f2 : decide ((4200 : Int) < (n : Int)) = false := decide_eq_false (by omega)
  go_enter Try.func3, Try.ntmps3
  go_wp2_with fail
  refine (newLog_any w).mono ?_
  rintro e w1 ⟨rfl, rfl⟩
  go_wp2_with fail
  generalize hg : (w.alloc _).alloc _ = W0
  have h0 : FullAt w 0 (.slice none 0 0) (.slice none 0 0) W0 := by
    obtain ⟨q1, q2⟩ := two_boxes w (.cells #[.bool true, .int .u64 0, .slice none 0 0, .slice none 0 0] 42) reqF.box
    have e : (w.alloc (.cells #[.bool true, .int .u64 0, .slice none 0 0, .slice none 0 0] 42)).alloc reqF.box = W0 := by simp only [reqF, RV.box, RV.cells, lookA]; exact hg
    rw [← e]
    exact ⟨⟨q1, Nat.le_refl _, World.ownsRow_nil _ _ _ _, World.ownsRow_nil _ _ _ _⟩, q2, by simp [Value.ownBlock], by simp [Value.ownBlock], below_two w _ _⟩
  clear hg
  go_loopw [5] (fun p wr => ∃ k : Nat, k ≤ n ∧ p = .int .i64 (k : Int) ∧ ∃ l s, FullAt w k l s wr) (fun p _ => n - (intOf p).toNat)
  case atStart => exact ⟨0, Nat.zero_le _, rfl, _, _, h0⟩
  case round =>
    obtain ⟨k, hk, rfl, l, s, hF⟩ := hrel
    by_cases hkn : k < n
    · obtain ⟨c0, c1, c2, c3, c4, c5, c6, c7, c8, -⟩ := rbox_all hF.box
      by_cases hk4 : k < 4096
      · have hmin : min k 4096 = k := by omega
        have hL := hF.log
        rw [hmin] at hL
        have happ := append_ok2 w.heap.size w.heap.size 0 l s (List.replicate k reqF) (List.replicate k 50) reqF noC (opL lookA noC) wr hL (lookA_plain.at_ wr) lookA_ok (show (0 : Int) ≤ 1 by decide) (show (0 : Int) ≤ 2 by decide) (by rw [List.length_replicate]; exact hk4)
          (fun z hz => by rw [List.eq_of_mem_replicate hz]; decide) (by rw [sum_rep, lookA_len]; omega) (lookA_plain.apart l) (by decide) (by decide)
        have hlen : (List.replicate k reqF).length = k := List.length_replicate
        have Hlen := Lib.hid hlen
        clear hlen
        have g1 : decide ((k : Int) < 4096) = true := decide_eq_true (by omega)
        have g2 : decide ((4096 : Int) ≤ (k : Int)) = false := decide_eq_false (by omega)
        have g3 : IntKind.wrap .u64 ((k : Int) + 1) = (k : Int) + 1 := by show ((k : Int) + 1) % 18446744073709551616 = k + 1; omega
        obtain ⟨Q, hQ⟩ : ∃ Q, Q = GivesA2 w.heap.size w.heap.size 0 l s (List.replicate k reqF) (List.replicate k 50) reqF noC (((opL lookA noC).length + 31 : Nat) : Int) wr := ⟨_, rfl⟩
        rw [← hQ] at happ
        have HQ := Lib.hid hQ
        simp only [RV.val, RV.cells, reqF, lookA] at happ c0 c1 c2 c3 c4 c5 c6 c7 c8
        clear hL hmin hQ
        go_wp2_with fail
        refine happ.mono ?_
        rintro e w2 hA
        rw [HQ.out] at hA
        obtain ⟨u, l', s', rfl, hL', hcu, -, hbel, ⟨hsz, hBut⟩, fr1, fr2⟩ := hA
        have hu := lookA_plain.copy hcu
        subst hu
        rw [show (0 : Int) + ((List.replicate k reqF).length : Int) + 1 = (k : Int) + 1 from by rw [Hlen.out]; omega]
        have hbx := (Array.getElem?_eq_some_iff.1 hF.box).1
        have hF' : FullAt w (k + 1) l' s' w2 := by
          have hmin : min (k + 1) 4096 = k + 1 := by omega
          refine ⟨?_, ?_, fun e => ?_, fun e => ?_, hF.bel.trans hbel⟩
          · rw [hmin, List.replicate_succ', List.replicate_succ']
            rw [lookA_len] at hL'
            exact hL'
          · exact (hBut _ hbx (by omega) (fun e => hF.l e.symm) (fun e => hF.s e.symm)).trans hF.box
          · rcases fr1 _ e with h | h
            · exact hF.l h
            · omega
          · rcases fr2 _ e with h | h
            · exact hF.s h
            · omega
        have HF := Lib.hid hF'
        clear hF' hL' hBut fr1 fr2 hcu hbel hsz c0 c1 c2 c3 c4 c5 c6 c7 c8 happ HQ
        go_wp2_with fail
        go_roundw
        case rel => exact ⟨k + 1, by omega, by go_num, l', s', HF.out⟩
        case measure => simp [intOf]; omega
      · have hmin : min k 4096 = 4096 := by omega
        have hL := hF.log
        rw [hmin] at hL
        have happ := append_full w.heap.size w.heap.size 0 l s (List.replicate 4096 reqF) (List.replicate 4096 50) reqF noC (opL lookA noC) wr hL (lookA_plain.at_ wr) lookA_ok (by rw [List.length_replicate]; exact Nat.le_refl _)
        have g1 : decide ((k : Int) < 4096) = false := decide_eq_false (by omega)
        have g2 : decide ((4096 : Int) ≤ (k : Int)) = true := decide_eq_true (by omega)
        simp only [RV.val, RV.cells, reqF, lookA] at happ c0 c1 c2 c3 c4 c5 c6 c7 c8
        clear hL
        go_wp2_with fail
        refine happ.mono ?_
        rintro e w2 ⟨rfl, hbel⟩
        have hF2 := hF.later hbel
        have HF : Hid (FullAt w (k + 1) l s w2) := Lib.hid (by
          obtain ⟨a1, a2, a3, a4, a5⟩ := hF2
          rw [hmin] at a1
          exact ⟨by rw [show min (k + 1) 4096 = 4096 from by omega]; exact a1, a2, a3, a4, a5⟩)
        clear hF2 c0 c1 c2 c3 c4 c5 c6 c7 c8 happ hmin
        go_wp2_with fail
        go_roundw
        case rel => exact ⟨k + 1, by omega, by go_num, l, s, HF.out⟩
        case measure => simp [intOf]; omega
    · have hkn2 : k = n := by omega
      subst hkn2
      obtain ⟨lo, lc, so, sc, e1, e2, hR⟩ := hF.log.rd
      have hbel := hF.bel
      rw [List.length_replicate] at hR
      clear e1 e2 hF
      go_wp2_with fail
      refine (len_any true w.heap.size 0 _ lo lc so sc _ _ wr hR).mono ?_
      rintro e w2 ⟨rfl, rfl⟩
      go_wp2_with fail
      all_goals first
        | (exfalso; omega)
        | (refine (known_any w2).mono ?_; rintro e w3 ⟨rfl, hb3⟩; go_wp2_with fail; go_ret; exact ⟨rfl, hbel.trans (hb3.mono hbel.size)⟩)
theorem logFull_any (n : Int) (w : World) : Calls Try.prog 3 #[.int .i64 n] w (GivesB true w) := by
  by_cases h1 : n < 0
  · have f1 : decide (n < 0) = true := by simp [h1]
    go_enter Try.func3, Try.ntmps3
    go_wp2_with fail
    refine (known_any w).mono ?_
    rintro e w1 ⟨rfl, hb⟩
    go_wp2_with fail
    go_ret
    exact ⟨rfl, hb⟩
  · by_cases h2 : 4200 < n
    · have f1 : decide (n < 0) = false := decide_eq_false h1
      have f2 : decide (4200 < n) = true := decide_eq_true h2
      go_enter Try.func3, Try.ntmps3
      go_wp2_with fail
      refine (known_any w).mono ?_
      rintro e w1 ⟨rfl, hb⟩
      go_wp2_with fail
      go_ret
      exact ⟨rfl, hb⟩
    · obtain ⟨m, rfl⟩ : ∃ m : Nat, n = (m : Int) := ⟨n.toNat, by omega⟩
      exact logFull_in m (by omega) w
end Go.Proofs.Ytienfppidmjfpaa.Msg
