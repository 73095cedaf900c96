/-
  A part of the proof: what this text holds is told at each of its declarations.
-/
import Derived.Test.YtgeafnggodkpaaaGreatZaaa
import Derived.Test.YtgeafnggodkpaaaGreatZaag
namespace Go.Proofs.YtgeafnggodkpaaaGreat.Msg
open Go.RowKit Go.Lib Go.Proofs.YtgeafnggodkpaaaGreat.Mem Go.Proofs.YtgeafnggodkpaaaGreat.Utf

set_option maxRecDepth 100000 in
theorem rvalid_any (x : ByteArray) (w : World) (hs : x.size ≤ 1000) : Calls Tryz.prog 121 #[.string x] w (GivesB (decide (wh x.data.toList = x.size)) w) := by
  have hd := rdecode_any x w (by omega)
  go_enter Tryz.func121, Tryz.ntmps121
  go_wp2_with fail
  refine hd.mono ?_
  rintro e w1 ⟨ao, cap, rfl, -, hb1⟩
  by_cases h : wh x.data.toList = x.size
  · have h2 : ((wh x.data.toList : Int) == (x.size : Int)) = true := by simp [h]
    have h3 : decide (wh x.data.toList = x.size) = true := decide_eq_true h
    have H3 := Lib.hid h3
    clear h hd h3
    go_wp2_with fail
    go_ret
    exact ⟨by rw [H3.out]; rfl, hb1⟩
  · have h2 : ((wh x.data.toList : Int) == (x.size : Int)) = false := by simp; omega
    have h3 : decide (wh x.data.toList = x.size) = false := decide_eq_false h
    have H3 := Lib.hid h3
    clear h hd h3
    go_wp2_with fail
    go_ret
    exact ⟨by rw [H3.out]; rfl, hb1⟩
set_option maxRecDepth 100000 in
theorem rMayName_any (x : ByteArray) (w : World) : Calls Tryz.prog 61 #[.string x] w (GivesB (mayName x) w) := by
  by_cases h : x.size ≤ 1000
  · have hv := rvalid_any x w h
    have f1 : decide ((x.size : Int) ≤ 1000) = true := decide_eq_true (by omega)
    have H : Hid (mayName x = decide (wh x.data.toList = x.size)) := Lib.hid (by unfold mayName; rw [decide_eq_true h, Bool.true_and])
    clear h
    go_enter Tryz.func61, Tryz.ntmps61
    go_wp2_with fail
    refine hv.mono ?_
    rintro e w1 ⟨rfl, hb1⟩
    go_wp2_with fail
    go_ret
    exact ⟨by rw [H.out]; rfl, hb1⟩
  · have f1 : decide ((x.size : Int) ≤ 1000) = false := decide_eq_false (by omega)
    have H : Hid (mayName x = false) := Lib.hid (by unfold mayName; rw [decide_eq_false h, Bool.false_and])
    clear h
    go_enter Tryz.func61, Tryz.ntmps61
    go_wp2_with fail
    go_ret
    exact ⟨by rw [H.out]; rfl, Below.refl _ _⟩

theorem bt_at (x : ByteArray) (k : Nat) (h : k < x.size) : ∃ c ∈ x.data.toList, (c.toNat : Int) = bt x.data.toList k := by
  have hl : k < x.data.toList.length := by rw [len_data]; exact h
  exact ⟨x.data.toList[k], List.getElem_mem hl, by simp [bt, List.getD_eq_getElem?_getD, List.getElem?_eq_getElem hl]⟩
theorem bad_letter (x : ByteArray) (k : Nat) (h : k < x.size) (hc : typeB (bt x.data.toList k) = false) : mayType x = false := by
  obtain ⟨c, hm, e⟩ := bt_at x k h
  unfold mayType
  rw [show (x.data.toList.all fun c => typeB (c.toNat : Int)) = false from by
    rw [List.all_eq_false]
    exact ⟨c, hm, by rw [e, hc]; decide⟩, Bool.and_false]

set_option maxRecDepth 100000 in
set_option maxHeartbeats 1000000 in
theorem rMayAttr_any (x : ByteArray × ByteArray) (w : World) : Calls Tryz.prog 62 #[.agg #[.string x.1, .string x.2]] w (GivesB (mayAttr x) w) := by
  have hb0 : Below w.heap.size w (w.alloc (.cells #[.string x.1, .string x.2] 53)) := (Below.refl _ _).alloc (Nat.le_refl _) _
  by_cases h1 : x.1.size < 1
  · have f1 : decide ((x.1.size : Int) < 1) = true := decide_eq_true (by omega)
    have H : Hid (mayAttr x = false) := Lib.hid (by unfold mayAttr mayType; rw [decide_eq_false (by omega : ¬ 1 ≤ x.1.size)]; simp)
    clear h1
    go_enter Tryz.func62, Tryz.ntmps62
    go_wp2_with fail
    go_ret
    exact ⟨by rw [H.out]; rfl, hb0⟩
  have f1 : decide ((x.1.size : Int) < 1) = false := decide_eq_false (by omega)
  by_cases h2 : 32 < x.1.size
  · have f2 : decide ((32 : Int) < (x.1.size : Int)) = true := decide_eq_true (by omega)
    have H : Hid (mayAttr x = false) := Lib.hid (by unfold mayAttr mayType; rw [decide_eq_false (by omega : ¬ x.1.size ≤ 32)]; simp)
    clear h1 h2
    go_enter Tryz.func62, Tryz.ntmps62
    go_wp2_with fail
    go_ret
    exact ⟨by rw [H.out]; rfl, hb0⟩
  have f2 : decide ((32 : Int) < (x.1.size : Int)) = false := decide_eq_false (by omega)
  have s0 : 0 < x.1.size := by omega
  have s1 : x.1.size ≤ 32 := by omega
  clear h1 h2
  have e0 := by_at x.1 0 s0
  have p0 : decide ((0 : Int) < (x.1.size : Int)) = true := decide_eq_true (by omega)
  have p1 : (0 : Int) < (x.1.size : Int) := by omega
  obtain ⟨c0, hc0⟩ : ∃ c0, bt x.1.data.toList 0 = c0 := ⟨_, rfl⟩
  rw [hc0] at e0
  by_cases h3 : 97 ≤ c0
  · have f3 : decide (c0 < 97) = false := decide_eq_false (by omega)
    by_cases h4 : c0 ≤ 122
    · have f4 : decide (122 < c0) = false := decide_eq_false (by omega)
      have hm2 : Hid (mayType x.1 = x.1.data.toList.all fun c => typeB (c.toNat : Int)) := Lib.hid (by
        unfold mayType smallB; rw [hc0, decide_eq_true h3, decide_eq_true h4, decide_eq_true (by omega : 1 ≤ x.1.size), decide_eq_true s1]; simp)
      clear h3 h4 hc0
      go_enter Tryz.func62, Tryz.ntmps62
      go_wp2_with fail
      refine (rMayName_any _ _).mono ?_
      rintro e w1 ⟨rfl, hb1⟩
      have k1 : w1.heap[w.heap.size]? = some (.cells #[.string x.1, .string x.2] 53) := (hb1.block _ (by simp)).trans (by show (w.heap.push _)[w.heap.size]? = some _; exact Array.getElem?_push_size)
      have c0 : w1.cell? ⟨w.heap.size, 0, none⟩ = some (.string x.1) := by simp [World.cell?, k1]
      have hB := hb0.trans (hb1.mono hb0.size)
      clear k1 hb1 hb0
      by_cases hn : mayName x.2 = true
      · rw [hn]
        have hm3 : Hid (mayAttr x = mayType x.1) := Lib.hid (by unfold mayAttr; rw [hn, Bool.and_true])
        clear hn
        go_wp2_with fail
        go_loopw [3] (fun p wr => ∃ k : Nat, k ≤ x.1.size ∧ p = .int .i64 (k : Int) ∧ wr = w1 ∧ (x.1.data.toList.take k).all (fun c => typeB (c.toNat : Int)) = true) (fun p _ => x.1.size - (intOf p).toNat)
        case atStart => exact ⟨0, Nat.zero_le _, rfl, rfl, rfl⟩
        case round =>
          obtain ⟨k, hk, rfl, rfl, ht⟩ := hrel
          by_cases hkn : k < x.1.size
          · have ek := by_at x.1 k hkn
            have q1 : decide ((k : Int) < (x.1.size : Int)) = true := decide_eq_true (by omega)
            have hw : IntKind.wrap .i64 ((k : Int) + 1) = (k : Int) + 1 := by rw [IntKind.wrap_i64]; omega
            obtain ⟨c, hc⟩ : ∃ c, bt x.1.data.toList k = c := ⟨_, rfl⟩
            rw [hc] at ek
            have hnext : Hid (typeB c = true → (x.1.data.toList.take (k + 1)).all (fun c => typeB (c.toNat : Int)) = true) := Lib.hid (fun hy => by
              have hl : k < x.1.data.toList.length := by rw [len_data]; exact hkn
              have e : bt x.1.data.toList k = ((x.1.data.toList[k]).toNat : Int) := by simp [bt, List.getD_eq_getElem?_getD, List.getElem?_eq_getElem hl]
              rw [List.take_succ_eq_append_getElem hl, List.all_append, ht, List.all_cons, List.all_nil, Bool.and_true, Bool.true_and, ← e, hc, hy])
            have hbad : Hid (typeB c = false → mayAttr x = false) := Lib.hid (fun hy => by rw [hm3.out]; exact bad_letter x.1 k hkn (by rw [hc]; exact hy))
            clear hc ht
            by_cases g1 : 97 ≤ c
            · have d1 : decide (97 ≤ c) = true := decide_eq_true g1
              by_cases g2 : c ≤ 122
              · have d2 : decide (c ≤ 122) = true := decide_eq_true g2
                have ht := Lib.hid (hnext.out (by simp [typeB, smallB, d1, d2]))
                clear g1 g2
                go_wp2_with fail
                go_roundw
                case rel => exact ⟨k + 1, by omega, by go_num, trivial, ht.out⟩
                case measure => simp [intOf]; omega
              · have d2 : decide (c ≤ 122) = false := decide_eq_false g2
                have d3 : decide (48 ≤ c) = true := decide_eq_true (by omega)
                have d4 : decide (c ≤ 57) = false := decide_eq_false (by omega)
                have d5 : (c == 45) = false := by simp; omega
                have ht := Lib.hid (hbad.out (by simp [typeB, smallB, d1, d2, d3, d4, d5]))
                clear g1 g2
                go_wp2_with fail
                go_ret
                exact ⟨by rw [ht.out]; rfl, hB⟩
            · have d1 : decide (97 ≤ c) = false := decide_eq_false g1
              by_cases g2 : 48 ≤ c
              · have d3 : decide (48 ≤ c) = true := decide_eq_true g2
                by_cases g3 : c ≤ 57
                · have d4 : decide (c ≤ 57) = true := decide_eq_true g3
                  have ht := Lib.hid (hnext.out (by simp [typeB, smallB, d1, d3, d4]))
                  clear g1 g2 g3
                  go_wp2_with fail
                  go_roundw
                  case rel => exact ⟨k + 1, by omega, by go_num, trivial, ht.out⟩
                  case measure => simp [intOf]; omega
                · have d4 : decide (c ≤ 57) = false := decide_eq_false g3
                  have d5 : (c == 45) = false := by simp; omega
                  have ht := Lib.hid (hbad.out (by simp [typeB, smallB, d1, d3, d4, d5]))
                  clear g1 g2 g3
                  go_wp2_with fail
                  go_ret
                  exact ⟨by rw [ht.out]; rfl, hB⟩
              · have d3 : decide (48 ≤ c) = false := decide_eq_false g2
                by_cases g3 : c = 45
                · have d5 : (c == 45) = true := by simp [g3]
                  have ht := Lib.hid (hnext.out (by simp [typeB, smallB, d1, d3, d5]))
                  clear g1 g2 g3
                  go_wp2_with fail
                  go_roundw
                  case rel => exact ⟨k + 1, by omega, by go_num, trivial, ht.out⟩
                  case measure => simp [intOf]; omega
                · have d5 : (c == 45) = false := by simp [g3]
                  have ht := Lib.hid (hbad.out (by simp [typeB, smallB, d1, d3, d5]))
                  clear g1 g2 g3
                  go_wp2_with fail
                  go_ret
                  exact ⟨by rw [ht.out]; rfl, hB⟩
          · have hke : k = x.1.size := by omega
            have H : Hid (mayAttr x = true) := Lib.hid (by
              rw [hm3.out, hm2.out]
              rw [hke, List.take_of_length_le (Nat.le_of_eq (len_data x.1))] at ht
              exact ht)
            clear hke ht
            go_wp2_with fail
            go_ret
            exact ⟨by rw [H.out]; rfl, hB⟩
      · have hn2 : mayName x.2 = false := by simpa using hn
        have H : Hid (mayAttr x = false) := Lib.hid (by unfold mayAttr; rw [hn2, Bool.and_false])
        rw [hn2]
        clear hn hn2
        go_wp2_with fail
        go_ret
        exact ⟨by rw [H.out]; rfl, hB⟩
    · have f4 : decide (122 < c0) = true := decide_eq_true (by omega)
      have H : Hid (mayAttr x = false) := Lib.hid (by unfold mayAttr mayType smallB; rw [hc0, decide_eq_false h4]; simp)
      clear h3 h4 hc0
      go_enter Tryz.func62, Tryz.ntmps62
      go_wp2_with fail
      go_ret
      exact ⟨by rw [H.out]; rfl, hb0⟩
  · have f3 : decide (c0 < 97) = true := decide_eq_true (by omega)
    have H : Hid (mayAttr x = false) := Lib.hid (by unfold mayAttr mayType smallB; rw [hc0, decide_eq_false h3]; simp)
    clear h3 hc0
    go_enter Tryz.func62, Tryz.ntmps62
    go_wp2_with fail
    go_ret
    exact ⟨by rw [H.out]; rfl, hb0⟩
end Go.Proofs.YtgeafnggodkpaaaGreat.Msg
