/-
  The statement's 'much'.
-/
import Derived.Test.YtpkabinmnkadeaaVt
namespace Go.Proofs.Ytpkabinmnkadeaa.Tlv
open Go.RowKit Go.Proofs.Ytpkabinmnkadeaa.Mem

set_option maxRecDepth 100000 in
set_option maxHeartbeats 8000000 in
theorem much_any (ao : Option Addr) (cap : Nat) (ps : List Pt) (W : World) (hp : Parts W ao cap ps) :
    Calls Try.prog 32 #[.slice ao ps.length cap] W fun e w' => ∃ r, e = .returned (.bool r) ∧ (r = false → ps.length ≤ 30 ∧ ∀ p ∈ ps, ptSmall p) ∧ Below W.heap.size W w' := by
  go_enter Try.func32, Try.ntmps32
  go_wp2_with fail
  go_loopw [3, 4] (fun v p wr => ∃ (k q : Nat), k ≤ ps.length ∧ k ≤ 31 ∧ v = .int .i64 (q : Int) ∧ q ≤ 20000 ∧ p = .int .i64 (k : Int) ∧ Hid (∀ p ∈ ps.take k, ptSmall p) ∧ Below W.heap.size W wr) (fun _ p _ => (31 - intOf p).toNat)
  case atStart => exact ⟨0, 0, by omega, by omega, rfl, by omega, rfl, (fun p h => by cases h), Below.refl _ _⟩
  case round =>
    obtain ⟨k, q, hk, hk31, rfl, hq, rfl, Hsm, hbr⟩ := hrel
    by_cases hkl : k = ps.length
    · have f0 : decide ((k : Int) < (ps.length : Int)) = false := decide_eq_false (by omega)
      go_wp2_with fail
      go_ret
      refine ⟨_, rfl, fun hr => ⟨by have := of_decide_eq_false hr; omega, ?_⟩, hbr⟩
      have := Hsm.out
      rwa [hkl, List.take_of_length_le (Nat.le_refl _)] at this
    have f0 : decide ((k : Int) < (ps.length : Int)) = true := decide_eq_true (by omega)
    by_cases hk3 : k = 31
    · have f1 : decide ((k : Int) ≤ 30) = false := decide_eq_false (by omega)
      go_wp2_with fail
      go_ret
      exact ⟨_, rfl, fun hr => absurd (of_decide_eq_false hr) (by omega), hbr⟩
    have f1 : decide ((k : Int) ≤ 30) = true := decide_eq_true (by omega)
    have hkl2 : k < ps.length := by omega
    have hpk : ps[k]? = some ps[k] := List.getElem?_eq_getElem hkl2
    have hgk := (hp.each _ (List.getElem_mem hkl2)).later hbr
    have hrd := hp.rd.later hbr
    have hcap2 := hrd.le
    obtain ⟨lb, lf, rfl, llt, lc⟩ := hrd.some (by omega)
    have e3 : wr.cell? ⟨lb, lf + k * 5 + 3, none⟩ = _ := lc (k * 5 + 3) _ (ptsV_at ps k _ hpk 3 _ rfl)
    have e4 : wr.cell? ⟨lb, lf + k * 5 + 4, none⟩ = _ := lc (k * 5 + 4) _ (ptsV_at ps k _ hpk 4 _ rfl)
    have i0 : (0 : Int) ≤ (k : Int) := by omega
    have i1 : (k : Int) < (ps.length : Int) := by omega
    have htk : ps.take (k + 1) = ps.take k ++ [ps[k]] := by rw [List.take_add_one, hpk]; rfl
    have Htk := Lib.hid htk
    clear htk
    generalize hpp : ps[k] = p at *
    clear hpk hpp
    obtain ⟨kind, tag, num, b, bo, bcap, l, lo, lcap⟩ := p
    obtain ⟨g1, g2, g3, g4⟩ := hgk
    dsimp only at *
    by_cases hm : (b.length : Int) ≤ 20001
    · have hm0 := hm
      have hq1 : (q + b.length) ≤ 40001 ∧ min b.length 20001 ≤ (q + b.length) := by omega
      go_wp2_with fail
      go_loopw [3, 5] (fun v p wr2 => ∃ (j q2 : Nat), j ≤ l.length ∧ j ≤ 31 ∧ v = .int .i64 (q2 : Int) ∧ (q + b.length) ≤ q2 ∧ q2 ≤ 40001 + j * 20001 ∧ p = .int .i64 (j : Int) ∧ Hid (∀ s ∈ l.take j, min s.size 20001 ≤ q2) ∧ wr2 = wr) (fun _ p _ => (31 - intOf p).toNat)
      case atStart => exact ⟨0, (q + b.length), by omega, by omega, by simp, by omega, by omega, rfl, (fun p h => by cases h), rfl⟩
      case round =>
        obtain ⟨j, q2, hj, hj31, rfl, hq2, hq3, rfl, Hs2, rfl⟩ := hrel
        by_cases hout : j = l.length ∨ j = 31
        · have hend : (j = l.length ∧ decide ((j : Int) < (l.length : Int)) = false) ∨ (decide ((j : Int) < (l.length : Int)) = true ∧ decide ((j : Int) ≤ 30) = false) := by
            by_cases hjl : j = l.length
            · exact .inl ⟨hjl, decide_eq_false (by omega)⟩
            · exact .inr ⟨decide_eq_true (by omega), decide_eq_false (by omega)⟩
          have hne : (l.length ≤ 30 ∧ q2 ≤ 20000) → (∀ s ∈ l, s.size ≤ 20000) := by
            rintro ⟨h1, h2⟩ s hs
            have hj2 : j = l.length := by omega
            have h3 := Hs2.out s (by rw [hj2, List.take_of_length_le (Nat.le_refl _)]; exact hs)
            omega
          have hsm : (l.length ≤ 30 ∧ q2 ≤ 20000) → Hid (∀ p ∈ ps.take (k + 1), ptSmall p) := by
            intro h
            show ∀ p ∈ ps.take (k + 1), ptSmall p
            rw [Htk.out]
            intro p hp
            rcases List.mem_append.1 hp with hp | hp
            · exact Hsm.out p hp
            · rw [List.mem_singleton] at hp
              subst hp
              exact ⟨by dsimp only; omega, h.1, hne h⟩
          have Hsm2 := Lib.hid hsm
          clear hsm hne
          by_cases hl30 : 30 < l.length
          · have f5 : decide ((30 : Int) < (l.length : Int)) = true := decide_eq_true (by omega)
            rcases hend with ⟨_, f4⟩ | ⟨f4, f6⟩
            · go_wp2_with fail
              all_goals go_ret
              all_goals exact ⟨_, rfl, (fun h => by cases h), hbr⟩
            · go_wp2_with fail
              all_goals go_ret
              all_goals exact ⟨_, rfl, (fun h => by cases h), hbr⟩
          have f5 : decide ((30 : Int) < (l.length : Int)) = false := decide_eq_false (by omega)
          by_cases hq20 : 20000 < q2
          · have f7 : decide ((20000 : Int) < (q2 : Int)) = true := decide_eq_true (by omega)
            rcases hend with ⟨_, f4⟩ | ⟨f4, f6⟩
            · go_wp2_with fail
              all_goals go_ret
              all_goals exact ⟨_, rfl, (fun h => by cases h), hbr⟩
            · go_wp2_with fail
              all_goals go_ret
              all_goals exact ⟨_, rfl, (fun h => by cases h), hbr⟩
          have f7 : decide ((20000 : Int) < (q2 : Int)) = false := decide_eq_false (by omega)
          have hsm3 := Hsm2.out ⟨by omega, by omega⟩
          rcases hend with ⟨_, f4⟩ | ⟨f4, f6⟩
          · go_wp2_with fail
            go_roundw
            case rel => exact ⟨k + 1, q2, by omega, by omega, rfl, by omega, by go_num, hsm3, hbr⟩
            case measure => simp [intOf]; omega
          · go_wp2_with fail
            go_roundw
            case rel => exact ⟨k + 1, q2, by omega, by omega, rfl, by omega, by go_num, hsm3, hbr⟩
            case measure => simp [intOf]; omega
        · have hjl : j < l.length := by omega
          have f4 : decide ((j : Int) < (l.length : Int)) = true := decide_eq_true (by omega)
          have f6 : decide ((j : Int) ≤ 30) = true := decide_eq_true (by omega)
          obtain ⟨sb, sf, rfl, slt, sc⟩ := g2.some (by have := g2.le; omega)
          have hc5 := sc j (.string l[j]) (by simp [strV, hjl])
          have i2 : (0 : Int) ≤ (j : Int) := by omega
          have i3 : (j : Int) < (l.length : Int) := by omega
          have htj : l.take (j + 1) = l.take j ++ [l[j]] := by rw [List.take_add_one, List.getElem?_eq_getElem hjl]; rfl
          have hmem : ∀ q3, q2 ≤ q3 → min l[j].size 20001 ≤ q3 → Hid (∀ s ∈ l.take (j + 1), min s.size 20001 ≤ q3) := by
            intro q3 h1 h2
            show ∀ s ∈ l.take (j + 1), min s.size 20001 ≤ q3
            rw [htj]
            intro s hs
            rcases List.mem_append.1 hs with hs | hs
            · have := Hs2.out s hs; omega
            · rw [List.mem_singleton] at hs; subst hs; exact h2
          have Hmem := Lib.hid hmem
          have hszl := g4 l[j] (List.getElem_mem hjl)
          clear hmem htj
          generalize l[j] = sk at *
          by_cases hm2 : (sk.size : Int) ≤ 20001
          · go_wp2_with fail
            go_roundw
            case rel => exact ⟨j + 1, q2 + sk.size, by omega, by omega, by simp, by omega, by omega, by go_num, Hmem.out _ (by omega) (by omega), trivial⟩
            case measure => simp [intOf]; omega
          · have hm3 : (20001 : Int) < (sk.size : Int) := by omega
            go_wp2_with fail
            go_roundw
            case rel => exact ⟨j + 1, q2 + 20001, by omega, by omega, by simp, by omega, by omega, by go_num, Hmem.out _ (by omega) (by omega), trivial⟩
            case measure => simp [intOf]; omega
    · have hm0 : (20001 : Int) < (b.length : Int) := by omega
      have hq1 : (q + 20001) ≤ 40001 ∧ min b.length 20001 ≤ (q + 20001) := by omega
      go_wp2_with fail
      go_loopw [3, 5] (fun v p wr2 => ∃ (j q2 : Nat), j ≤ l.length ∧ j ≤ 31 ∧ v = .int .i64 (q2 : Int) ∧ (q + 20001) ≤ q2 ∧ q2 ≤ 40001 + j * 20001 ∧ p = .int .i64 (j : Int) ∧ Hid (∀ s ∈ l.take j, min s.size 20001 ≤ q2) ∧ wr2 = wr) (fun _ p _ => (31 - intOf p).toNat)
      case atStart => exact ⟨0, (q + 20001), by omega, by omega, by simp, by omega, by omega, rfl, (fun p h => by cases h), rfl⟩
      case round =>
        obtain ⟨j, q2, hj, hj31, rfl, hq2, hq3, rfl, Hs2, rfl⟩ := hrel
        by_cases hout : j = l.length ∨ j = 31
        · have hend : (j = l.length ∧ decide ((j : Int) < (l.length : Int)) = false) ∨ (decide ((j : Int) < (l.length : Int)) = true ∧ decide ((j : Int) ≤ 30) = false) := by
            by_cases hjl : j = l.length
            · exact .inl ⟨hjl, decide_eq_false (by omega)⟩
            · exact .inr ⟨decide_eq_true (by omega), decide_eq_false (by omega)⟩
          have hne : (l.length ≤ 30 ∧ q2 ≤ 20000) → (∀ s ∈ l, s.size ≤ 20000) := by
            rintro ⟨h1, h2⟩ s hs
            have hj2 : j = l.length := by omega
            have h3 := Hs2.out s (by rw [hj2, List.take_of_length_le (Nat.le_refl _)]; exact hs)
            omega
          have hsm : (l.length ≤ 30 ∧ q2 ≤ 20000) → Hid (∀ p ∈ ps.take (k + 1), ptSmall p) := by
            intro h
            show ∀ p ∈ ps.take (k + 1), ptSmall p
            rw [Htk.out]
            intro p hp
            rcases List.mem_append.1 hp with hp | hp
            · exact Hsm.out p hp
            · rw [List.mem_singleton] at hp
              subst hp
              exact ⟨by dsimp only; omega, h.1, hne h⟩
          have Hsm2 := Lib.hid hsm
          clear hsm hne
          by_cases hl30 : 30 < l.length
          · have f5 : decide ((30 : Int) < (l.length : Int)) = true := decide_eq_true (by omega)
            rcases hend with ⟨_, f4⟩ | ⟨f4, f6⟩
            · go_wp2_with fail
              all_goals go_ret
              all_goals exact ⟨_, rfl, (fun h => by cases h), hbr⟩
            · go_wp2_with fail
              all_goals go_ret
              all_goals exact ⟨_, rfl, (fun h => by cases h), hbr⟩
          have f5 : decide ((30 : Int) < (l.length : Int)) = false := decide_eq_false (by omega)
          by_cases hq20 : 20000 < q2
          · have f7 : decide ((20000 : Int) < (q2 : Int)) = true := decide_eq_true (by omega)
            rcases hend with ⟨_, f4⟩ | ⟨f4, f6⟩
            · go_wp2_with fail
              all_goals go_ret
              all_goals exact ⟨_, rfl, (fun h => by cases h), hbr⟩
            · go_wp2_with fail
              all_goals go_ret
              all_goals exact ⟨_, rfl, (fun h => by cases h), hbr⟩
          exfalso; omega
        · have hjl : j < l.length := by omega
          have f4 : decide ((j : Int) < (l.length : Int)) = true := decide_eq_true (by omega)
          have f6 : decide ((j : Int) ≤ 30) = true := decide_eq_true (by omega)
          obtain ⟨sb, sf, rfl, slt, sc⟩ := g2.some (by have := g2.le; omega)
          have hc5 := sc j (.string l[j]) (by simp [strV, hjl])
          have i2 : (0 : Int) ≤ (j : Int) := by omega
          have i3 : (j : Int) < (l.length : Int) := by omega
          have htj : l.take (j + 1) = l.take j ++ [l[j]] := by rw [List.take_add_one, List.getElem?_eq_getElem hjl]; rfl
          have hmem : ∀ q3, q2 ≤ q3 → min l[j].size 20001 ≤ q3 → Hid (∀ s ∈ l.take (j + 1), min s.size 20001 ≤ q3) := by
            intro q3 h1 h2
            show ∀ s ∈ l.take (j + 1), min s.size 20001 ≤ q3
            rw [htj]
            intro s hs
            rcases List.mem_append.1 hs with hs | hs
            · have := Hs2.out s hs; omega
            · rw [List.mem_singleton] at hs; subst hs; exact h2
          have Hmem := Lib.hid hmem
          have hszl := g4 l[j] (List.getElem_mem hjl)
          clear hmem htj
          generalize l[j] = sk at *
          by_cases hm2 : (sk.size : Int) ≤ 20001
          · go_wp2_with fail
            go_roundw
            case rel => exact ⟨j + 1, q2 + sk.size, by omega, by omega, by simp, by omega, by omega, by go_num, Hmem.out _ (by omega) (by omega), trivial⟩
            case measure => simp [intOf]; omega
          · have hm3 : (20001 : Int) < (sk.size : Int) := by omega
            go_wp2_with fail
            go_roundw
            case rel => exact ⟨j + 1, q2 + 20001, by omega, by omega, by simp, by omega, by omega, by go_num, Hmem.out _ (by omega) (by omega), trivial⟩
            case measure => simp [intOf]; omega
end Go.Proofs.Ytpkabinmnkadeaa.Tlv
