/-
  The walk of the statement UtfMeans.
-/
import Derived.Test.YtpkabinmnkadeaaUj
import Derived.Test.YtpkabinmnkadeaaUq
import Derived.Deep.DeepCutAuto
import Derived.Deep.CutBlock
namespace Go.Proofs.Ytpkabinmnkadeaa.Utf
open Go.RowKit Go.Proofs.Ytpkabinmnkadeaa.Mem

/-- What Decode answers, in one. -/
theorem decode_any (s : ByteArray) (w : World) (hs : s.size ≤ 1000000000) :
    Calls Try.prog 29 #[.string s] w fun e w' => ∃ ao n cap l q, e = .returned (.tuple #[.slice ao n cap, .int .i64 q]) ∧ Rd w' 1 ao n cap (ruV l) ∧ n = l.length ∧ n ≤ s.size ∧ Below w.heap.size w w' ∧
      ((wh s.data.toList = s.size ∧ l = runes s.data.toList ∧ q = 0) ∨ (wh s.data.toList ≠ s.size ∧ l = [] ∧ q = 5)) := by
  by_cases h : wh s.data.toList = s.size
  · refine (decode_yes s w hs h).mono fun e w' ⟨ao, cap, he, hr, hb⟩ => ⟨ao, _, cap, _, _, he, hr, rfl, ?_, hb, .inl ⟨h, rfl, rfl⟩⟩
    have := runes_len s.data.toList; rwa [len_data] at this
  · exact (decode_no s w hs h).mono fun e w' ⟨he, hb⟩ => ⟨none, 0, 0, [], _, he, Rd.nil _ _, rfl, Nat.zero_le _, hb, .inr ⟨h, rfl, rfl⟩⟩

theorem means_out (ao : Option Addr) (n cap : Nat) (s t : ByteArray) (w : World) (h : 3000 < n ∨ 3000 < s.size ∨ 3000 < t.size) :
    Calls Try.prog 9 #[.slice ao n cap, .string s, .string t] w (GivesTrue w) := by
  by_cases h1 : 3000 < n
  · have t1 : decide (3000 < (n : Int)) = true := by simp; omega
    go_enter Try.func9, Try.ntmps9
    go_wp2_with (go_at_call 16; refine (known_any _).mono ?_; rintro e w1 ⟨rfl, hb1⟩)
    go_ret
    exact ⟨rfl, hb1⟩
  by_cases h2 : 3000 < s.size
  · have t1 : decide (3000 < (n : Int)) = false := by simp; omega
    have t2 : decide (3000 < (s.size : Int)) = true := by simp; omega
    go_enter Try.func9, Try.ntmps9
    go_wp2_with (go_at_call 16; refine (known_any _).mono ?_; rintro e w1 ⟨rfl, hb1⟩)
    go_ret
    exact ⟨rfl, hb1⟩
  · have t1 : decide (3000 < (n : Int)) = false := by simp; omega
    have t2 : decide (3000 < (s.size : Int)) = false := by simp; omega
    have t3 : decide (3000 < (t.size : Int)) = true := by simp; omega
    go_enter Try.func9, Try.ntmps9
    go_wp2_with (go_at_call 16; refine (known_any _).mono ?_; rintro e w1 ⟨rfl, hb1⟩)
    go_ret
    exact ⟨rfl, hb1⟩

set_option maxRecDepth 100000 in
set_option maxHeartbeats 2000000 in
theorem means_in (ao : Option Addr) (n cap : Nat) (l : List Int) (s t : ByteArray) (w : World) (hr : Rd w 1 ao n cap (ruV l)) (h1 : n ≤ 3000) (h2 : s.size ≤ 3000) (h3 : t.size ≤ 3000) :
    Calls Try.prog 9 #[.slice ao n cap, .string s, .string t] w (GivesTrue w) := by
  have t1 : decide (3000 < (n : Int)) = false := by simp; omega
  have t2 : decide (3000 < (s.size : Int)) = false := by simp; omega
  have t3 : decide (3000 < (t.size : Int)) = false := by simp; omega
  have hl : l.length = n := by have := hr.1; rw [ruV_len] at this; omega
  have HL := Lib.hid hl
  clear hl
  have hle := encAll_len l
  rw [HL.out] at hle
  go_enter Try.func9, Try.ntmps9
  go_wp2_with fail
  refine (known_any _).mono ?_
  rintro e w1 ⟨rfl, hb1⟩
  go_wp2_with fail
  have hr1 := hr.later hb1
  refine (encode_any _ _ _ l _ hr1 (by omega)).mono ?_
  rintro e w2 ⟨u, q, rfl, hb2, hu⟩
  have hb12 := hb1.trans (hb2.mono hb1.size)
  have hr2 := hr1.later hb2
  have HU := Lib.hid hu
  clear hu
  go_upto_if 41 with (go_at_call 23; refine (num_any _ _).mono ?_; rintro e w4 ⟨rfl, rfl⟩)
  go_cut [] (fun wx => Below w.heap.size w wx)
  case first =>
    rcases HU.out with ⟨hm, rfl, rfl⟩ | ⟨hm, rfl, rfl⟩
    · have HM := Lib.hid hm
      have hval := Lib.hid (wh_enc l hm)
      have hru := Lib.hid (runes_enc l hm)
      clear HU hm
      go_wp2_with fail
      refine (decode_yes _ _ (by rw [ByteArray.size_mk']; simp; omega) (by rw [ByteArray.size_mk']; simpa using hval.out)).mono ?_
      rintro e w3 ⟨ao3, cap3, rfl, hrd3, hb3⟩
      rw [hru.out] at hrd3 ⊢
      go_wp2_with (first | (go_at_call 23; refine (num_any _ _).mono ?_; rintro e w4 ⟨rfl, rfl⟩) | (go_at_call 31; refine (same_any _ _ _ _ _ _ l l _ hrd3 (hr2.later hb3) (by rw [HL.out]; omega)).mono ?_; rintro e w5 ⟨rfl, hb5⟩; rw [decide_eq_true rfl]))
      go_meet
      case rel => exact ((hb12.trans (hb3.mono hb12.size)).trans (hb5.mono (hb12.trans (hb3.mono hb12.size)).size))
    · clear HU
      go_wp2
      go_meet
      case rel => exact hb12
  case rest =>
    have hbc := hcut
    clear hcut HU
    go_wp2_with fail
    refine (decode_any s _ (by omega)).mono ?_
    rintro e w3 ⟨ao3, n3, cap3, a, q3, rfl, hrd3, hn3, hm3, hb3, hc3⟩
    have hbc3 := hbc.trans (hb3.mono hbc.size)
    have HC3 := Lib.hid hc3
    have HN3 := Lib.hid hn3
    clear hc3 hn3
    go_wp2_with fail
    refine (decode_any t _ (by omega)).mono ?_
    rintro e w4 ⟨ao4, n4, cap4, b, q4, rfl, hrd4, hn4, hm4, hb4, hc4⟩
    have hbc4 := hbc3.trans (hb4.mono hbc3.size)
    have HC4 := Lib.hid hc4
    have HN4 := Lib.hid hn4
    clear hc4 hn4
    have hrd3' := hrd3.later hb4
    by_cases hv : wh s.data.toList = s.size ∧ wh t.data.toList = t.size
    · obtain ⟨hv1, hv2⟩ := hv
      obtain ⟨ha, rfl⟩ : a = runes s.data.toList ∧ q3 = 0 := by
        rcases HC3.out with ⟨_, h1, h2⟩ | ⟨h0, _⟩
        · exact ⟨h1, h2⟩
        · exact absurd hv1 h0
      obtain ⟨hb, rfl⟩ : b = runes t.data.toList ∧ q4 = 0 := by
        rcases HC4.out with ⟨_, h1, h2⟩ | ⟨h0, _⟩
        · exact ⟨h1, h2⟩
        · exact absurd hv2 h0
      have hma : allMay a := by rw [ha]; exact runes_may _
      have hmb : allMay b := by rw [hb]; exact runes_may _
      have hea : encAll a = s.data.toList := by rw [ha]; exact (valid_enc _ (by rw [len_data]; exact hv1)).symm
      have heb : encAll b = t.data.toList := by rw [hb]; exact (valid_enc _ (by rw [len_data]; exact hv2)).symm
      have HMA := Lib.hid hma
      have HMB := Lib.hid hmb
      have HEA := Lib.hid hea
      have HEB := Lib.hid heb
      clear hma hmb hea heb ha hb hv1 hv2 HC3 HC4
      go_wp2_with (first | (go_at_call 23; refine (num_any _ _).mono ?_; rintro e w9 ⟨rfl, rfl⟩))
      refine (encode_yes _ _ _ a _ hrd3' (by omega) HMA.out).mono ?_
      rintro e w5 ⟨rfl, hb5⟩
      have hbc5 := hbc4.trans (hb5.mono hbc4.size)
      have hra := hrd3'.later hb5
      have hrb := hrd4.later hb5
      have es : (ByteArray.mk (encAll a).toArray) = s := by rw [HEA.out]
      rw [es]
      clear es
      have hss : (s.toList == s.toList) = true := by simp
      go_upto_block 0 with (go_at_call 23; refine (num_any _ _).mono ?_; rintro e w9 ⟨rfl, rfl⟩)
      have LA : Hid (a.length = n3) := HN3.out.symm
      have LB : Hid (b.length = n4) := HN4.out.symm
      clear hss
      go_cut [17] (fun s17 wx => s17 = .bool (ltL a b) ∧ Below w.heap.size w wx)
      case first =>
        go_wp2_with fail
        go_loopw [17, 18] (fun s17 i wr => ∃ k : Nat, k ≤ n3 ∧ k ≤ n4 ∧ i = .int .i64 k ∧ s17 = .bool false ∧ Hid (a.take k = b.take k) ∧ Below w5.heap.size w5 wr) (fun _ i _ => 3000 - (intOf i).toNat)
        case atStart => exact ⟨0, Nat.zero_le _, Nat.zero_le _, rfl, rfl, Lib.hid rfl, Below.refl _ _⟩
        case round =>
          obtain ⟨k, hk1, hk2, rfl, rfl, Ht, hbr⟩ := hrel
          have hbw := hbc5.trans (hbr.mono hbc5.size)
          by_cases hb : k < n4
          · obtain ⟨b2, o2, e2, hlt2, hcc2⟩ := hrb.some (by have := hrb.le; omega)
            subst e2
            have c2 := (hbr.cell (p := ⟨b2, o2 + k, none⟩) hlt2).trans (hcc2 k _ (ruV_at b k (by rw [LB.out]; exact hb)))
            have i0 : (0 : Int) ≤ (k : Int) := by omega
            have i2 : (k : Int) < (n4 : Int) := by omega
            by_cases ha : k < n3
            · obtain ⟨b1, o1, e1, hlt1, hcc1⟩ := hra.some (by have := hra.le; omega)
              subst e1
              have c1 := (hbr.cell (p := ⟨b1, o1 + k, none⟩) hlt1).trans (hcc1 k _ (ruV_at a k (by rw [LA.out]; exact ha)))
              have d3 : decide ((n3 : Int) ≤ (k : Int)) = false := by simp; omega
              have d7 : decide (n3 ≤ k) = false := by simp; omega
              have i1 : (k : Int) < (n3 : Int) := by omega
              rcases Int.lt_trichotomy (a[k]?.getD 0) (b[k]?.getD 0) with hlt | heq | hgt
              · have hM := Lib.hid (ltL_mid k a b Ht.out (by rw [LA.out]; exact ha) (by rw [LB.out]; exact hb) (by omega))
                have f1 : decide (a[k]?.getD 0 < b[k]?.getD 0) = true := by simp; omega
                go_wp2
                go_quiet (fail)
                go_wp2
                go_meet
                case rel => exact ⟨congrArg Value.bool (by rw [hM.out.1]; exact f1.symm), (by first | exact below_drewN hbw _ | exact below_drewN (below_drewN hbw _) _)⟩
              · have Hn := Lib.hid (take_next k a b Ht.out (by rw [LA.out]; exact ha) (by rw [LB.out]; exact hb) heq)
                have f1 : decide (a[k]?.getD 0 < b[k]?.getD 0) = false := by simp; omega
                have f2 : decide (b[k]?.getD 0 < a[k]?.getD 0) = false := by simp; omega
                clear heq
                go_wp2
                go_quiet (fail)
                go_wp2
                go_quiet (fail)
                go_wp2
                go_roundw
                case rel => exact ⟨k + 1, by omega, by omega, by go_num, rfl, Hn, (by first | exact below_drewN hbr _ | exact below_drewN (below_drewN hbr _) _)⟩
                case measure => simp [intOf]; omega
              · have hM := Lib.hid (ltL_mid k a b Ht.out (by rw [LA.out]; exact ha) (by rw [LB.out]; exact hb) (by omega))
                have f1 : decide (a[k]?.getD 0 < b[k]?.getD 0) = false := by simp; omega
                have f2 : decide (b[k]?.getD 0 < a[k]?.getD 0) = true := by simp; omega
                go_wp2
                go_quiet (fail)
                go_wp2
                go_quiet (fail)
                go_wp2
                go_meet
                case rel => exact ⟨congrArg Value.bool (by rw [hM.out.1]; exact f1.symm), (by first | exact below_drewN hbw _ | exact below_drewN (below_drewN hbw _) _)⟩
            · have hk : k = n3 := by omega
              have hM := Lib.hid (ltL_end k a b Ht.out (by rw [LA.out]; exact hk) (by rw [LB.out]; exact hk2))
              have d3 : decide ((n3 : Int) ≤ (k : Int)) = true := by simp; omega
              have d7 : decide (n3 ≤ k) = true := by simp; omega
              clear hk
              go_wp2
              go_quiet (fail)
              go_wp2
              go_meet
              case rel => exact ⟨congrArg Value.bool (by rw [hM.out.1, LB.out]; simp; omega), (by first | exact below_drewN hbw _ | exact below_drewN (below_drewN hbw _) _)⟩
          · have hk : k = n4 := by omega
            have hM : Hid (ltL a b = false) := by
              by_cases ha : k < n3
              · exact (ltL_end2 k a b Ht.out (by rw [LA.out]; exact ha) (by rw [LB.out]; exact hk)).1
              · have := (ltL_end k a b Ht.out (by rw [LA.out]; omega) (by rw [LB.out]; omega)).1
                show _ = _
                rw [this, LB.out]; simp; omega
            clear hk
            go_wp2
            go_meet
            case rel => exact ⟨congrArg Value.bool (by rw [hM.out]), hbw⟩
      case rest =>
        obtain ⟨rfl, hbx⟩ := hcut
        have e1 : Op.bytesLess s.toList t.toList = ltL a b := by
          rw [ByteArray.toList_eq, ByteArray.toList_eq, ← HEA.out, ← HEB.out]; exact less_all a b HMA.out HMB.out
        go_wp2
        go_ret
        exact ⟨by simp, hbx⟩
    · have hq : (q3 = 0 ∧ q4 = 5) ∨ (q3 = 5 ∧ q4 = 0) ∨ (q3 = 5 ∧ q4 = 5) := by
        rcases HC3.out with ⟨g1, _, h1⟩ | ⟨g1, _, h1⟩ <;> rcases HC4.out with ⟨g2, _, h2⟩ | ⟨g2, _, h2⟩
        · exact absurd ⟨g1, g2⟩ hv
        · exact .inl ⟨h1, h2⟩
        · exact .inr (.inl ⟨h1, h2⟩)
        · exact .inr (.inr ⟨h1, h2⟩)
      clear HC3 HC4 hv
      rcases hq with ⟨rfl, rfl⟩ | ⟨rfl, rfl⟩ | ⟨rfl, rfl⟩
      all_goals
        go_wp2_with (go_at_call 23; refine (num_any _ _).mono ?_; rintro e w9 ⟨rfl, rfl⟩)
        go_ret
        exact ⟨rfl, hbc4⟩

theorem means_any (ao : Option Addr) (n cap : Nat) (l : List Int) (s t : ByteArray) (w : World) (hr : Rd w 1 ao n cap (ruV l)) :
    Calls Try.prog 9 #[.slice ao n cap, .string s, .string t] w (GivesTrue w) := by
  by_cases h : 3000 < n ∨ 3000 < s.size ∨ 3000 < t.size
  · exact means_out ao n cap s t w h
  · exact means_in ao n cap l s t w hr (by omega) (by omega) (by omega)
end Go.Proofs.Ytpkabinmnkadeaa.Utf
