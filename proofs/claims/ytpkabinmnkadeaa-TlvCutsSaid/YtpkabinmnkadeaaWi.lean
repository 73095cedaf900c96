/-
  The walk of TlvCuts.
-/
import Derived.Test.YtpkabinmnkadeaaWh
import Derived.Test.YtpkabinmnkadeaaWg
namespace Go.Proofs.Ytpkabinmnkadeaa.Tlv
open Go.RowKit Go.Proofs.Ytpkabinmnkadeaa.Mem

theorem itV_take (xs : List El) (n : Nat) : itV xs = itV (xs.take n) ++ itV (xs.drop n) := by rw [← itV_app, List.take_append_drop]
theorem came_take (xs : List El) (n : Nat) : came (xs.take n) = (came xs).take n := by simp [came, List.map_take]
theorem rd_front2 {w : World} {size n m cap : Nat} {ao : Option Addr} {xs ys : List Value} (h : Rd w size ao m cap (xs ++ ys)) (hl : xs.length = n * size) (hn : n ≤ m) : Rd w size ao n cap xs := rd_front h hl hn

theorem allEl.below' {w wa wb : World} {xs : List El} (h : allEl w.heap.size xs wa) (hb : Below w.heap.size w wa) (h2 : Below wa.heap.size wa wb) : allEl wb.heap.size xs wb := (h.below (h2.mono hb.size)).mono (Nat.le_trans hb.size h2.size)

set_option maxRecDepth 100000 in
set_option maxHeartbeats 8000000 in
theorem cuts_any (ao : Option Addr) (cap : Nat) (ps : List Pt) (cut : Int) (W : World) (hp : Parts W ao cap ps) :
    Calls Try.prog 12 #[.slice ao ps.length cap, .int .i64 cut] W (Utf.GivesTrue W) := by
  go_enter Try.func12, Try.ntmps12
  go_wp2_with fail
  refine (known_any W).mono ?_
  rintro e w1 ⟨rfl, hb1⟩
  go_wp2_with fail
  refine (much_any ao cap ps w1 (hp.later hb1)).mono ?_
  rintro e w2 ⟨r, rfl, hsm, hb2⟩
  have hb02 : Below W.heap.size W w2 := hb1.trans (hb2.mono hb1.size)
  cases r with
  | true =>
    go_wp2
    go_ret
    exact ⟨rfl, hb02⟩
  | false =>
    obtain ⟨h30, hs⟩ := hsm rfl
    have Hs := Lib.hid hs
    clear hsm hs
    have hp2 := hp.later hb02
    go_wp2_with fail
    refine (lput_any ao cap ps w2 hp2 h30 Hs.out (fun p hp => ⟨(hp2.each p hp).1.lt, (hp2.each p hp).2.1.lt⟩)).mono ?_
    rintro e w3 ⟨rfl, hw3, hb3⟩
    have hb03 : Below W.heap.size W w3 := hb02.trans (hb3.mono hb02.size)
    have hlen3 := stP_len ps Hs.out ps.length
    have hl3 : (stP ps ps.length).l.length ≤ 21000000 := by omega
    clear hlen3
    have hst := st_want ps ps.length (Nat.le_refl _)
    cases hok : okL ps ps.length with
    | false =>
      have hbad := hst.2 hok
      obtain ⟨vw, hvw⟩ := hw3
      rw [hbad] at hvw
      have hend := wend_bad _ _ _ _ _ _ hvw (by decide)
      have Hend0 := Lib.hid hend
      clear hend hst
      go_wp2_with fail
      refine Hend0.out.mono ?_
      rintro e w4 ⟨v4, rfl, ho4, hb4⟩
      go_wp2_with fail
      refine (num_any 2 w4).mono ?_
      rintro e w5 ⟨rfl, h9⟩
      obtain rfl := h9.symm
      clear h9
      go_wp2
      go_ret
      exact ⟨rfl, hb03.trans (hb4.mono hb03.size)⟩
    | true =>
      have hgood := hst.1 hok
      rw [hgood] at hw3 hl3
      obtain ⟨vw, hvw⟩ := hw3
      have hend := wend_ok _ _ _ _ _ hvw (by dsimp only at hl3 ⊢; omega)
      have Hend0 := Lib.hid hend
      clear hend hst hgood
      dsimp only at hl3
      go_wp2_with fail
      refine Hend0.out.mono ?_
      rintro e w4 ⟨v4, rfl, ho4, hb4⟩
      obtain ⟨ao4, cap4, rfl, hr4⟩ := Rd.of_own ho4
      have hb04 : Below W.heap.size W w4 := hb03.trans (hb4.mono hb03.size)
      generalize hll : wantL ps ps.length = l at *
      have Hll := Lib.hid hll
      clear hll
      go_wp2_with fail
      refine (num_any 0 w4).mono ?_
      rintro e w5 ⟨rfl, h9⟩
      obtain rfl := h9.symm
      clear h9
      by_cases hc0 : cut < 0
      · have f0 : decide (cut < 0) = true := decide_eq_true hc0
        go_wp2
        go_ret
        exact ⟨rfl, hb04⟩
      have f0 : decide (cut < 0) = false := decide_eq_false hc0
      obtain ⟨k, rfl⟩ : ∃ k : Nat, cut = (k : Int) := ⟨cut.toNat, by omega⟩
      clear hc0
      by_cases hcl : l.length ≤ k
      · have f1 : decide ((l.length : Int) ≤ (k : Int)) = true := decide_eq_true (by omega)
        go_wp2
        go_ret
        exact ⟨rfl, hb04⟩
      have f1 : decide ((l.length : Int) ≤ (k : Int)) = false := decide_eq_false (by omega)
      have hcap4 := hr4.le
      obtain ⟨lb4, lf4, rfl, llt4, lc4⟩ := hr4.some (by omega)
      have hrk : Rd w4 1 (some ⟨lb4, lf4, none⟩) k cap4 (byV (l.take k)) := by
        have h1 : byV l = byV (l.take k) ++ byV (l.drop k) := by rw [← byV_app, List.take_append_drop]
        rw [h1] at hr4
        exact rd_front hr4 (by rw [byV_len, List.length_take]; omega) (by omega)
      have i0 : (0 : Int) ≤ (k : Int) := by omega
      have i1 : (k : Int) ≤ (cap4 : Int) := by omega
      have hlk : (l.take k).length = k := by rw [List.length_take]; omega
      have hp4 := hp.later hb04
      go_wp2_with fail
      refine (read_any _ k cap4 (l.take k) w4 hrk (by omega)).mono ?_
      rintro e w5 ⟨g5, rfl, hr5, hb5⟩
      go_wp2_with fail
      go_loopw [8, 9] (fun v p wr => ∃ (i : Nat) (gd : Bool) (s : RS), i ≤ ps.length ∧ p = .int .i64 (i : Int) ∧ v = .bool gd ∧ RdS w4.heap.size g5 s wr ∧ Below w4.heap.size w4 wr ∧ s.l.length ≤ k ∧ Hid (gd = true → s.bad = true ∨ l.take k = wantL ps i ++ s.l)) (fun _ p _ => (ps.length - intOf p).toNat)
      case atStart => exact ⟨0, true, ⟨l.take k, false⟩, by omega, rfl, rfl, hr5, hb5, by dsimp only; omega, fun _ => .inr rfl⟩
      case round =>
        obtain ⟨i, gd, s, hi, rfl, rfl, hrr, hbr, hsl, Hgd⟩ := hrel
        by_cases hil : i = ps.length
        · have f2 : decide ((i : Int) < (ps.length : Int)) = false := decide_eq_false (by omega)
          have hb05 : Below W.heap.size W wr := hb04.trans (hbr.mono hb04.size)
          have hr4' := hr4.later hbr
          have hrk' := hrk.later hbr
          subst hil
          cases gd with
          | false =>
            clear Hgd
            go_wp2_with fail
            refine (rall_any _ l.length cap4 l wr hr4' (by omega)).mono ?_
            rintro e wa ⟨aw, capw, xs, rfl, hcm, hrw, hall, hba, _⟩
            have hxl : xs.length = (its l).length := by rw [← hcm, came, List.length_map]
            have hrka := hrk'.later hba
            have hil5 := its_len l
            go_wp2
            go_loop [12, 13] (fun a p => ∃ m : Nat, m ≤ (its l).length ∧ p = .int .i64 (m : Int) ∧ a = .int .i64 ((ip (its l) m : Nat) : Int) ∧ ip (its l) m ≤ k) (fun _ p => ((its l).length - intOf p).toNat)
            case atStart => exact ⟨0, by omega, rfl, by simp [ip_zero], by simp [ip_zero]⟩
            case round =>
              obtain ⟨m, hm, rfl, rfl, hmk⟩ := hrel
              by_cases hml : m = (its l).length
              · have f5 : decide ((m : Int) < ((its l).length : Int)) = false := decide_eq_false (by omega)
                have f5m : ¬ m < (its l).length := by omega
                have f5n : decide (m < (its l).length) = false := decide_eq_false f5m
                have hcut := its_cut l m k hm hmk (.inl hml)
                have hcm2 : came (xs.take m) = its (l.take k) := by rw [came_take, hcm, hcut]
                have hrw2 : Rd wa 2 aw m capw (itV (xs.take m)) := by
                  have h1 := hrw
                  rw [itV_take xs m] at h1
                  exact rd_front2 h1 (by rw [itV_len, List.length_take]; omega) hm
                have hdr : Below wa.heap.size wa wa.drew := (Below.refl _ _).drew
                have hal2 : allEl wa.drew.heap.size (xs.take m) wa.drew := fun x hx => (hall.below' hba hdr) x (List.mem_of_mem_take hx)
                have hon := once_any (some ⟨lb4, lf4, none⟩) aw k cap4 m capw (l.take k) (xs.take m) 0 wa.drew (by omega) (hrka.later hdr) (hrw2.later hdr) hcm2 hal2
                have Hon := Lib.hid hon
                have hwc := hrw2.le
                have j0 : (0 : Int) ≤ (m : Int) := by omega
                have j1 : (m : Int) ≤ (capw : Int) := by omega
                have hfin : ∀ wz, Below wa.drew.heap.size wa.drew wz → Below W.heap.size W wz := fun wz h => (hb05.trans (hba.mono hb05.size)).trans ((hdr.trans h).mono (Nat.le_trans hb05.size hba.size))
                have Hfin := Lib.hid hfin
                clear hon hcut hcm2 hfin hal2 hml
                cases aw with
                | none =>
                  have hcw := hrw2.2.2.2.1 rfl
                  obtain ⟨hm0, _⟩ := hrw2.empty hcw
                  subst hcw hm0
                  go_wp2_with fail
                  go_region_law (first | (go_simp; go_at_call 15; refine Hon.out.mono ?_; rintro e wz ⟨rfl, hbz⟩))
                  go_wp2
                  go_ret
                  exact ⟨rfl, Hfin.out _ hbz⟩
                | some aw1 =>
                  go_wp2_with fail
                  go_region_law (first | (go_simp; go_at_call 15; refine Hon.out.mono ?_; rintro e wz ⟨rfl, hbz⟩))
                  go_wp2
                  go_ret
                  exact ⟨rfl, Hfin.out _ hbz⟩
              · have f5 : decide ((m : Int) < ((its l).length : Int)) = true := decide_eq_true (by omega)
                have hm2 : m < (its l).length := by omega
                have f5n : decide (m < (its l).length) = true := decide_eq_true hm2
                obtain ⟨y, hy⟩ : ∃ y, xs[m]? = some y := ⟨_, List.getElem?_eq_getElem (by omega)⟩
                obtain ⟨h6, h7, h8, h9⟩ := its_at l m hm2
                have hyi : (its l)[m]?.getD (0, []) = y.it := by rw [← hcm, came, List.getElem?_map, hy]; rfl
                have h10 := hd1_len _ h7
                rw [← h6, hyi] at h10
                have hip : ip (its l) (m + 1) = ip (its l) m + 5 + y.it.2.length := by omega
                obtain ⟨b1, o1, e1, hlt1, hc1⟩ := hrw.some (by have := hrw.le; omega)
                subst e1
                have c2 : wa.cell? ⟨b1, o1 + m * 2 + 1, none⟩ = _ := hc1 (m * 2 + 1) _ (itV_at xs m y hy).2
                have j2 : (0 : Int) ≤ (m : Int) := by omega
                have j3 : (m : Int) < ((its l).length : Int) := by omega
                have hip2 : ip (its l) m ≤ 21000000 := by omega
                have hyl : y.it.2.length ≤ 21000000 := by omega
                have w1' : IntKind.i64.wrap (((ip (its l) m : Nat) : Int) + 5) = ((ip (its l) m : Nat) : Int) + 5 := by rw [IntWalk.i64_in] <;> omega
                have w2' : IntKind.i64.wrap (((ip (its l) m : Nat) : Int) + 5 + (y.it.2.length : Int)) = ((ip (its l) m : Nat) : Int) + 5 + (y.it.2.length : Int) := by rw [IntWalk.i64_in] <;> omega
                clear h6 h7 h8 h9 h10 hyi hy
                by_cases hstep : ip (its l) (m + 1) ≤ k
                · have f6 : decide (((ip (its l) m : Nat) : Int) + 5 + (y.it.2.length : Int) ≤ (k : Int)) = true := decide_eq_true (by omega)
                  have Hip := Lib.hid hip
                  have Hst := Lib.hid hstep
                  clear hip hstep
                  generalize ip (its l) m = at0 at *
                  go_wp2_with fail
                  go_round
                  case rel => exact ⟨m + 1, by omega, by go_num, congrArg (Value.int IntKind.i64) (by have h := Hip.out; omega), Hst.out⟩
                  case measure => simp [intOf]; omega
                · have f6 : decide (((ip (its l) m : Nat) : Int) + 5 + (y.it.2.length : Int) ≤ (k : Int)) = false := decide_eq_false (by omega)
                  have hcut := its_cut l m k hm hmk (.inr (by omega))
                  have hcm2 : came (xs.take m) = its (l.take k) := by rw [came_take, hcm, hcut]
                  have hrw2 : Rd wa 2 (some ⟨b1, o1, none⟩) m capw (itV (xs.take m)) := by
                    have h1 := hrw
                    rw [itV_take xs m] at h1
                    exact rd_front2 h1 (by rw [itV_len, List.length_take]; omega) hm
                  have hdr : Below wa.heap.size wa wa.drew := (Below.refl _ _).drew
                  have hal2 : allEl wa.drew.heap.size (xs.take m) wa.drew := fun x hx => (hall.below' hba hdr) x (List.mem_of_mem_take hx)
                  have hon := once_any (some ⟨lb4, lf4, none⟩) (some ⟨b1, o1, none⟩) k cap4 m capw (l.take k) (xs.take m) 0 wa.drew (by omega) (hrka.later hdr) (hrw2.later hdr) hcm2 hal2
                  have Hon := Lib.hid hon
                  have hwc := hrw2.le
                  have j0 : (0 : Int) ≤ (m : Int) := by omega
                  have j1 : (m : Int) ≤ (capw : Int) := by omega
                  have hfin : ∀ wz, Below wa.drew.heap.size wa.drew wz → Below W.heap.size W wz := fun wz h => (hb05.trans (hba.mono hb05.size)).trans ((hdr.trans h).mono (Nat.le_trans hb05.size hba.size))
                  have Hfin := Lib.hid hfin
                  clear hon hcut hcm2 hfin hal2 hip hstep
                  go_wp2_with fail
                  go_region_law (first | (go_simp; go_at_call 15; refine Hon.out.mono ?_; rintro e wz ⟨rfl, hbz⟩))
                  go_wp2
                  go_ret
                  exact ⟨rfl, Hfin.out _ hbz⟩
          | true =>
            have hne : s.ends = 4 := by
              unfold RS.ends
              rcases Hgd.out (by first | rfl | trivial) with h | h
              · rw [if_pos (.inl h)]
              · by_cases h0 : 0 < s.l.length
                · rw [if_pos (.inr h0)]
                · exfalso
                  have h5 := congrArg List.length h
                  rw [List.length_append, Hll.out, hlk] at h5
                  omega
            have hend := rend_any _ _ _ _ hrr
            rw [hne] at hend
            clear Hgd hne
            go_wp2_with fail
            refine hend.mono ?_
            rintro e w6 ⟨rfl, rfl⟩
            go_wp2_with fail
            refine (num_any 4 _).mono ?_
            rintro e w7 ⟨rfl, h9⟩
            obtain rfl := h9.symm
            clear h9
            go_wp2_with fail
            refine (rall_any _ l.length cap4 l wr hr4' (by omega)).mono ?_
            rintro e wa ⟨aw, capw, xs, rfl, hcm, hrw, hall, hba, _⟩
            have hxl : xs.length = (its l).length := by rw [← hcm, came, List.length_map]
            have hrka := hrk'.later hba
            have hil5 := its_len l
            go_wp2
            go_loop [12, 13] (fun a p => ∃ m : Nat, m ≤ (its l).length ∧ p = .int .i64 (m : Int) ∧ a = .int .i64 ((ip (its l) m : Nat) : Int) ∧ ip (its l) m ≤ k) (fun _ p => ((its l).length - intOf p).toNat)
            case atStart => exact ⟨0, by omega, rfl, by simp [ip_zero], by simp [ip_zero]⟩
            case round =>
              obtain ⟨m, hm, rfl, rfl, hmk⟩ := hrel
              by_cases hml : m = (its l).length
              · have f5 : decide ((m : Int) < ((its l).length : Int)) = false := decide_eq_false (by omega)
                have f5m : ¬ m < (its l).length := by omega
                have f5n : decide (m < (its l).length) = false := decide_eq_false f5m
                have hcut := its_cut l m k hm hmk (.inl hml)
                have hcm2 : came (xs.take m) = its (l.take k) := by rw [came_take, hcm, hcut]
                have hrw2 : Rd wa 2 aw m capw (itV (xs.take m)) := by
                  have h1 := hrw
                  rw [itV_take xs m] at h1
                  exact rd_front2 h1 (by rw [itV_len, List.length_take]; omega) hm
                have hdr : Below wa.heap.size wa wa.drew := (Below.refl _ _).drew
                have hal2 : allEl wa.drew.heap.size (xs.take m) wa.drew := fun x hx => (hall.below' hba hdr) x (List.mem_of_mem_take hx)
                have hon := once_any (some ⟨lb4, lf4, none⟩) aw k cap4 m capw (l.take k) (xs.take m) 0 wa.drew (by omega) (hrka.later hdr) (hrw2.later hdr) hcm2 hal2
                have Hon := Lib.hid hon
                have hwc := hrw2.le
                have j0 : (0 : Int) ≤ (m : Int) := by omega
                have j1 : (m : Int) ≤ (capw : Int) := by omega
                have hfin : ∀ wz, Below wa.drew.heap.size wa.drew wz → Below W.heap.size W wz := fun wz h => (hb05.trans (hba.mono hb05.size)).trans ((hdr.trans h).mono (Nat.le_trans hb05.size hba.size))
                have Hfin := Lib.hid hfin
                clear hon hcut hcm2 hfin hal2 hml
                cases aw with
                | none =>
                  have hcw := hrw2.2.2.2.1 rfl
                  obtain ⟨hm0, _⟩ := hrw2.empty hcw
                  subst hcw hm0
                  go_wp2_with fail
                  go_region_law (first | (go_simp; go_at_call 15; refine Hon.out.mono ?_; rintro e wz ⟨rfl, hbz⟩))
                  go_wp2
                  go_ret
                  exact ⟨rfl, Hfin.out _ hbz⟩
                | some aw1 =>
                  go_wp2_with fail
                  go_region_law (first | (go_simp; go_at_call 15; refine Hon.out.mono ?_; rintro e wz ⟨rfl, hbz⟩))
                  go_wp2
                  go_ret
                  exact ⟨rfl, Hfin.out _ hbz⟩
              · have f5 : decide ((m : Int) < ((its l).length : Int)) = true := decide_eq_true (by omega)
                have hm2 : m < (its l).length := by omega
                have f5n : decide (m < (its l).length) = true := decide_eq_true hm2
                obtain ⟨y, hy⟩ : ∃ y, xs[m]? = some y := ⟨_, List.getElem?_eq_getElem (by omega)⟩
                obtain ⟨h6, h7, h8, h9⟩ := its_at l m hm2
                have hyi : (its l)[m]?.getD (0, []) = y.it := by rw [← hcm, came, List.getElem?_map, hy]; rfl
                have h10 := hd1_len _ h7
                rw [← h6, hyi] at h10
                have hip : ip (its l) (m + 1) = ip (its l) m + 5 + y.it.2.length := by omega
                obtain ⟨b1, o1, e1, hlt1, hc1⟩ := hrw.some (by have := hrw.le; omega)
                subst e1
                have c2 : wa.cell? ⟨b1, o1 + m * 2 + 1, none⟩ = _ := hc1 (m * 2 + 1) _ (itV_at xs m y hy).2
                have j2 : (0 : Int) ≤ (m : Int) := by omega
                have j3 : (m : Int) < ((its l).length : Int) := by omega
                have hip2 : ip (its l) m ≤ 21000000 := by omega
                have hyl : y.it.2.length ≤ 21000000 := by omega
                have w1' : IntKind.i64.wrap (((ip (its l) m : Nat) : Int) + 5) = ((ip (its l) m : Nat) : Int) + 5 := by rw [IntWalk.i64_in] <;> omega
                have w2' : IntKind.i64.wrap (((ip (its l) m : Nat) : Int) + 5 + (y.it.2.length : Int)) = ((ip (its l) m : Nat) : Int) + 5 + (y.it.2.length : Int) := by rw [IntWalk.i64_in] <;> omega
                clear h6 h7 h8 h9 h10 hyi hy
                by_cases hstep : ip (its l) (m + 1) ≤ k
                · have f6 : decide (((ip (its l) m : Nat) : Int) + 5 + (y.it.2.length : Int) ≤ (k : Int)) = true := decide_eq_true (by omega)
                  have Hip := Lib.hid hip
                  have Hst := Lib.hid hstep
                  clear hip hstep
                  generalize ip (its l) m = at0 at *
                  go_wp2_with fail
                  go_round
                  case rel => exact ⟨m + 1, by omega, by go_num, congrArg (Value.int IntKind.i64) (by have h := Hip.out; omega), Hst.out⟩
                  case measure => simp [intOf]; omega
                · have f6 : decide (((ip (its l) m : Nat) : Int) + 5 + (y.it.2.length : Int) ≤ (k : Int)) = false := decide_eq_false (by omega)
                  have hcut := its_cut l m k hm hmk (.inr (by omega))
                  have hcm2 : came (xs.take m) = its (l.take k) := by rw [came_take, hcm, hcut]
                  have hrw2 : Rd wa 2 (some ⟨b1, o1, none⟩) m capw (itV (xs.take m)) := by
                    have h1 := hrw
                    rw [itV_take xs m] at h1
                    exact rd_front2 h1 (by rw [itV_len, List.length_take]; omega) hm
                  have hdr : Below wa.heap.size wa wa.drew := (Below.refl _ _).drew
                  have hal2 : allEl wa.drew.heap.size (xs.take m) wa.drew := fun x hx => (hall.below' hba hdr) x (List.mem_of_mem_take hx)
                  have hon := once_any (some ⟨lb4, lf4, none⟩) (some ⟨b1, o1, none⟩) k cap4 m capw (l.take k) (xs.take m) 0 wa.drew (by omega) (hrka.later hdr) (hrw2.later hdr) hcm2 hal2
                  have Hon := Lib.hid hon
                  have hwc := hrw2.le
                  have j0 : (0 : Int) ≤ (m : Int) := by omega
                  have j1 : (m : Int) ≤ (capw : Int) := by omega
                  have hfin : ∀ wz, Below wa.drew.heap.size wa.drew wz → Below W.heap.size W wz := fun wz h => (hb05.trans (hba.mono hb05.size)).trans ((hdr.trans h).mono (Nat.le_trans hb05.size hba.size))
                  have Hfin := Lib.hid hfin
                  clear hon hcut hcm2 hfin hal2 hip hstep
                  go_wp2_with fail
                  go_region_law (first | (go_simp; go_at_call 15; refine Hon.out.mono ?_; rintro e wz ⟨rfl, hbz⟩))
                  go_wp2
                  go_ret
                  exact ⟨rfl, Hfin.out _ hbz⟩
        · have f2 : decide ((i : Int) < (ps.length : Int)) = true := decide_eq_true (by omega)
          cases gd with
          | false =>
            go_wp2
            go_roundw
            case rel => exact ⟨i + 1, false, s, by omega, by go_num, rfl, hrr, hbr, hsl, (fun h => by cases h)⟩
            case measure => simp [intOf]; omega
          | true =>
            have hkl2 : i < ps.length := by omega
            have hpk : ps[i]? = some ps[i] := List.getElem?_eq_getElem hkl2
            have hgk := (hp4.each _ (List.getElem_mem hkl2)).later hbr
            have hlk2 : ptLow w4.heap.size ps[i] := ⟨(hp4.each _ (List.getElem_mem hkl2)).1.lt, (hp4.each _ (List.getElem_mem hkl2)).2.1.lt⟩
            have hsk := Hs.out _ (List.getElem_mem hkl2)
            have hrd := hp4.rd.later hbr
            have hcap2 := hrd.le
            obtain ⟨lb, lf, rfl, llt, lc⟩ := hrd.some (by omega)
            have e0 := lc (i * 5 + 0) _ (ptsV_at ps i _ hpk 0 _ rfl)
            have e1 : wr.cell? ⟨lb, lf + i * 5 + 1, none⟩ = _ := lc (i * 5 + 1) _ (ptsV_at ps i _ hpk 1 _ rfl)
            have e2 : wr.cell? ⟨lb, lf + i * 5 + 2, none⟩ = _ := lc (i * 5 + 2) _ (ptsV_at ps i _ hpk 2 _ rfl)
            have e3 : wr.cell? ⟨lb, lf + i * 5 + 3, none⟩ = _ := lc (i * 5 + 3) _ (ptsV_at ps i _ hpk 3 _ rfl)
            have e4 : wr.cell? ⟨lb, lf + i * 5 + 4, none⟩ = _ := lc (i * 5 + 4) _ (ptsV_at ps i _ hpk 4 _ rfl)
            rw [Nat.add_zero] at e0
            have i2 : (0 : Int) ≤ (i : Int) := by omega
            have i3 : (i : Int) < (ps.length : Int) := by omega
            have hok1 := okL_at ps hok i _ hpk
            have hws := wantL_succ ps i _ hpk
            have Hws := Lib.hid hws
            have hbk := back_any w4.heap.size g5 s ps[i] wr hrr (by omega) hgk hsk hlk2 hok1
            have Hbk := Lib.hid hbk
            clear hbk hws hpk hgk hlk2 hsk hok1
            generalize ps[i] = p at *
            go_wp2_with fail
            refine Hbk.out.mono ?_
            rintro e w6 ⟨r6, s6, rfl, hr6, hb6, hbks, hle6⟩
            have hnew : Hid (r6 = true → s6.bad = true ∨ l.take k = wantL ps (i + 1) ++ s6.l) := by
              intro h6
              cases hb : s6.bad with
              | true => exact .inl rfl
              | false =>
                obtain ⟨h7, h8⟩ := hbks.2 h6 hb
                rcases Hgd.out (by first | rfl | trivial) with h | h
                · rw [h7] at h; cases h
                · exact .inr (by rw [Hws.out, h, h8, List.append_assoc])
            go_wp2
            go_roundw
            case rel => exact ⟨i + 1, r6, s6, by omega, by go_num, rfl, hr6, hbr.trans hb6, by omega, hnew⟩
            case measure => simp [intOf]; omega
end Go.Proofs.Ytpkabinmnkadeaa.Tlv
