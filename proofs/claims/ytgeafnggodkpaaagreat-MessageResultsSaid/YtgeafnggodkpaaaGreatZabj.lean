/-
  A part of the proof: what this text holds is told at each of its declarations.
-/
import Derived.Test.YtgeafnggodkpaaaGreatZaau
import Derived.Test.YtgeafnggodkpaaaGreatZaal
namespace Go.Proofs.YtgeafnggodkpaaaGreat.Msg
open Go.RowKit Go.Lib Go.Proofs.YtgeafnggodkpaaaGreat.Mem Go.Proofs.YtgeafnggodkpaaaGreat.Tlv

/-- Two results' boxes, and two entries in their rows. -/
structure SrAt (w : World) (v v' : QV) (b1 o1 b2 o2 k : Nat) (p q : EV) (W : World) : Prop where
  bel : Below w.heap.size w W
  q1 : W.heap[w.heap.size]? = some v.box
  q2 : W.heap[w.heap.size + 1]? = some v'.box
  x0 : W.cell? ⟨b1, o1 + k * 2, none⟩ = some (.string p.name)
  x1 : W.cell? ⟨b1, o1 + k * 2 + 1, none⟩ = some (.slice p.ao p.an p.ac)
  y0 : W.cell? ⟨b2, o2 + k * 2, none⟩ = some (.string q.name)
  y1 : W.cell? ⟨b2, o2 + k * 2 + 1, none⟩ = some (.slice q.ao q.an q.ac)
theorem SrAt.step {w W W' : World} {v v' : QV} {b1 o1 b2 o2 k : Nat} {p q : EV} (h : SrAt w v v' b1 o1 b2 o2 k p q W) (hb : Below W.heap.size W W') : SrAt w v v' b1 o1 b2 o2 k p q W' := by
  obtain ⟨e1, e2⟩ := qtwo_step h.q1 h.q2 hb
  exact ⟨h.bel.trans (hb.mono h.bel.size), e1, e2, cell_after hb h.x0, cell_after hb h.x1, cell_after hb h.y0, cell_after hb h.y1⟩

set_option maxRecDepth 100000 in
set_option maxHeartbeats 8000000 in
theorem rSameRes_any (v v' : QV) (c c' : QC) (w : World) (h : QAt w v c) (h' : QAt w v' c') : Calls Tryz.prog 33 #[v.val, v'.val] w (GivesB (sameRes v c v' c') w) := by
  have hmo : Tryz.prog.follows .mixedOrders = true := by kernel_rfl
  have lx := h.e.len
  have ly := h'.e.len
  have hcap : v.en ≤ 9223372036854775807 := by have := h.e.r.2.1; have := h.e.r.2.2.1; unfold maxLen at this; omega
  have hb0 : Below w.heap.size w ((w.alloc v.box).alloc v'.box) := below_two w _ _
  obtain ⟨k1, k2⟩ := two_boxes w v.box v'.box
  have hs1 := run_strD v.co _ v.cc _ ((w.alloc v.box).alloc v'.box) (h.c.later hb0)
  have hs2 := run_strD v'.co _ v'.cc _ ((w.alloc v.box).alloc v'.box) (h'.c.later hb0)
  unfold QV.box QV.cells at hb0 k1 k2 hs1 hs2
  unfold QV.val QV.cells
  by_cases e1 : v.code = v'.code
  case neg =>
    have f1 : (v.code == v'.code) = false := by simp [e1]
    have g1 : (v.code != v'.code) = true := by simp [e1]
    have Hs : Hid (sameRes v c v' c' = false) := Lib.hid (by unfold sameRes; rw [decide_eq_false e1]; simp)
    clear e1 lx ly hs1 hs2
    go_enter Tryz.func33, Tryz.ntmps33
    go_upto_region 1 with fail
    generalize hg : World.alloc _ _ = W0 at *
    have q1 : W0.heap[w.heap.size]? = some v.box := k1
    have q2 : W0.heap[w.heap.size + 1]? = some v'.box := k2
    clear hg k1 k2
    obtain ⟨c0, c1, c2, c3, -⟩ := qbox_all q1
    obtain ⟨d0, d1, d2, d3, -⟩ := qbox_all q2
    go_wp2_with fail
    go_ret
    exact ⟨by rw [Hs.out]; rfl, hb0⟩
  have f1 : (v.code == v'.code) = true := by simp [e1]
  have g1 : (v.code != v'.code) = false := by simp [e1]
  by_cases e2 : v.yes = v'.yes
  case neg =>
    have f2 : (v.yes == v'.yes) = false := by simp [e2]
    have g2 : (v.yes != v'.yes) = true := by simp [e2]
    have g3 : (v.yes ^^ v'.yes) = true := by cases h1 : v.yes <;> cases h2 : v'.yes <;> simp_all
    have Hs : Hid (sameRes v c v' c' = false) := Lib.hid (by unfold sameRes; rw [decide_eq_false e2]; simp)
    clear e1 e2 lx ly hs1 hs2
    go_enter Tryz.func33, Tryz.ntmps33
    go_upto_region 1 with fail
    generalize hg : World.alloc _ _ = W0 at *
    have q1 : W0.heap[w.heap.size]? = some v.box := k1
    have q2 : W0.heap[w.heap.size + 1]? = some v'.box := k2
    clear hg k1 k2
    obtain ⟨c0, c1, c2, c3, -⟩ := qbox_all q1
    obtain ⟨d0, d1, d2, d3, -⟩ := qbox_all q2
    go_wp2_with fail
    go_ret
    exact ⟨by rw [Hs.out]; rfl, hb0⟩
  have f2 : (v.yes == v'.yes) = true := by simp [e2]
  have g2 : (v.yes != v'.yes) = false := by simp [e2]
  have g3 : (v.yes ^^ v'.yes) = false := by simp [e2]
  by_cases e3 : v.en = v'.en
  case neg =>
    have f3 : ((v.en : Int) == (v'.en : Int)) = false := by rw [beq_eq_false_iff_ne]; omega
    have g4 : ((v.en : Int) != (v'.en : Int)) = true := by rw [bne, f3]; rfl
    have Hs : Hid (sameRes v c v' c' = false) := Lib.hid (by
      unfold sameRes
      cases hh : sameEnts c.ents c'.ents with
      | false => simp
      | true => have := sameEnts_len hh; omega)
    clear e1 e2 e3 lx ly hs1 hs2
    go_enter Tryz.func33, Tryz.ntmps33
    go_upto_region 1 with fail
    generalize hg : World.alloc _ _ = W0 at *
    have q1 : W0.heap[w.heap.size]? = some v.box := k1
    have q2 : W0.heap[w.heap.size + 1]? = some v'.box := k2
    clear hg k1 k2
    obtain ⟨c0, c1, c2, c3, -⟩ := qbox_all q1
    obtain ⟨d0, d1, d2, d3, -⟩ := qbox_all q2
    go_wp2_with fail
    go_ret
    exact ⟨by rw [Hs.out]; rfl, hb0⟩
  have f3 : ((v.en : Int) == (v'.en : Int)) = true := by rw [e3]; simp
  have g4 : ((v.en : Int) != (v'.en : Int)) = false := by rw [bne, f3]; rfl
  by_cases e4 : c.cursor = c'.cursor
  case neg =>
    have f4 := str_no e4
    have g5 : (c.cursor == c'.cursor) = false := beq_eq_false_iff_ne.2 e4
    have Hs : Hid (sameRes v c v' c' = false) := Lib.hid (by unfold sameRes; rw [decide_eq_false e4]; simp)
    clear e1 e2 e3 e4 lx ly
    go_enter Tryz.func33, Tryz.ntmps33
    go_upto_region 1 with fail
    generalize hg : World.alloc _ _ = W0 at *
    have q1 : W0.heap[w.heap.size]? = some v.box := k1
    have q2 : W0.heap[w.heap.size + 1]? = some v'.box := k2
    clear hg k1 k2
    obtain ⟨c0, c1, c2, c3, -⟩ := qbox_all q1
    obtain ⟨d0, d1, d2, d3, -⟩ := qbox_all q2
    go_wp2_with fail
    go_ret
    exact ⟨by rw [Hs.out]; rfl, hb0⟩
  rw [e4] at hs1
  have f4 := tol_yes ⟨c'.cursor.toArray⟩
  have g5 : (c'.cursor == c'.cursor) = true := by simp
  have Hs : Hid (sameRes v c v' c' = sameEnts c.ents c'.ents) := Lib.hid (by unfold sameRes; rw [decide_eq_true e1, decide_eq_true e2, decide_eq_true e4]; simp)
  have LX := Lib.hid lx
  have LY := Lib.hid (ly.trans e3.symm)
  have E3 := Lib.hid e3
  clear e1 e2 e3 e4 lx ly
  go_enter Tryz.func33, Tryz.ntmps33
  go_upto_region 1 with fail
  generalize hg : World.alloc _ _ = W0 at *
  have q1 : W0.heap[w.heap.size]? = some v.box := k1
  have q2 : W0.heap[w.heap.size + 1]? = some v'.box := k2
  clear hg k1 k2
  obtain ⟨c0, c1, c2, c3, -⟩ := qbox_all q1
  obtain ⟨d0, d1, d2, d3, -⟩ := qbox_all q2
  go_wp2_with fail
  clear c0 c1 c2 c3 d0 d1 d2 d3 f1 f2 f3 f4 g1 g2 g3 g4 g5 hs1 hs2
  go_loopw [5] (fun p wr => ∃ k : Nat, k ≤ v.en ∧ p = .int .i64 (k : Int) ∧ Hid (sameEnts (c.ents.take k) (c'.ents.take k) = true) ∧ Below W0.heap.size W0 wr) (fun p _ => v.en - (intOf p).toNat)
  case atStart => exact ⟨0, Nat.zero_le _, rfl, Lib.hid rfl, Below.refl _ _⟩
  case round =>
    obtain ⟨k, hk, rfl, Ht, hbr⟩ := hrel
    obtain ⟨r1, r2⟩ := qtwo_step q1 q2 hbr
    have hbel := hb0.trans (hbr.mono hb0.size)
    obtain ⟨c0, c1, c2, c3, -⟩ := qbox_all r1
    obtain ⟨d0, d1, d2, d3, -⟩ := qbox_all r2
    by_cases hkn : k < v.en
    · have hx := (h.later hbel).e
      have hy := (h'.later hbel).e
      obtain ⟨b1, o1, hao1, hl1, hc1⟩ := hx.r.some (by have := hx.r.le; omega)
      obtain ⟨b2, o2, hao2, hl2, hc2⟩ := hy.r.some (by have := hy.r.le; have := E3.out; omega)
      obtain ⟨u, hu⟩ : ∃ u, c.ents[k]? = some u := ⟨_, List.getElem?_eq_getElem (by rw [LX.out]; exact hkn)⟩
      obtain ⟨z, hz⟩ : ∃ z, c'.ents[k]? = some z := ⟨_, List.getElem?_eq_getElem (by rw [LY.out]; exact hkn)⟩
      obtain ⟨v1, v2⟩ := enV_at c.ents k u hu
      obtain ⟨v3, v4⟩ := enV_at c'.ents k z hz
      have hU := hx.each u (List.mem_of_getElem? hu)
      have hZ := hy.each z (List.mem_of_getElem? hz)
      have hd : Below wr.heap.size wr wr.drew := (Below.refl _ _).drew
      have s0 : SrAt w v v' b1 o1 b2 o2 k u.1 z.1 wr.drew := (⟨hbel, r1, r2, hc1 (k * 2) _ v1, hc1 (k * 2 + 1) _ v2, hc2 (k * 2) _ v3, hc2 (k * 2 + 1) _ v4⟩ : SrAt w v v' b1 o1 b2 o2 k u.1 z.1 wr).step hd
      have hU2 := hU.later hd
      have hZ2 := hZ.later hd
      have hnx := sameEnts_next c.ents c'.ents k u z hu hz
      rw [Ht.out, Bool.true_and] at hnx
      have HN := Lib.hid hnx
      have HB := Lib.hid hbr
      have i0 : (0 : Int) ≤ (k : Int) := by omega
      have i1 : (k : Int) < (v.en : Int) := by omega
      have i2 : (k : Int) < (v'.en : Int) := by have := E3.out; omega
      have HK := Lib.hid hkn
      have A1 := Lib.hid hao1
      have A2 := Lib.hid hao2
      clear v1 v2 v3 v4 hnx hx hy hU hZ hc1 hc2 hu hz hbel hao1 hao2
      go_upto_region 6 with fail
      refine wp_region_held (S := SrAt w v v' b1 o1 b2 o2 k u.1 z.1) hmo ?_
      change wpAnyH _ _ _ _ _ _ _ _ (World.drew wr)
      have hbd : Below W0.heap.size W0 wr.drew := hbr.trans (hd.mono hbr.size)
      generalize World.drew wr = X0 at *
      clear hbr HB hd c0 c1 c2 c3 d0 d1 d2 d3 r1 r2
      refine wpAnyH_take (i := 0) (v := .pointer (some ⟨w.heap.size, 2, none⟩)) rfl (by kernel_rfl) (by kernel_rfl) (by kernel_rfl) (fun _ _ _ h => h) (Or.inl ⟨by kernel_rfl, by intro _ _; kernel_rfl⟩) s0 ?_
      go_simp
      refine wpAnyH_take (i := 1) (v := .slice (some ⟨b1, o1, none⟩) v.en v.ec) rfl (by kernel_rfl) (by kernel_rfl) (by kernel_rfl) (fun _ _ _ h => h) (Or.inl ⟨by kernel_rfl, by rintro w2 h2; obtain ⟨c0, c1, c2, c3, -⟩ := qbox_all h2.q1; obtain ⟨d0, d1, d2, d3, -⟩ := qbox_all h2.q2; have x0 := h2.x0; have x1 := h2.x1; have y0 := h2.y0; have y1 := h2.y1; rw [A1.out] at c2; rw [A2.out] at d2; go_simp⟩) s0 ?_
      go_simp
      refine wpAnyH_take (i := 2) (v := .int .i64 (k : Int)) rfl (by kernel_rfl) (by kernel_rfl) (by kernel_rfl) (fun _ _ _ h => h) (Or.inl ⟨by kernel_rfl, by intro _ _; kernel_rfl⟩) s0 ?_
      go_simp
      refine wpAnyH_take (i := 3) (v := .pointer (some ⟨b1, o1 + k * 2, none⟩)) rfl (by kernel_rfl) (by kernel_rfl) (by kernel_rfl) (fun _ _ _ h => h) (Or.inl ⟨by kernel_rfl, by rintro w2 h2; obtain ⟨c0, c1, c2, c3, -⟩ := qbox_all h2.q1; obtain ⟨d0, d1, d2, d3, -⟩ := qbox_all h2.q2; have x0 := h2.x0; have x1 := h2.x1; have y0 := h2.y0; have y1 := h2.y1; rw [A1.out] at c2; rw [A2.out] at d2; go_simp⟩) s0 ?_
      go_simp
      refine wpAnyH_take (i := 4) (v := .agg #[.string u.1.name, .slice u.1.ao u.1.an u.1.ac]) rfl (by kernel_rfl) (by kernel_rfl) (by kernel_rfl) (fun _ _ _ h => h) (Or.inl ⟨by kernel_rfl, by rintro w2 h2; obtain ⟨c0, c1, c2, c3, -⟩ := qbox_all h2.q1; obtain ⟨d0, d1, d2, d3, -⟩ := qbox_all h2.q2; have x0 := h2.x0; have x1 := h2.x1; have y0 := h2.y0; have y1 := h2.y1; rw [A1.out] at c2; rw [A2.out] at d2; go_simp⟩) s0 ?_
      go_simp
      refine wpAnyH_take (i := 5) (v := .pointer (some ⟨w.heap.size + 1, 2, none⟩)) rfl (by kernel_rfl) (by kernel_rfl) (by kernel_rfl) (fun _ _ _ h => h) (Or.inl ⟨by kernel_rfl, by intro _ _; kernel_rfl⟩) s0 ?_
      go_simp
      refine wpAnyH_take (i := 6) (v := .slice (some ⟨b2, o2, none⟩) v'.en v'.ec) rfl (by kernel_rfl) (by kernel_rfl) (by kernel_rfl) (fun _ _ _ h => h) (Or.inl ⟨by kernel_rfl, by rintro w2 h2; obtain ⟨c0, c1, c2, c3, -⟩ := qbox_all h2.q1; obtain ⟨d0, d1, d2, d3, -⟩ := qbox_all h2.q2; have x0 := h2.x0; have x1 := h2.x1; have y0 := h2.y0; have y1 := h2.y1; rw [A1.out] at c2; rw [A2.out] at d2; go_simp⟩) s0 ?_
      go_simp
      refine wpAnyH_take (i := 7) (v := .int .i64 (k : Int)) rfl (by kernel_rfl) (by kernel_rfl) (by kernel_rfl) (fun _ _ _ h => h) (Or.inl ⟨by kernel_rfl, by intro _ _; kernel_rfl⟩) s0 ?_
      go_simp
      refine wpAnyH_take (i := 8) (v := .pointer (some ⟨b2, o2 + k * 2, none⟩)) rfl (by kernel_rfl) (by kernel_rfl) (by kernel_rfl) (fun _ _ _ h => h) (Or.inl ⟨by kernel_rfl, by rintro w2 h2; obtain ⟨c0, c1, c2, c3, -⟩ := qbox_all h2.q1; obtain ⟨d0, d1, d2, d3, -⟩ := qbox_all h2.q2; have x0 := h2.x0; have x1 := h2.x1; have y0 := h2.y0; have y1 := h2.y1; rw [A1.out] at c2; rw [A2.out] at d2; go_simp⟩) s0 ?_
      go_simp
      refine wpAnyH_take (i := 9) (v := .agg #[.string z.1.name, .slice z.1.ao z.1.an z.1.ac]) rfl (by kernel_rfl) (by kernel_rfl) (by kernel_rfl) (fun _ _ _ h => h) (Or.inl ⟨by kernel_rfl, by rintro w2 h2; obtain ⟨c0, c1, c2, c3, -⟩ := qbox_all h2.q1; obtain ⟨d0, d1, d2, d3, -⟩ := qbox_all h2.q2; have x0 := h2.x0; have x1 := h2.x1; have y0 := h2.y0; have y1 := h2.y1; rw [A1.out] at c2; rw [A2.out] at d2; go_simp⟩) s0 ?_
      go_simp
      refine wpAnyH_all (rs := [10]) (by kernel_rfl) (by simp) (fun j hj => ?_)
      rw [List.mem_singleton] at hj
      subst hj
      refine wpOp_step rfl (fun K hK => ?_)
      go_simp
      have hc := rSameEntry_any u.1 z.1 u.2 z.2 X0 hU2 hZ2
      unfold EV.val EV.cells at hc
      refine hc.mono ?_
      rintro e X1 ⟨rfl, hb1⟩
      have s1 := s0.step hb1
      clear hc
      go_simp
      refine hK _ _ ⟨s1, ?_⟩
      clear hK K
      refine wpAnyH_take (i := 11) (v := .bool (!sameEntry u.1 u.2 z.1 z.2)) rfl (by kernel_rfl) (by kernel_rfl) (by kernel_rfl) (fun _ _ _ h => h) (Or.inl ⟨by kernel_rfl, by rintro w2 h2; obtain ⟨c0, c1, c2, c3, -⟩ := qbox_all h2.q1; obtain ⟨d0, d1, d2, d3, -⟩ := qbox_all h2.q2; have x0 := h2.x0; have x1 := h2.x1; have y0 := h2.y0; have y1 := h2.y1; rw [A1.out] at c2; rw [A2.out] at d2; go_simp⟩) s1 ?_
      go_simp
      refine wpAnyH_done (by kernel_rfl) ?_ _
      have hbx := hbd.trans (hb1.mono hbd.size)
      have hb2 := s1.bel
      cases hm : sameEntry u.1 u.2 z.1 z.2 with
      | false =>
        have Hf : Hid (sameEnts c.ents c'.ents = false) := Lib.hid (sameEnts_cut c.ents c'.ents (k + 1) (by rw [HN.out]; exact hm) (by rw [LX.out, LY.out]))
        clear hm
        go_wp2_with fail
        go_ret
        exact ⟨by rw [Hs.out, Hf.out]; rfl, hb2⟩
      | true =>
        have Hf : Hid (sameEnts (c.ents.take (k + 1)) (c'.ents.take (k + 1)) = true) := Lib.hid (by rw [HN.out]; exact hm)
        clear hm
        go_wp2_with fail
        go_roundw
        case rel => exact ⟨k + 1, HK.out, (by have := HK.out; go_num), Hf, hbx⟩
        case measure => have := HK.out; simp [intOf]; omega
    · have Hf : Hid (sameEnts c.ents c'.ents = true) := Lib.hid (by have := Ht.out; rw [List.take_of_length_le (by rw [LX.out]; omega), List.take_of_length_le (by rw [LY.out]; omega)] at this; exact this)
      have hkn2 : k = v.en := by omega
      subst hkn2
      go_wp2_with fail
      go_ret
      exact ⟨by rw [Hs.out, Hf.out]; rfl, hbel⟩
end Go.Proofs.YtgeafnggodkpaaaGreat.Msg
