/-
  The document's bare: what a kind names alone.
-/
import Derived.Laws.CopyOwn
import Derived.Deep.Cut
import Derived.Test.YtgeafnggodkpaaaGreatPc
import Derived.Test.YtgeafnggodkpaaaGreatLd
import Derived.Test.YtgeafnggodkpaaaGreatLh
import Derived.Test.YtgeafnggodkpaaaGreatNw
namespace Go.Proofs.YtgeafnggodkpaaaGreat.Msg
open Go.RowKit Go.Lib Go.Proofs.YtgeafnggodkpaaaGreat.Mem Go.Proofs.YtgeafnggodkpaaaGreat.Utf

/-- bare goes on: what is asked, the result's cell, what is built. -/
structure InBare (w : World) (v u : OV) (W : World) : Prop where
  o : W.heap[w.heap.size]? = some v.box
  r : W.heap[w.heap.size + 1]? = some zeroV.box
  b : W.heap[w.heap.size + 1 + 1]? = some u.box
  bel : Below w.heap.size w W
def GivesBare (v : OV) (w : World) (e : Ending) (w' : World) : Prop := e = .returned (.tuple #[(keepL (fieldsOf v.k) v).val, .bool (decide (fieldsOf v.k ≠ []))]) ∧ Below w.heap.size w w'
theorem InBare.set {w W : World} {v u : OV} (h : InBare w v u W) (i : Nat) (x : Value) (u' : OV) (hc : ∀ cs, u.box = .cells cs 27 → u'.box = .cells (cs.setIfInBounds i x) 27) : InBare w v u' (W.setCell ⟨w.heap.size + 1 + 1, i, none⟩ x) := by
  obtain ⟨h1, h2, h3, h4⟩ := h
  refine ⟨at_other h1 (by omega), at_other h2 (by omega), ?_, h4.setCell (p := ⟨w.heap.size + 1 + 1, i, none⟩) (by dsimp only; omega) x⟩
  have e := hc _ rfl
  rw [e]
  unfold OV.box at h3
  exact at_set h3
theorem InBare.done {w W : World} {v u : OV} (h : InBare w v u W) (cs : Array Value) (_hc : u.box = .cells cs 27) : (W.setRow (w.heap.size + 1) cs).heap[w.heap.size + 1]? = some (.cells cs 27) ∧ Below w.heap.size w (W.setRow (w.heap.size + 1) cs) := by
  have hr := h.r
  unfold OV.box at hr
  exact ⟨setRow_at' hr, below_setRow h.bel (by omega) _⟩

set_option maxRecDepth 100000 in
set_option maxHeartbeats 20000000 in
theorem rbare_any (v : OV) (w : World) : Calls Tryz.prog 60 #[v.val] w (GivesBare v w) := by
  have hmo : Tryz.prog.follows .mixedOrders = true := by kernel_rfl
  have s0 : InBare w v (keepL [] v) (((w.alloc v.box).alloc zeroV.box).alloc (keepL [] v).box) := by
    obtain ⟨k1, k2, k3⟩ := three_boxes w v.box zeroV.box (keepL [] v).box
    exact ⟨k1, k2, k3, below_three w _ _ _⟩
  unfold OV.box at s0
  unfold OV.val
  by_cases hk : 1 ≤ v.k ∧ v.k ≤ 8
  case neg =>
    have HF : Hid (fieldsOf v.k = []) := Lib.hid (by unfold fieldsOf; (repeat rw [if_neg (by omega)]))
    have g1 : (v.k == 1) = false := by simp; omega
    have g3 : (v.k == 3) = false := by simp; omega
    have g5 : (v.k == 5) = false := by simp; omega
    have g2 : (v.k == 2) = false := by simp; omega
    have g6 : (v.k == 6) = false := by simp; omega
    have g4 : (v.k == 4) = false := by simp; omega
    have g7 : (v.k == 7) = false := by simp; omega
    have g8 : (v.k == 8) = false := by simp; omega
    clear hk
    go_enter Tryz.func60, Tryz.ntmps60
    go_upto_region 2 with (refine wpList_store_new rfl rfl rfl rfl (by kernel_rfl) rfl (by kernel_rfl) ?_; go_simp)
    generalize hg : ((w.alloc _).alloc _).alloc _ = W0
    have s9 : InBare w v (keepL [] v) W0 := by rw [← hg]; exact s0
    clear hg s0
    obtain ⟨c0, c1, c2, c3, c4, c5, c6, -⟩ := box_all s9.o
    go_wp2_with (first | (refine wpList_load_row s9.b rfl rfl rfl (by kernel_rfl) (by kernel_rfl) ?_; go_simp) | (refine wpList_store_row s9.r rfl rfl rfl rfl (by kernel_rfl) rfl (by kernel_rfl) ?_; go_simp))
    obtain ⟨f1, f2⟩ := s9.done _ rfl
    exact bodyPost_ret (results_row2 (i := 2) (j := 3) (t := 27) rfl rfl rfl (by kernel_rfl) (by kernel_rfl) f1) rfl ⟨by rw [HF.out]; rfl, f2⟩
  rcases (by omega : v.k = 1 ∨ v.k = 2 ∨ v.k = 3 ∨ v.k = 4 ∨ v.k = 5 ∨ v.k = 6 ∨ v.k = 7 ∨ v.k = 8) with hv | hv | hv | hv | hv | hv | hv | hv
  · clear hk
    have HF : Hid (fieldsOf v.k = [110, 97]) := Lib.hid (by rw [hv]; rfl)
    have g1 : (v.k == 1) = true := by simp; omega
    have g3 : (v.k == 3) = false := by simp; omega
    have g5 : (v.k == 5) = false := by simp; omega
    have g2 : (v.k == 2) = false := by simp; omega
    have g6 : (v.k == 6) = false := by simp; omega
    have g4 : (v.k == 4) = false := by simp; omega
    have g7 : (v.k == 7) = false := by simp; omega
    have g8 : (v.k == 8) = false := by simp; omega
    clear hv
    go_enter Tryz.func60, Tryz.ntmps60
    go_upto_region 2 with (refine wpList_store_new rfl rfl rfl rfl (by kernel_rfl) rfl (by kernel_rfl) ?_; go_simp)
    generalize hg : ((w.alloc _).alloc _).alloc _ = W0
    have s1 : InBare w v (keepL [] v) W0 := by rw [← hg]; exact s0
    clear hg s0
    obtain ⟨c0, c1, c2, c3, c4, c5, c6, -⟩ := box_all s1.o
    obtain ⟨b0, b1, b2, b3, b4, b5, b6, b7⟩ := box_all s1.b
    go_upto_region 7 with fail
    have d0 : InBare w v (keepL [] v) W0.drew := ⟨s1.o, s1.r, s1.b, s1.bel.drew⟩
    refine wp_region_held (S := fun W => W.heap[w.heap.size]? = some v.box) hmo ?_
    change wpAnyH _ _ _ _ _ _ _ _ (World.drew _)
    refine wpAnyH_take (i := 0) (v := .pointer (some ⟨w.heap.size, 1, none⟩)) rfl (by kernel_rfl) (by kernel_rfl) (by kernel_rfl) (fun _ _ _ h => h) (Or.inl ⟨by kernel_rfl, by intro _ _; kernel_rfl⟩) d0.o ?_
    go_simp
    refine wpAnyH_take (i := 1) (v := .string v.name) rfl (by kernel_rfl) (by kernel_rfl) (by kernel_rfl) (fun _ _ _ h => h) (Or.inl ⟨by kernel_rfl, by rintro w h; obtain ⟨c0, c1, c2, c3, c4, c5, c6, -⟩ := box_all h; go_simp⟩) d0.o ?_
    go_simp
    refine wpAnyH_take (i := 2) (v := .pointer (some ⟨w.heap.size, 3, none⟩)) rfl (by kernel_rfl) (by kernel_rfl) (by kernel_rfl) (fun _ _ _ h => h) (Or.inl ⟨by kernel_rfl, by intro _ _; kernel_rfl⟩) d0.o ?_
    go_simp
    refine wpAnyH_take (i := 3) (v := .slice v.ao v.an v.ac) rfl (by kernel_rfl) (by kernel_rfl) (by kernel_rfl) (fun _ _ _ h => h) (Or.inl ⟨by kernel_rfl, by rintro w h; obtain ⟨c0, c1, c2, c3, c4, c5, c6, -⟩ := box_all h; go_simp⟩) d0.o ?_
    go_simp
    refine wpAnyH_take (i := 4) (v := .pointer (some ⟨w.heap.size + 1 + 1, 1, none⟩)) rfl (by kernel_rfl) (by kernel_rfl) (by kernel_rfl) (fun _ _ _ h => h) (Or.inl ⟨by kernel_rfl, by intro _ _; kernel_rfl⟩) d0.o ?_
    go_simp
    refine wpAnyH_all (rs := [5]) (by kernel_rfl) (by simp) (fun j hj => ?_)
    rw [List.mem_singleton] at hj
    subst hj
    refine wpOp_step rfl (fun K hK => ?_)
    go_simp
    have d1 := d0.set 1 (.string v.name) (keepL [110] v) (fun cs h => by cases h; rfl)
    refine hK _ _ ⟨d1.o, ?_⟩
    clear hK K
    refine wpAnyH_take (i := 6) (v := .pointer (some ⟨w.heap.size + 1 + 1, 3, none⟩)) rfl (by kernel_rfl) (by kernel_rfl) (by kernel_rfl) (fun _ _ _ h => h) (Or.inl ⟨by kernel_rfl, by intro _ _; kernel_rfl⟩) d1.o ?_
    go_simp
    refine wpAnyH_all (rs := [7]) (by kernel_rfl) (by simp) (fun j hj => ?_)
    rw [List.mem_singleton] at hj
    subst hj
    refine wpOp_step rfl (fun K hK => ?_)
    go_simp
    have d2 := d1.set 3 (.slice v.ao v.an v.ac) (keepL [110, 97] v) (fun cs h => by cases h; rfl)
    refine hK _ _ ⟨d2.o, ?_⟩
    clear hK K
    refine wpAnyH_done (by kernel_rfl) ?_ _
    have s9 := d2
    clear c0 c1 c2 c3 c4 c5 c6 b0 b1 b2 b3 b4 b5 b6 b7
    go_wp2_with (first | (refine wpList_load_row s9.b rfl rfl rfl (by kernel_rfl) (by kernel_rfl) ?_; go_simp) | (refine wpList_store_row s9.r rfl rfl rfl rfl (by kernel_rfl) rfl (by kernel_rfl) ?_; go_simp))
    obtain ⟨f1, f2⟩ := s9.done _ rfl
    exact bodyPost_ret (results_row2 (i := 2) (j := 3) (t := 27) rfl rfl rfl (by kernel_rfl) (by kernel_rfl) f1) rfl ⟨by rw [HF.out]; rfl, f2⟩
  · clear hk
    have HF : Hid (fieldsOf v.k = [110]) := Lib.hid (by rw [hv]; rfl)
    have g1 : (v.k == 1) = false := by simp; omega
    have g3 : (v.k == 3) = false := by simp; omega
    have g5 : (v.k == 5) = false := by simp; omega
    have g2 : (v.k == 2) = true := by simp; omega
    have g6 : (v.k == 6) = false := by simp; omega
    have g4 : (v.k == 4) = false := by simp; omega
    have g7 : (v.k == 7) = false := by simp; omega
    have g8 : (v.k == 8) = false := by simp; omega
    clear hv
    go_enter Tryz.func60, Tryz.ntmps60
    go_upto_region 2 with (refine wpList_store_new rfl rfl rfl rfl (by kernel_rfl) rfl (by kernel_rfl) ?_; go_simp)
    generalize hg : ((w.alloc _).alloc _).alloc _ = W0
    have s1 : InBare w v (keepL [] v) W0 := by rw [← hg]; exact s0
    clear hg s0
    obtain ⟨c0, c1, c2, c3, c4, c5, c6, -⟩ := box_all s1.o
    obtain ⟨b0, b1, b2, b3, b4, b5, b6, b7⟩ := box_all s1.b
    go_upto_region 17 with fail
    have s2 := s1.set 1 (.string v.name) (keepL [110] v) (fun cs h => by cases h; rfl)
    have s9 := s2
    clear c0 c1 c2 c3 c4 c5 c6 b0 b1 b2 b3 b4 b5 b6 b7
    go_wp2_with (first | (refine wpList_load_row s9.b rfl rfl rfl (by kernel_rfl) (by kernel_rfl) ?_; go_simp) | (refine wpList_store_row s9.r rfl rfl rfl rfl (by kernel_rfl) rfl (by kernel_rfl) ?_; go_simp))
    obtain ⟨f1, f2⟩ := s9.done _ rfl
    exact bodyPost_ret (results_row2 (i := 2) (j := 3) (t := 27) rfl rfl rfl (by kernel_rfl) (by kernel_rfl) f1) rfl ⟨by rw [HF.out]; rfl, f2⟩
  · clear hk
    have HF : Hid (fieldsOf v.k = [110, 97]) := Lib.hid (by rw [hv]; rfl)
    have g1 : (v.k == 1) = false := by simp; omega
    have g3 : (v.k == 3) = true := by simp; omega
    have g5 : (v.k == 5) = false := by simp; omega
    have g2 : (v.k == 2) = false := by simp; omega
    have g6 : (v.k == 6) = false := by simp; omega
    have g4 : (v.k == 4) = false := by simp; omega
    have g7 : (v.k == 7) = false := by simp; omega
    have g8 : (v.k == 8) = false := by simp; omega
    clear hv
    go_enter Tryz.func60, Tryz.ntmps60
    go_upto_region 2 with (refine wpList_store_new rfl rfl rfl rfl (by kernel_rfl) rfl (by kernel_rfl) ?_; go_simp)
    generalize hg : ((w.alloc _).alloc _).alloc _ = W0
    have s1 : InBare w v (keepL [] v) W0 := by rw [← hg]; exact s0
    clear hg s0
    obtain ⟨c0, c1, c2, c3, c4, c5, c6, -⟩ := box_all s1.o
    obtain ⟨b0, b1, b2, b3, b4, b5, b6, b7⟩ := box_all s1.b
    go_upto_region 7 with fail
    have d0 : InBare w v (keepL [] v) W0.drew := ⟨s1.o, s1.r, s1.b, s1.bel.drew⟩
    refine wp_region_held (S := fun W => W.heap[w.heap.size]? = some v.box) hmo ?_
    change wpAnyH _ _ _ _ _ _ _ _ (World.drew _)
    refine wpAnyH_take (i := 0) (v := .pointer (some ⟨w.heap.size, 1, none⟩)) rfl (by kernel_rfl) (by kernel_rfl) (by kernel_rfl) (fun _ _ _ h => h) (Or.inl ⟨by kernel_rfl, by intro _ _; kernel_rfl⟩) d0.o ?_
    go_simp
    refine wpAnyH_take (i := 1) (v := .string v.name) rfl (by kernel_rfl) (by kernel_rfl) (by kernel_rfl) (fun _ _ _ h => h) (Or.inl ⟨by kernel_rfl, by rintro w h; obtain ⟨c0, c1, c2, c3, c4, c5, c6, -⟩ := box_all h; go_simp⟩) d0.o ?_
    go_simp
    refine wpAnyH_take (i := 2) (v := .pointer (some ⟨w.heap.size, 3, none⟩)) rfl (by kernel_rfl) (by kernel_rfl) (by kernel_rfl) (fun _ _ _ h => h) (Or.inl ⟨by kernel_rfl, by intro _ _; kernel_rfl⟩) d0.o ?_
    go_simp
    refine wpAnyH_take (i := 3) (v := .slice v.ao v.an v.ac) rfl (by kernel_rfl) (by kernel_rfl) (by kernel_rfl) (fun _ _ _ h => h) (Or.inl ⟨by kernel_rfl, by rintro w h; obtain ⟨c0, c1, c2, c3, c4, c5, c6, -⟩ := box_all h; go_simp⟩) d0.o ?_
    go_simp
    refine wpAnyH_take (i := 4) (v := .pointer (some ⟨w.heap.size + 1 + 1, 1, none⟩)) rfl (by kernel_rfl) (by kernel_rfl) (by kernel_rfl) (fun _ _ _ h => h) (Or.inl ⟨by kernel_rfl, by intro _ _; kernel_rfl⟩) d0.o ?_
    go_simp
    refine wpAnyH_all (rs := [5]) (by kernel_rfl) (by simp) (fun j hj => ?_)
    rw [List.mem_singleton] at hj
    subst hj
    refine wpOp_step rfl (fun K hK => ?_)
    go_simp
    have d1 := d0.set 1 (.string v.name) (keepL [110] v) (fun cs h => by cases h; rfl)
    refine hK _ _ ⟨d1.o, ?_⟩
    clear hK K
    refine wpAnyH_take (i := 6) (v := .pointer (some ⟨w.heap.size + 1 + 1, 3, none⟩)) rfl (by kernel_rfl) (by kernel_rfl) (by kernel_rfl) (fun _ _ _ h => h) (Or.inl ⟨by kernel_rfl, by intro _ _; kernel_rfl⟩) d1.o ?_
    go_simp
    refine wpAnyH_all (rs := [7]) (by kernel_rfl) (by simp) (fun j hj => ?_)
    rw [List.mem_singleton] at hj
    subst hj
    refine wpOp_step rfl (fun K hK => ?_)
    go_simp
    have d2 := d1.set 3 (.slice v.ao v.an v.ac) (keepL [110, 97] v) (fun cs h => by cases h; rfl)
    refine hK _ _ ⟨d2.o, ?_⟩
    clear hK K
    refine wpAnyH_done (by kernel_rfl) ?_ _
    have s9 := d2
    clear c0 c1 c2 c3 c4 c5 c6 b0 b1 b2 b3 b4 b5 b6 b7
    go_wp2_with (first | (refine wpList_load_row s9.b rfl rfl rfl (by kernel_rfl) (by kernel_rfl) ?_; go_simp) | (refine wpList_store_row s9.r rfl rfl rfl rfl (by kernel_rfl) rfl (by kernel_rfl) ?_; go_simp))
    obtain ⟨f1, f2⟩ := s9.done _ rfl
    exact bodyPost_ret (results_row2 (i := 2) (j := 3) (t := 27) rfl rfl rfl (by kernel_rfl) (by kernel_rfl) f1) rfl ⟨by rw [HF.out]; rfl, f2⟩
  · clear hk
    have HF : Hid (fieldsOf v.k = [110, 116]) := Lib.hid (by rw [hv]; rfl)
    have g1 : (v.k == 1) = false := by simp; omega
    have g3 : (v.k == 3) = false := by simp; omega
    have g5 : (v.k == 5) = false := by simp; omega
    have g2 : (v.k == 2) = false := by simp; omega
    have g6 : (v.k == 6) = false := by simp; omega
    have g4 : (v.k == 4) = true := by simp; omega
    have g7 : (v.k == 7) = false := by simp; omega
    have g8 : (v.k == 8) = false := by simp; omega
    clear hv
    go_enter Tryz.func60, Tryz.ntmps60
    go_upto_region 2 with (refine wpList_store_new rfl rfl rfl rfl (by kernel_rfl) rfl (by kernel_rfl) ?_; go_simp)
    generalize hg : ((w.alloc _).alloc _).alloc _ = W0
    have s1 : InBare w v (keepL [] v) W0 := by rw [← hg]; exact s0
    clear hg s0
    obtain ⟨c0, c1, c2, c3, c4, c5, c6, -⟩ := box_all s1.o
    obtain ⟨b0, b1, b2, b3, b4, b5, b6, b7⟩ := box_all s1.b
    go_upto_region 12 with fail
    have d0 : InBare w v (keepL [] v) W0.drew := ⟨s1.o, s1.r, s1.b, s1.bel.drew⟩
    refine wp_region_held (S := fun W => W.heap[w.heap.size]? = some v.box) hmo ?_
    change wpAnyH _ _ _ _ _ _ _ _ (World.drew _)
    refine wpAnyH_take (i := 0) (v := .pointer (some ⟨w.heap.size, 1, none⟩)) rfl (by kernel_rfl) (by kernel_rfl) (by kernel_rfl) (fun _ _ _ h => h) (Or.inl ⟨by kernel_rfl, by intro _ _; kernel_rfl⟩) d0.o ?_
    go_simp
    refine wpAnyH_take (i := 1) (v := .string v.name) rfl (by kernel_rfl) (by kernel_rfl) (by kernel_rfl) (fun _ _ _ h => h) (Or.inl ⟨by kernel_rfl, by rintro w h; obtain ⟨c0, c1, c2, c3, c4, c5, c6, -⟩ := box_all h; go_simp⟩) d0.o ?_
    go_simp
    refine wpAnyH_take (i := 2) (v := .pointer (some ⟨w.heap.size, 2, none⟩)) rfl (by kernel_rfl) (by kernel_rfl) (by kernel_rfl) (fun _ _ _ h => h) (Or.inl ⟨by kernel_rfl, by intro _ _; kernel_rfl⟩) d0.o ?_
    go_simp
    refine wpAnyH_take (i := 3) (v := .string v.to) rfl (by kernel_rfl) (by kernel_rfl) (by kernel_rfl) (fun _ _ _ h => h) (Or.inl ⟨by kernel_rfl, by rintro w h; obtain ⟨c0, c1, c2, c3, c4, c5, c6, -⟩ := box_all h; go_simp⟩) d0.o ?_
    go_simp
    refine wpAnyH_take (i := 4) (v := .pointer (some ⟨w.heap.size + 1 + 1, 1, none⟩)) rfl (by kernel_rfl) (by kernel_rfl) (by kernel_rfl) (fun _ _ _ h => h) (Or.inl ⟨by kernel_rfl, by intro _ _; kernel_rfl⟩) d0.o ?_
    go_simp
    refine wpAnyH_all (rs := [5]) (by kernel_rfl) (by simp) (fun j hj => ?_)
    rw [List.mem_singleton] at hj
    subst hj
    refine wpOp_step rfl (fun K hK => ?_)
    go_simp
    have d1 := d0.set 1 (.string v.name) (keepL [110] v) (fun cs h => by cases h; rfl)
    refine hK _ _ ⟨d1.o, ?_⟩
    clear hK K
    refine wpAnyH_take (i := 6) (v := .pointer (some ⟨w.heap.size + 1 + 1, 2, none⟩)) rfl (by kernel_rfl) (by kernel_rfl) (by kernel_rfl) (fun _ _ _ h => h) (Or.inl ⟨by kernel_rfl, by intro _ _; kernel_rfl⟩) d1.o ?_
    go_simp
    refine wpAnyH_all (rs := [7]) (by kernel_rfl) (by simp) (fun j hj => ?_)
    rw [List.mem_singleton] at hj
    subst hj
    refine wpOp_step rfl (fun K hK => ?_)
    go_simp
    have d2 := d1.set 2 (.string v.to) (keepL [110, 116] v) (fun cs h => by cases h; rfl)
    refine hK _ _ ⟨d2.o, ?_⟩
    clear hK K
    refine wpAnyH_done (by kernel_rfl) ?_ _
    have s9 := d2
    clear c0 c1 c2 c3 c4 c5 c6 b0 b1 b2 b3 b4 b5 b6 b7
    go_wp2_with (first | (refine wpList_load_row s9.b rfl rfl rfl (by kernel_rfl) (by kernel_rfl) ?_; go_simp) | (refine wpList_store_row s9.r rfl rfl rfl rfl (by kernel_rfl) rfl (by kernel_rfl) ?_; go_simp))
    obtain ⟨f1, f2⟩ := s9.done _ rfl
    exact bodyPost_ret (results_row2 (i := 2) (j := 3) (t := 27) rfl rfl rfl (by kernel_rfl) (by kernel_rfl) f1) rfl ⟨by rw [HF.out]; rfl, f2⟩
  · clear hk
    have HF : Hid (fieldsOf v.k = [110, 97]) := Lib.hid (by rw [hv]; rfl)
    have g1 : (v.k == 1) = false := by simp; omega
    have g3 : (v.k == 3) = false := by simp; omega
    have g5 : (v.k == 5) = true := by simp; omega
    have g2 : (v.k == 2) = false := by simp; omega
    have g6 : (v.k == 6) = false := by simp; omega
    have g4 : (v.k == 4) = false := by simp; omega
    have g7 : (v.k == 7) = false := by simp; omega
    have g8 : (v.k == 8) = false := by simp; omega
    clear hv
    go_enter Tryz.func60, Tryz.ntmps60
    go_upto_region 2 with (refine wpList_store_new rfl rfl rfl rfl (by kernel_rfl) rfl (by kernel_rfl) ?_; go_simp)
    generalize hg : ((w.alloc _).alloc _).alloc _ = W0
    have s1 : InBare w v (keepL [] v) W0 := by rw [← hg]; exact s0
    clear hg s0
    obtain ⟨c0, c1, c2, c3, c4, c5, c6, -⟩ := box_all s1.o
    obtain ⟨b0, b1, b2, b3, b4, b5, b6, b7⟩ := box_all s1.b
    go_upto_region 7 with fail
    have d0 : InBare w v (keepL [] v) W0.drew := ⟨s1.o, s1.r, s1.b, s1.bel.drew⟩
    refine wp_region_held (S := fun W => W.heap[w.heap.size]? = some v.box) hmo ?_
    change wpAnyH _ _ _ _ _ _ _ _ (World.drew _)
    refine wpAnyH_take (i := 0) (v := .pointer (some ⟨w.heap.size, 1, none⟩)) rfl (by kernel_rfl) (by kernel_rfl) (by kernel_rfl) (fun _ _ _ h => h) (Or.inl ⟨by kernel_rfl, by intro _ _; kernel_rfl⟩) d0.o ?_
    go_simp
    refine wpAnyH_take (i := 1) (v := .string v.name) rfl (by kernel_rfl) (by kernel_rfl) (by kernel_rfl) (fun _ _ _ h => h) (Or.inl ⟨by kernel_rfl, by rintro w h; obtain ⟨c0, c1, c2, c3, c4, c5, c6, -⟩ := box_all h; go_simp⟩) d0.o ?_
    go_simp
    refine wpAnyH_take (i := 2) (v := .pointer (some ⟨w.heap.size, 3, none⟩)) rfl (by kernel_rfl) (by kernel_rfl) (by kernel_rfl) (fun _ _ _ h => h) (Or.inl ⟨by kernel_rfl, by intro _ _; kernel_rfl⟩) d0.o ?_
    go_simp
    refine wpAnyH_take (i := 3) (v := .slice v.ao v.an v.ac) rfl (by kernel_rfl) (by kernel_rfl) (by kernel_rfl) (fun _ _ _ h => h) (Or.inl ⟨by kernel_rfl, by rintro w h; obtain ⟨c0, c1, c2, c3, c4, c5, c6, -⟩ := box_all h; go_simp⟩) d0.o ?_
    go_simp
    refine wpAnyH_take (i := 4) (v := .pointer (some ⟨w.heap.size + 1 + 1, 1, none⟩)) rfl (by kernel_rfl) (by kernel_rfl) (by kernel_rfl) (fun _ _ _ h => h) (Or.inl ⟨by kernel_rfl, by intro _ _; kernel_rfl⟩) d0.o ?_
    go_simp
    refine wpAnyH_all (rs := [5]) (by kernel_rfl) (by simp) (fun j hj => ?_)
    rw [List.mem_singleton] at hj
    subst hj
    refine wpOp_step rfl (fun K hK => ?_)
    go_simp
    have d1 := d0.set 1 (.string v.name) (keepL [110] v) (fun cs h => by cases h; rfl)
    refine hK _ _ ⟨d1.o, ?_⟩
    clear hK K
    refine wpAnyH_take (i := 6) (v := .pointer (some ⟨w.heap.size + 1 + 1, 3, none⟩)) rfl (by kernel_rfl) (by kernel_rfl) (by kernel_rfl) (fun _ _ _ h => h) (Or.inl ⟨by kernel_rfl, by intro _ _; kernel_rfl⟩) d1.o ?_
    go_simp
    refine wpAnyH_all (rs := [7]) (by kernel_rfl) (by simp) (fun j hj => ?_)
    rw [List.mem_singleton] at hj
    subst hj
    refine wpOp_step rfl (fun K hK => ?_)
    go_simp
    have d2 := d1.set 3 (.slice v.ao v.an v.ac) (keepL [110, 97] v) (fun cs h => by cases h; rfl)
    refine hK _ _ ⟨d2.o, ?_⟩
    clear hK K
    refine wpAnyH_done (by kernel_rfl) ?_ _
    have s9 := d2
    clear c0 c1 c2 c3 c4 c5 c6 b0 b1 b2 b3 b4 b5 b6 b7
    go_wp2_with (first | (refine wpList_load_row s9.b rfl rfl rfl (by kernel_rfl) (by kernel_rfl) ?_; go_simp) | (refine wpList_store_row s9.r rfl rfl rfl rfl (by kernel_rfl) rfl (by kernel_rfl) ?_; go_simp))
    obtain ⟨f1, f2⟩ := s9.done _ rfl
    exact bodyPost_ret (results_row2 (i := 2) (j := 3) (t := 27) rfl rfl rfl (by kernel_rfl) (by kernel_rfl) f1) rfl ⟨by rw [HF.out]; rfl, f2⟩
  · clear hk
    have HF : Hid (fieldsOf v.k = [110]) := Lib.hid (by rw [hv]; rfl)
    have g1 : (v.k == 1) = false := by simp; omega
    have g3 : (v.k == 3) = false := by simp; omega
    have g5 : (v.k == 5) = false := by simp; omega
    have g2 : (v.k == 2) = false := by simp; omega
    have g6 : (v.k == 6) = true := by simp; omega
    have g4 : (v.k == 4) = false := by simp; omega
    have g7 : (v.k == 7) = false := by simp; omega
    have g8 : (v.k == 8) = false := by simp; omega
    clear hv
    go_enter Tryz.func60, Tryz.ntmps60
    go_upto_region 2 with (refine wpList_store_new rfl rfl rfl rfl (by kernel_rfl) rfl (by kernel_rfl) ?_; go_simp)
    generalize hg : ((w.alloc _).alloc _).alloc _ = W0
    have s1 : InBare w v (keepL [] v) W0 := by rw [← hg]; exact s0
    clear hg s0
    obtain ⟨c0, c1, c2, c3, c4, c5, c6, -⟩ := box_all s1.o
    obtain ⟨b0, b1, b2, b3, b4, b5, b6, b7⟩ := box_all s1.b
    go_upto_region 17 with fail
    have s2 := s1.set 1 (.string v.name) (keepL [110] v) (fun cs h => by cases h; rfl)
    have s9 := s2
    clear c0 c1 c2 c3 c4 c5 c6 b0 b1 b2 b3 b4 b5 b6 b7
    go_wp2_with (first | (refine wpList_load_row s9.b rfl rfl rfl (by kernel_rfl) (by kernel_rfl) ?_; go_simp) | (refine wpList_store_row s9.r rfl rfl rfl rfl (by kernel_rfl) rfl (by kernel_rfl) ?_; go_simp))
    obtain ⟨f1, f2⟩ := s9.done _ rfl
    exact bodyPost_ret (results_row2 (i := 2) (j := 3) (t := 27) rfl rfl rfl (by kernel_rfl) (by kernel_rfl) f1) rfl ⟨by rw [HF.out]; rfl, f2⟩
  · clear hk
    have HF : Hid (fieldsOf v.k = [112, 99, 107]) := Lib.hid (by rw [hv]; rfl)
    have g1 : (v.k == 1) = false := by simp; omega
    have g3 : (v.k == 3) = false := by simp; omega
    have g5 : (v.k == 5) = false := by simp; omega
    have g2 : (v.k == 2) = false := by simp; omega
    have g6 : (v.k == 6) = false := by simp; omega
    have g4 : (v.k == 4) = false := by simp; omega
    have g7 : (v.k == 7) = true := by simp; omega
    have g8 : (v.k == 8) = false := by simp; omega
    clear hv
    go_enter Tryz.func60, Tryz.ntmps60
    go_upto_region 2 with (refine wpList_store_new rfl rfl rfl rfl (by kernel_rfl) rfl (by kernel_rfl) ?_; go_simp)
    generalize hg : ((w.alloc _).alloc _).alloc _ = W0
    have s1 : InBare w v (keepL [] v) W0 := by rw [← hg]; exact s0
    clear hg s0
    obtain ⟨c0, c1, c2, c3, c4, c5, c6, -⟩ := box_all s1.o
    obtain ⟨b0, b1, b2, b3, b4, b5, b6, b7⟩ := box_all s1.b
    go_upto_region 14 with fail
    have d0 : InBare w v (keepL [] v) W0.drew := ⟨s1.o, s1.r, s1.b, s1.bel.drew⟩
    refine wp_region_held (S := fun W => W.heap[w.heap.size]? = some v.box) hmo ?_
    change wpAnyH _ _ _ _ _ _ _ _ (World.drew _)
    refine wpAnyH_take (i := 0) (v := .pointer (some ⟨w.heap.size, 4, none⟩)) rfl (by kernel_rfl) (by kernel_rfl) (by kernel_rfl) (fun _ _ _ h => h) (Or.inl ⟨by kernel_rfl, by intro _ _; kernel_rfl⟩) d0.o ?_
    go_simp
    refine wpAnyH_take (i := 1) (v := .slice v.bo v.bn v.bc) rfl (by kernel_rfl) (by kernel_rfl) (by kernel_rfl) (fun _ _ _ h => h) (Or.inl ⟨by kernel_rfl, by rintro w h; obtain ⟨c0, c1, c2, c3, c4, c5, c6, -⟩ := box_all h; go_simp⟩) d0.o ?_
    go_simp
    refine wpAnyH_take (i := 2) (v := .pointer (some ⟨w.heap.size, 5, none⟩)) rfl (by kernel_rfl) (by kernel_rfl) (by kernel_rfl) (fun _ _ _ h => h) (Or.inl ⟨by kernel_rfl, by intro _ _; kernel_rfl⟩) d0.o ?_
    go_simp
    refine wpAnyH_take (i := 3) (v := .slice v.co v.cn v.cc) rfl (by kernel_rfl) (by kernel_rfl) (by kernel_rfl) (fun _ _ _ h => h) (Or.inl ⟨by kernel_rfl, by rintro w h; obtain ⟨c0, c1, c2, c3, c4, c5, c6, -⟩ := box_all h; go_simp⟩) d0.o ?_
    go_simp
    refine wpAnyH_take (i := 4) (v := .pointer (some ⟨w.heap.size, 6, none⟩)) rfl (by kernel_rfl) (by kernel_rfl) (by kernel_rfl) (fun _ _ _ h => h) (Or.inl ⟨by kernel_rfl, by intro _ _; kernel_rfl⟩) d0.o ?_
    go_simp
    refine wpAnyH_take (i := 5) (v := .int .i64 v.n) rfl (by kernel_rfl) (by kernel_rfl) (by kernel_rfl) (fun _ _ _ h => h) (Or.inl ⟨by kernel_rfl, by rintro w h; obtain ⟨c0, c1, c2, c3, c4, c5, c6, -⟩ := box_all h; go_simp⟩) d0.o ?_
    go_simp
    refine wpAnyH_take (i := 6) (v := .pointer (some ⟨w.heap.size + 1 + 1, 4, none⟩)) rfl (by kernel_rfl) (by kernel_rfl) (by kernel_rfl) (fun _ _ _ h => h) (Or.inl ⟨by kernel_rfl, by intro _ _; kernel_rfl⟩) d0.o ?_
    go_simp
    refine wpAnyH_all (rs := [7]) (by kernel_rfl) (by simp) (fun j hj => ?_)
    rw [List.mem_singleton] at hj
    subst hj
    refine wpOp_step rfl (fun K hK => ?_)
    go_simp
    have d1 := d0.set 4 (.slice v.bo v.bn v.bc) (keepL [112] v) (fun cs h => by cases h; rfl)
    refine hK _ _ ⟨d1.o, ?_⟩
    clear hK K
    refine wpAnyH_take (i := 8) (v := .pointer (some ⟨w.heap.size + 1 + 1, 5, none⟩)) rfl (by kernel_rfl) (by kernel_rfl) (by kernel_rfl) (fun _ _ _ h => h) (Or.inl ⟨by kernel_rfl, by intro _ _; kernel_rfl⟩) d1.o ?_
    go_simp
    refine wpAnyH_all (rs := [9]) (by kernel_rfl) (by simp) (fun j hj => ?_)
    rw [List.mem_singleton] at hj
    subst hj
    refine wpOp_step rfl (fun K hK => ?_)
    go_simp
    have d2 := d1.set 5 (.slice v.co v.cn v.cc) (keepL [112, 99] v) (fun cs h => by cases h; rfl)
    refine hK _ _ ⟨d2.o, ?_⟩
    clear hK K
    refine wpAnyH_take (i := 10) (v := .pointer (some ⟨w.heap.size + 1 + 1, 6, none⟩)) rfl (by kernel_rfl) (by kernel_rfl) (by kernel_rfl) (fun _ _ _ h => h) (Or.inl ⟨by kernel_rfl, by intro _ _; kernel_rfl⟩) d2.o ?_
    go_simp
    refine wpAnyH_all (rs := [11]) (by kernel_rfl) (by simp) (fun j hj => ?_)
    rw [List.mem_singleton] at hj
    subst hj
    refine wpOp_step rfl (fun K hK => ?_)
    go_simp
    have d3 := d2.set 6 (.int .i64 v.n) (keepL [112, 99, 107] v) (fun cs h => by cases h; rfl)
    refine hK _ _ ⟨d3.o, ?_⟩
    clear hK K
    refine wpAnyH_done (by kernel_rfl) ?_ _
    have s9 := d3
    clear c0 c1 c2 c3 c4 c5 c6 b0 b1 b2 b3 b4 b5 b6 b7
    go_wp2_with (first | (refine wpList_load_row s9.b rfl rfl rfl (by kernel_rfl) (by kernel_rfl) ?_; go_simp) | (refine wpList_store_row s9.r rfl rfl rfl rfl (by kernel_rfl) rfl (by kernel_rfl) ?_; go_simp))
    obtain ⟨f1, f2⟩ := s9.done _ rfl
    exact bodyPost_ret (results_row2 (i := 2) (j := 3) (t := 27) rfl rfl rfl (by kernel_rfl) (by kernel_rfl) f1) rfl ⟨by rw [HF.out]; rfl, f2⟩
  · clear hk
    have HF : Hid (fieldsOf v.k = [99, 107]) := Lib.hid (by rw [hv]; rfl)
    have g1 : (v.k == 1) = false := by simp; omega
    have g3 : (v.k == 3) = false := by simp; omega
    have g5 : (v.k == 5) = false := by simp; omega
    have g2 : (v.k == 2) = false := by simp; omega
    have g6 : (v.k == 6) = false := by simp; omega
    have g4 : (v.k == 4) = false := by simp; omega
    have g7 : (v.k == 7) = false := by simp; omega
    have g8 : (v.k == 8) = true := by simp; omega
    clear hv
    go_enter Tryz.func60, Tryz.ntmps60
    go_upto_region 2 with (refine wpList_store_new rfl rfl rfl rfl (by kernel_rfl) rfl (by kernel_rfl) ?_; go_simp)
    generalize hg : ((w.alloc _).alloc _).alloc _ = W0
    have s1 : InBare w v (keepL [] v) W0 := by rw [← hg]; exact s0
    clear hg s0
    obtain ⟨c0, c1, c2, c3, c4, c5, c6, -⟩ := box_all s1.o
    obtain ⟨b0, b1, b2, b3, b4, b5, b6, b7⟩ := box_all s1.b
    go_upto_region 16 with fail
    have d0 : InBare w v (keepL [] v) W0.drew := ⟨s1.o, s1.r, s1.b, s1.bel.drew⟩
    refine wp_region_held (S := fun W => W.heap[w.heap.size]? = some v.box) hmo ?_
    change wpAnyH _ _ _ _ _ _ _ _ (World.drew _)
    refine wpAnyH_take (i := 0) (v := .pointer (some ⟨w.heap.size, 5, none⟩)) rfl (by kernel_rfl) (by kernel_rfl) (by kernel_rfl) (fun _ _ _ h => h) (Or.inl ⟨by kernel_rfl, by intro _ _; kernel_rfl⟩) d0.o ?_
    go_simp
    refine wpAnyH_take (i := 1) (v := .slice v.co v.cn v.cc) rfl (by kernel_rfl) (by kernel_rfl) (by kernel_rfl) (fun _ _ _ h => h) (Or.inl ⟨by kernel_rfl, by rintro w h; obtain ⟨c0, c1, c2, c3, c4, c5, c6, -⟩ := box_all h; go_simp⟩) d0.o ?_
    go_simp
    refine wpAnyH_take (i := 2) (v := .pointer (some ⟨w.heap.size, 6, none⟩)) rfl (by kernel_rfl) (by kernel_rfl) (by kernel_rfl) (fun _ _ _ h => h) (Or.inl ⟨by kernel_rfl, by intro _ _; kernel_rfl⟩) d0.o ?_
    go_simp
    refine wpAnyH_take (i := 3) (v := .int .i64 v.n) rfl (by kernel_rfl) (by kernel_rfl) (by kernel_rfl) (fun _ _ _ h => h) (Or.inl ⟨by kernel_rfl, by rintro w h; obtain ⟨c0, c1, c2, c3, c4, c5, c6, -⟩ := box_all h; go_simp⟩) d0.o ?_
    go_simp
    refine wpAnyH_take (i := 4) (v := .pointer (some ⟨w.heap.size + 1 + 1, 5, none⟩)) rfl (by kernel_rfl) (by kernel_rfl) (by kernel_rfl) (fun _ _ _ h => h) (Or.inl ⟨by kernel_rfl, by intro _ _; kernel_rfl⟩) d0.o ?_
    go_simp
    refine wpAnyH_all (rs := [5]) (by kernel_rfl) (by simp) (fun j hj => ?_)
    rw [List.mem_singleton] at hj
    subst hj
    refine wpOp_step rfl (fun K hK => ?_)
    go_simp
    have d1 := d0.set 5 (.slice v.co v.cn v.cc) (keepL [99] v) (fun cs h => by cases h; rfl)
    refine hK _ _ ⟨d1.o, ?_⟩
    clear hK K
    refine wpAnyH_take (i := 6) (v := .pointer (some ⟨w.heap.size + 1 + 1, 6, none⟩)) rfl (by kernel_rfl) (by kernel_rfl) (by kernel_rfl) (fun _ _ _ h => h) (Or.inl ⟨by kernel_rfl, by intro _ _; kernel_rfl⟩) d1.o ?_
    go_simp
    refine wpAnyH_all (rs := [7]) (by kernel_rfl) (by simp) (fun j hj => ?_)
    rw [List.mem_singleton] at hj
    subst hj
    refine wpOp_step rfl (fun K hK => ?_)
    go_simp
    have d2 := d1.set 6 (.int .i64 v.n) (keepL [99, 107] v) (fun cs h => by cases h; rfl)
    refine hK _ _ ⟨d2.o, ?_⟩
    clear hK K
    refine wpAnyH_done (by kernel_rfl) ?_ _
    have s9 := d2
    clear c0 c1 c2 c3 c4 c5 c6 b0 b1 b2 b3 b4 b5 b6 b7
    go_wp2_with (first | (refine wpList_load_row s9.b rfl rfl rfl (by kernel_rfl) (by kernel_rfl) ?_; go_simp) | (refine wpList_store_row s9.r rfl rfl rfl rfl (by kernel_rfl) rfl (by kernel_rfl) ?_; go_simp))
    obtain ⟨f1, f2⟩ := s9.done _ rfl
    exact bodyPost_ret (results_row2 (i := 2) (j := 3) (t := 27) rfl rfl rfl (by kernel_rfl) (by kernel_rfl) f1) rfl ⟨by rw [HF.out]; rfl, f2⟩
end Go.Proofs.YtgeafnggodkpaaaGreat.Msg
