/-
  Append to a log that is full.
-/
import Derived.Test.YtienfppidmjfpaaLs
namespace Go.Proofs.Ytienfppidmjfpaa.Msg
open Go.RowKit Go.Lib Go.Proofs.Ytienfppidmjfpaa.Mem Go.Proofs.Ytienfppidmjfpaa.Tlv

set_option maxRecDepth 100000 in
set_option maxHeartbeats 20000000 in
theorem append_full (B g : Nat) (base : Int) (l s : Value) (rs : List RV) (zs : List Int) (r : RV) (c : OC) (bl : List UInt8) (w : World) (hL : LogW B g base l s rs zs w) (ho : OpAt w r.op c) (h : OpC r.op c true bl)
    (hn : 4096 ≤ rs.length) :
    Calls Try.prog 7 #[.pointer (some ⟨g, 0, none⟩), r.val] w fun e w' => e = .returned (.tuple #[.int .u64 0, .int .i64 10]) ∧ Below w.heap.size w w' := by
  have hmo : Try.prog.follows .mixedOrders = true := by kernel_rfl
  unfold RV.val RV.cells
  go_enter Try.func7, Try.ntmps7
  go_wp2_with fail
  generalize hg : w.alloc _ = W0
  have e : w.alloc r.box = W0 := by simp only [RV.box, RV.cells]; exact hg
  have hbel : Below w.heap.size w W0 := by rw [← e]; exact (Below.refl _ _).alloc (Nat.le_refl _) _
  have k1 : W0.heap[w.heap.size]? = some r.box := by rw [← e]; show (w.heap.push _)[w.heap.size]? = some _; exact Array.getElem?_push_size
  clear hg e
  have hL0 := hL.later hbel
  have ho0 := ho.later hbel
  obtain ⟨lo, lc, so, sc, e1, e2, hR0⟩ := hL0.rd
  refine (is_any true g base _ lo lc so sc rs zs W0 hR0).mono ?_
  rintro e w1 ⟨rfl, rfl⟩
  obtain ⟨c0, c1, c2, c3, c4, c5, c6, c7, c8, -⟩ := rbox_all k1
  have hmay := mayReq_any r c true bl w1 ho0 h
  unfold RV.val RV.cells at hmay
  go_wp2_with fail
  refine hmay.mono ?_
  rintro e w2 ⟨rfl, hbm⟩
  have hL2 := hL0.later hbm
  have k2 := (hbm.block _ (Array.getElem?_eq_some_iff.1 k1).1).trans k1
  have hbel2 := hbel.trans (hbm.mono hbel.size)
  subst e1 e2
  clear c0 c1 c2 c3 c4 c5 c6 c7 c8
  have s0 : InApp w g base (.slice lo rs.length lc) (.slice so rs.length sc) r w2.drew := ⟨k2, hL2.at_⟩
  have f5 : decide ((4096 : Int) ≤ (rs.length : Int)) = true := decide_eq_true (by omega)
  go_wp2_with fail
  refine wp_region_held (S := InApp w g base (.slice lo rs.length lc) (.slice so rs.length sc) r) hmo ?_
  change wpAnyH _ _ _ _ _ _ _ _ (World.drew _)
  refine wpAnyH_take (i := 0) (v := .pointer (some ⟨g, 0, none⟩)) rfl (by kernel_rfl) (by kernel_rfl) (by kernel_rfl) (fun _ _ _ h => h) (Or.inl ⟨by kernel_rfl, by intro _ _; kernel_rfl⟩) s0 ?_
  go_simp
  refine wpAnyH_take (i := 1) (v := .pointer (some ⟨g, 0, none⟩)) rfl (by kernel_rfl) (by kernel_rfl) (by kernel_rfl) (fun _ _ _ h => h) (Or.inl ⟨by kernel_rfl, by intro _ _; kernel_rfl⟩) s0 ?_
  go_simp
  refine wpAnyH_take (i := 2) (v := .pointer (some ⟨g, 2, none⟩)) rfl (by kernel_rfl) (by kernel_rfl) (by kernel_rfl) (fun _ _ _ h => h) (Or.inl ⟨by kernel_rfl, by intro _ _; kernel_rfl⟩) s0 ?_
  go_simp
  refine wpAnyH_take (i := 3) (v := .slice lo rs.length lc) rfl (by kernel_rfl) (by kernel_rfl) (by kernel_rfl) (fun _ _ _ h => h) (Or.inl ⟨by kernel_rfl, by rintro w h; obtain ⟨c0, c1, c2, c3, c4, c5, c6, c7, c8, -⟩ := rbox_all h.1; obtain ⟨d2, d3⟩ := box_cells2 h; go_simp⟩) s0 ?_
  go_simp
  refine wpAnyH_take (i := 4) (v := .int .i64 (rs.length : Int)) rfl (by kernel_rfl) (by kernel_rfl) (by kernel_rfl) (fun _ _ _ h => h) (Or.inl ⟨by kernel_rfl, by rintro w h; obtain ⟨c0, c1, c2, c3, c4, c5, c6, c7, c8, -⟩ := rbox_all h.1; obtain ⟨d2, d3⟩ := box_cells2 h; go_simp⟩) s0 ?_
  go_simp
  refine wpAnyH_take (i := 5) (v := .bool true) rfl (by kernel_rfl) (by kernel_rfl) (by kernel_rfl) (fun _ _ _ h => h) (Or.inl ⟨by kernel_rfl, by rintro w h; obtain ⟨c0, c1, c2, c3, c4, c5, c6, c7, c8, -⟩ := rbox_all h.1; obtain ⟨d2, d3⟩ := box_cells2 h; go_simp⟩) s0 ?_
  go_simp
  refine wpAnyH_take (i := 6) (v := .bool true) rfl (by kernel_rfl) (by kernel_rfl) (by kernel_rfl) (fun _ _ _ h => h) (Or.inl ⟨by kernel_rfl, by intro _ _; kernel_rfl⟩) s0 ?_
  go_simp
  refine wpAnyH_take (i := 7) (v := undef) rfl (by kernel_rfl) (by kernel_rfl) (by kernel_rfl) (fun _ _ _ h => h) (Or.inr ⟨by kernel_rfl, rfl⟩) s0 ?_
  go_simp
  refine wpAnyH_take (i := 8) (v := undef) rfl (by kernel_rfl) (by kernel_rfl) (by kernel_rfl) (fun _ _ _ h => h) (Or.inr ⟨by kernel_rfl, rfl⟩) s0 ?_
  go_simp
  refine wpAnyH_take (i := 9) (v := undef) rfl (by kernel_rfl) (by kernel_rfl) (by kernel_rfl) (fun _ _ _ h => h) (Or.inr ⟨by kernel_rfl, rfl⟩) s0 ?_
  go_simp
  refine wpAnyH_take (i := 10) (v := undef) rfl (by kernel_rfl) (by kernel_rfl) (by kernel_rfl) (fun _ _ _ h => h) (Or.inr ⟨by kernel_rfl, rfl⟩) s0 ?_
  go_simp
  refine wpAnyH_take (i := 11) (v := undef) rfl (by kernel_rfl) (by kernel_rfl) (by kernel_rfl) (fun _ _ _ h => h) (Or.inr ⟨by kernel_rfl, rfl⟩) s0 ?_
  go_simp
  refine wpAnyH_take (i := 12) (v := undef) rfl (by kernel_rfl) (by kernel_rfl) (by kernel_rfl) (fun _ _ _ h => h) (Or.inr ⟨by kernel_rfl, rfl⟩) s0 ?_
  go_simp
  refine wpAnyH_take (i := 13) (v := .bool true) rfl (by kernel_rfl) (by kernel_rfl) (by kernel_rfl) (fun _ _ _ h => h) (Or.inl ⟨by kernel_rfl, by intro _ _; kernel_rfl⟩) s0 ?_
  go_simp
  refine wpAnyH_take (i := 14) (v := .bool true) rfl (by kernel_rfl) (by kernel_rfl) (by kernel_rfl) (fun _ _ _ h => h) (Or.inl ⟨by kernel_rfl, by intro _ _; kernel_rfl⟩) s0 ?_
  go_simp
  refine wpAnyH_done (by kernel_rfl) ?_ _
  go_wp2_with fail
  go_ret2
  exact ⟨rfl, hbel2.drew⟩
end Go.Proofs.Ytienfppidmjfpaa.Msg
