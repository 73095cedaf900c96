/-
  Append.
-/
import Derived.Test.YtghjgajgjhbjpaaGreatLp
import Derived.Test.YtghjgajgjhbjpaaGreatLw
namespace Go.Proofs.YtghjgajgjhbjpaaGreat.Msg
open Go.RowKit Go.Lib Go.Proofs.YtghjgajgjhbjpaaGreat.Mem Go.Proofs.YtghjgajgjhbjpaaGreat.Tlv

/-- What an Append gives. -/
def GivesA2 (B g : Nat) (base : Int) (l s : Value) (rs : List RV) (zs : List Int) (r : RV) (c : OC) (z : Int) (w : World) (e : Ending) (w' : World) : Prop :=
  ∃ (u : OV) (l' s' : Value), e = .returned (.tuple #[.int .u64 (base + rs.length + 1), .int .i64 0]) ∧ LogW B g base l' s' (rs ++ [⟨r.cl, r.nu, u⟩]) (zs ++ [z]) w' ∧ CopyOf w r.op u ∧ OpAt w' u c ∧ Below B w w' ∧ But g l s w w' ∧ (∀ k, l'.ownBlock = some k → l.ownBlock = some k ∨ w.heap.size ≤ k) ∧ (∀ k, s'.ownBlock = some k → s.ownBlock = some k ∨ w.heap.size ≤ k)

set_option maxRecDepth 100000 in
set_option maxHeartbeats 20000000 in
theorem append_ok2 (B g : Nat) (base : Int) (l s : Value) (rs : List RV) (zs : List Int) (r : RV) (c : OC) (bl : List UInt8) (w : World) (hL : LogW B g base l s rs zs w) (ho : OpAt w r.op c) (h : OpC r.op c true bl) (h1 : 0 ≤ r.cl) (h2 : 0 ≤ r.nu)
    (hn : rs.length < 4096) (hz : ∀ z ∈ zs, 0 ≤ z ∧ z ≤ 5000000) (hs : zs.sum + ((bl.length + 31 : Nat) : Int) ≤ 2097152) (hap : Apart r.op l) (hb0 : 0 ≤ base) (hb1 : base ≤ 9000000000000000000) :
    Calls Tryz.prog 37 #[.pointer (some ⟨g, 0, none⟩), r.val] w (GivesA2 B g base l s rs zs r c ((bl.length + 31 : Nat) : Int) w) := by
  have hmo : Tryz.prog.follows .mixedOrders = true := by kernel_rfl
  unfold RV.val RV.cells
  go_enter Tryz.func37, Tryz.ntmps37
  go_wp2_with fail
  generalize hg : w.alloc _ = W0
  have e : w.alloc r.box = W0 := by simp only [RV.box, RV.cells]; exact hg
  have hbel : Below w.heap.size w W0 := by rw [← e]; exact (Below.refl _ _).alloc (Nat.le_refl _) _
  have k1 : W0.heap[w.heap.size]? = some r.box := by rw [← e]; show (w.heap.push _)[w.heap.size]? = some _; exact Array.getElem?_push_size
  clear hg e
  have hL0 := hL.later hbel
  have ho0 := ho.later hbel
  obtain ⟨lo, lc, so, sc, e1, e2, hR0⟩ := hL0.rd
  have hgw : g < w.heap.size := hL.lt
  refine (is_any true g base _ lo lc so sc rs zs W0 hR0).mono ?_
  rintro e w1 ⟨rfl, rfl⟩
  obtain ⟨c0, c1, c2, c3, c4, c5, c6, c7, c8, -⟩ := rbox_all k1
  have hmay := mayReq_any r c true bl w1 ho0 h
  unfold RV.val RV.cells at hmay
  go_wp2_with fail
  refine hmay.mono ?_
  rintro e w2 ⟨rfl, hbm⟩
  have hL2 := hL0.later hbm
  have ho2 := ho0.later hbm
  have k2 := (hbm.block _ (Array.getElem?_eq_some_iff.1 k1).1).trans k1
  have hR2 := hR0.later hbm
  have hbel2 := hbel.trans (hbm.mono hbel.size)
  subst e1 e2
  clear c0 c1 c2 c3 c4 c5 c6 c7 c8
  have s0 : InApp w g base (.slice lo rs.length lc) (.slice so rs.length sc) r w2.drew := ⟨k2, hL2.at_⟩
  have hLen : Hid (zs.length = rs.length) := Lib.hid (by have := hR2.rz.1; rw [intV_len] at this; omega)
  have f5 : decide ((4096 : Int) ≤ (rs.length : Int)) = false := decide_eq_false (by omega)
  have hw0 := sum_le zs hz
  have hw1 : IntKind.wrap .i64 (zs.sum + ((bl.length + 31 : Nat) : Int)) = zs.sum + ((bl.length + 31 : Nat) : Int) := by rw [IntKind.wrap_i64]; omega
  have f6 : decide ((2097152 : Int) < zs.sum + ((bl.length + 31 : Nat) : Int)) = false := decide_eq_false (by omega)
  generalize hzb : ((bl.length + 31 : Nat) : Int) = zb at *
  go_wp2_with fail
  refine wp_region_held (S := InApp w g base (.slice lo rs.length lc) (.slice so rs.length sc) r) hmo ?_
  change wpAnyH _ _ _ _ _ _ _ _ (World.drew _)
  refine wpAnyH_take (i := 0) (v := .pointer (some ⟨g, 0, none⟩)) rfl (by kernel_rfl) (by kernel_rfl) (by kernel_rfl) (fun _ _ _ h => h) (Or.inl ⟨by kernel_rfl, by intro _ _; kernel_rfl⟩) s0 ?_
  go_simp
  refine wpAnyH_take (i := 1) (v := .pointer (some ⟨g, 0, none⟩)) rfl (by kernel_rfl) (by kernel_rfl) (by kernel_rfl) (fun _ _ _ h => h) (Or.inl ⟨by kernel_rfl, by intro _ _; kernel_rfl⟩) s0 ?_
  go_simp
  refine wpAnyH_take (i := 2) (v := .pointer (some ⟨g, 2, none⟩)) rfl (by kernel_rfl) (by kernel_rfl) (by kernel_rfl) (fun _ _ _ h => h) (Or.inl ⟨by kernel_rfl, by intro _ _; kernel_rfl⟩) s0 ?_
  go_simp
  refine wpAnyH_take (i := 3) (v := .slice lo rs.length lc) rfl (by kernel_rfl) (by kernel_rfl) (by kernel_rfl) (fun _ _ _ h => h) (Or.inl ⟨by kernel_rfl, by rintro w h; obtain ⟨c0, c1, c2, c3, c4, c5, c6, c7, c8, -⟩ := rbox_all h.1; obtain ⟨d2, d3⟩ := box_cells2 h; go_simp⟩) s0 ?_
  go_simp
  refine wpAnyH_take (i := 4) (v := .int .i64 (rs.length : Int)) rfl (by kernel_rfl) (by kernel_rfl) (by kernel_rfl) (fun _ _ _ h => h) (Or.inl ⟨by kernel_rfl, by rintro w h; obtain ⟨c0, c1, c2, c3, c4, c5, c6, c7, c8, -⟩ := rbox_all h.1; obtain ⟨d2, d3⟩ := box_cells2 h; go_simp⟩) s0 ?_
  go_simp
  refine wpAnyH_take (i := 5) (v := .bool false) rfl (by kernel_rfl) (by kernel_rfl) (by kernel_rfl) (fun _ _ _ h => h) (Or.inl ⟨by kernel_rfl, by rintro w h; obtain ⟨c0, c1, c2, c3, c4, c5, c6, c7, c8, -⟩ := rbox_all h.1; obtain ⟨d2, d3⟩ := box_cells2 h; go_simp⟩) s0 ?_
  go_simp
  refine wpAnyH_take (i := 6) (v := .bool false) rfl (by kernel_rfl) (by kernel_rfl) (by kernel_rfl) (fun _ _ _ h => h) (Or.inl ⟨by kernel_rfl, by intro _ _; kernel_rfl⟩) s0 ?_
  go_simp
  refine wpAnyH_take (i := 7) (v := .pointer (some ⟨g, 0, none⟩)) rfl (by kernel_rfl) (by kernel_rfl) (by kernel_rfl) (fun _ _ _ h => h) (Or.inl ⟨by kernel_rfl, by intro _ _; kernel_rfl⟩) s0 ?_
  go_simp
  refine wpAnyH_take (i := 9) (v := .agg #[.int .u64 r.cl, .int .u64 r.nu, .int .i64 r.op.k, .string r.op.name, .string r.op.to, .slice r.op.ao r.op.an r.op.ac, .slice r.op.bo r.op.bn r.op.bc, .slice r.op.co r.op.cn r.op.cc, .int .i64 r.op.n]) rfl (by kernel_rfl) (by kernel_rfl) (by kernel_rfl) (fun _ _ _ h => h) (Or.inl ⟨by kernel_rfl, by rintro w h; obtain ⟨c0, c1, c2, c3, c4, c5, c6, c7, c8, -⟩ := rbox_all h.1; obtain ⟨d2, d3⟩ := box_cells2 h; go_simp⟩) s0 ?_
  go_simp
  refine wpAnyH_all (rs := [8]) (by kernel_rfl) (by simp) (fun j hj => ?_)
  rw [List.mem_singleton] at hj
  subst hj
  refine wpOp_step rfl (fun K hK => ?_)
  go_simp
  refine (size_any true g base rs.length lo lc so sc rs zs w2.drew (hR2.later (Below.drew (Below.refl _ _))) (by omega) hz).mono ?_
  rintro e w3 ⟨rfl, rfl⟩
  go_simp
  refine hK _ _ ⟨s0, ?_⟩
  clear hK K
  refine wpAnyH_all (rs := [10]) (by kernel_rfl) (by simp) (fun j hj => ?_)
  rw [List.mem_singleton] at hj
  subst hj
  refine wpOp_step rfl (fun K hK => ?_)
  go_simp
  have hby := bytes_any r c bl w2.drew (ho2.later (Below.drew (Below.refl _ _))) h h1 h2
  rw [hzb] at hby
  unfold RV.val RV.cells at hby
  refine hby.mono ?_
  rintro e w3 ⟨rfl, hb3⟩
  have s3 := s0.step hb3
  go_simp
  refine hK _ _ ⟨s3, ?_⟩
  clear hK K
  refine wpAnyH_take (i := 11) (v := .int .i64 (zs.sum + zb)) rfl (by kernel_rfl) (by kernel_rfl) (by kernel_rfl) (fun _ _ _ h => h) (Or.inl ⟨by kernel_rfl, by rintro w h; obtain ⟨c0, c1, c2, c3, c4, c5, c6, c7, c8, -⟩ := rbox_all h.1; obtain ⟨d2, d3⟩ := box_cells2 h; go_simp⟩) s3 ?_
  go_simp
  refine wpAnyH_take (i := 12) (v := .bool false) rfl (by kernel_rfl) (by kernel_rfl) (by kernel_rfl) (fun _ _ _ h => h) (Or.inl ⟨by kernel_rfl, by rintro w h; obtain ⟨c0, c1, c2, c3, c4, c5, c6, c7, c8, -⟩ := rbox_all h.1; obtain ⟨d2, d3⟩ := box_cells2 h; go_simp⟩) s3 ?_
  go_simp
  refine wpAnyH_take (i := 13) (v := .bool false) rfl (by kernel_rfl) (by kernel_rfl) (by kernel_rfl) (fun _ _ _ h => h) (Or.inl ⟨by kernel_rfl, by intro _ _; kernel_rfl⟩) s3 ?_
  go_simp
  refine wpAnyH_take (i := 14) (v := .bool false) rfl (by kernel_rfl) (by kernel_rfl) (by kernel_rfl) (fun _ _ _ h => h) (Or.inl ⟨by kernel_rfl, by intro _ _; kernel_rfl⟩) s3 ?_
  go_simp
  refine wpAnyH_done (by kernel_rfl) ?_ _
  have hL3 := (hL2.later ((Below.refl _ _).drew)).later hb3
  have ho3 := (ho2.later ((Below.refl _ _).drew)).later hb3
  have hb3' : Below w.heap.size w w3 := (hbel2.drew).trans (hb3.mono hbel2.size)
  go_wp2_with fail
  have t0 : InApp w g base (.slice lo rs.length lc) (.slice so rs.length sc) r w3.drew := s3
  have hL4 := hL3.later ((Below.refl w3.heap.size w3).drew)
  have ho4 := ho3.later ((Below.refl w3.heap.size w3).drew)
  have hb4 : Below w.heap.size w w3.drew := hb3'.drew
  clear s0 s3 hb3 hL2 ho2 hR2 k2 hR0 hL0 ho0 k1 hbm hbel hbel2 hmay
  refine wp_region_T (k := 20) (S := InApp w g base (.slice lo rs.length lc) (.slice so rs.length sc) r) hmo ?_
  change wpAnyT _ _ _ _ _ _ _ _ _ (World.drew w3)
  generalize w3.drew = V0 at *
  have hgV := hL4.lt
  have hlne : some w.heap.size ≠ (Value.slice lo rs.length lc).ownBlock := fun e => by have := own_under hL.own _ e.symm; omega
  have hsne : some w.heap.size ≠ (Value.slice so rs.length sc).ownBlock := fun e => by have := own_under hL.owz _ e.symm; omega
  have hgne : some g ≠ (Value.slice lo rs.length lc).ownBlock := fun e => own_ne hL.at_ (by decide) hL.own e.symm
  have hgne2 : some g ≠ (Value.slice so rs.length sc).ownBlock := fun e => own_ne hL.at_ (by decide) hL.owz e.symm
  have hsl := rows_ne hL.owz hL.own (by decide)
  refine wpAnyT_take (i := 0) (v := .pointer (some ⟨g, 0, none⟩)) rfl (by kernel_rfl) (by kernel_rfl) (by kernel_rfl) (by kernel_rfl) (by decide) (by kernel_rfl) (by kernel_rfl) (fun _ _ _ h => h) (Or.inl ⟨by kernel_rfl, by intro _ _; kernel_rfl⟩) t0 ?_
  go_simp
  refine wpAnyT_take0 (i := 1) (v := .pointer (some ⟨g, 0, none⟩)) rfl (by kernel_rfl) (by kernel_rfl) (by kernel_rfl) (by decide) (fun _ _ _ h => h) (Or.inl ⟨by kernel_rfl, by intro w h; kernel_rfl⟩) (.inr t0) ?_
  go_simp
  refine wpAnyT_take (i := 2) (v := .pointer (some ⟨g, 0, none⟩)) rfl (by kernel_rfl) (by kernel_rfl) (by kernel_rfl) (by kernel_rfl) (by decide) (by kernel_rfl) (by kernel_rfl) (fun _ _ _ h => h) (Or.inl ⟨by kernel_rfl, by intro _ _; kernel_rfl⟩) t0 ?_
  go_simp
  refine wpAnyT_take (i := 3) (v := .pointer (some ⟨g, 0, none⟩)) rfl (by kernel_rfl) (by kernel_rfl) (by kernel_rfl) (by kernel_rfl) (by decide) (by kernel_rfl) (by kernel_rfl) (fun _ _ _ h => h) (Or.inl ⟨by kernel_rfl, by intro _ _; kernel_rfl⟩) t0 ?_
  go_simp
  refine wpAnyT_take (i := 4) (v := .pointer (some ⟨g, 2, none⟩)) rfl (by kernel_rfl) (by kernel_rfl) (by kernel_rfl) (by kernel_rfl) (by decide) (by kernel_rfl) (by kernel_rfl) (fun _ _ _ h => h) (Or.inl ⟨by kernel_rfl, by intro _ _; kernel_rfl⟩) t0 ?_
  go_simp
  refine wpAnyT_take (i := 5) (v := .slice lo rs.length lc) rfl (by kernel_rfl) (by kernel_rfl) (by kernel_rfl) (by kernel_rfl) (by decide) (by kernel_rfl) (by kernel_rfl) (fun _ _ _ h => h) (Or.inl ⟨by kernel_rfl, by rintro w h; obtain ⟨c0, c1, c2, c3, c4, c5, c6, c7, c8, -⟩ := rbox_all h.1; obtain ⟨d2, d3⟩ := box_cells2 h; go_simp⟩) t0 ?_
  go_simp
  refine wpAnyT_take (i := 6) (v := .agg #[.int .u64 r.cl, .int .u64 r.nu, .int .i64 r.op.k, .string r.op.name, .string r.op.to, .slice r.op.ao r.op.an r.op.ac, .slice r.op.bo r.op.bn r.op.bc, .slice r.op.co r.op.cn r.op.cc, .int .i64 r.op.n]) rfl (by kernel_rfl) (by kernel_rfl) (by kernel_rfl) (by kernel_rfl) (by decide) (by kernel_rfl) (by kernel_rfl) (fun _ _ _ h => h) (Or.inl ⟨by kernel_rfl, by rintro w h; obtain ⟨c0, c1, c2, c3, c4, c5, c6, c7, c8, -⟩ := rbox_all h.1; obtain ⟨d2, d3⟩ := box_cells2 h; go_simp⟩) t0 ?_
  go_simp
  refine wpAnyT_take (i := 10) (v := .pointer (some ⟨g, 0, none⟩)) rfl (by kernel_rfl) (by kernel_rfl) (by kernel_rfl) (by kernel_rfl) (by decide) (by kernel_rfl) (by kernel_rfl) (fun _ _ _ h => h) (Or.inl ⟨by kernel_rfl, by intro _ _; kernel_rfl⟩) t0 ?_
  go_simp
  refine wpAnyT_take (i := 11) (v := .pointer (some ⟨g, 0, none⟩)) rfl (by kernel_rfl) (by kernel_rfl) (by kernel_rfl) (by kernel_rfl) (by decide) (by kernel_rfl) (by kernel_rfl) (fun _ _ _ h => h) (Or.inl ⟨by kernel_rfl, by intro _ _; kernel_rfl⟩) t0 ?_
  go_simp
  refine wpAnyT_take (i := 12) (v := .pointer (some ⟨g, 3, none⟩)) rfl (by kernel_rfl) (by kernel_rfl) (by kernel_rfl) (by kernel_rfl) (by decide) (by kernel_rfl) (by kernel_rfl) (fun _ _ _ h => h) (Or.inl ⟨by kernel_rfl, by intro _ _; kernel_rfl⟩) t0 ?_
  go_simp
  refine wpAnyT_take (i := 13) (v := .slice so rs.length sc) rfl (by kernel_rfl) (by kernel_rfl) (by kernel_rfl) (by kernel_rfl) (by decide) (by kernel_rfl) (by kernel_rfl) (fun _ _ _ h => h) (Or.inl ⟨by kernel_rfl, by rintro w h; obtain ⟨c0, c1, c2, c3, c4, c5, c6, c7, c8, -⟩ := rbox_all h.1; obtain ⟨d2, d3⟩ := box_cells2 h; go_simp⟩) t0 ?_
  go_simp
  refine wpAnyT_take (i := 14) (v := .agg #[.int .u64 r.cl, .int .u64 r.nu, .int .i64 r.op.k, .string r.op.name, .string r.op.to, .slice r.op.ao r.op.an r.op.ac, .slice r.op.bo r.op.bn r.op.bc, .slice r.op.co r.op.cn r.op.cc, .int .i64 r.op.n]) rfl (by kernel_rfl) (by kernel_rfl) (by kernel_rfl) (by kernel_rfl) (by decide) (by kernel_rfl) (by kernel_rfl) (fun _ _ _ h => h) (Or.inl ⟨by kernel_rfl, by rintro w h; obtain ⟨c0, c1, c2, c3, c4, c5, c6, c7, c8, -⟩ := rbox_all h.1; obtain ⟨d2, d3⟩ := box_cells2 h; go_simp⟩) t0 ?_
  go_simp
  refine wpAnyT_all (rs := [7]) (by kernel_rfl) (by simp) (fun j hj => ?_)
  rw [List.mem_singleton] at hj
  subst hj
  refine wpOp_step rfl (fun K hK => ?_)
  go_simp
  have hcp := copyReq_any r c V0 ho4
  unfold RV.val RV.cells at hcp
  refine hcp.mono ?_
  rintro e V1 ⟨u, rfl, hcu, hou, hv1⟩
  have t1 := t0.step hv1
  simp only [RV.val, RV.cells]
  go_simp
  refine hK _ _ ⟨.inr t1, ?_⟩
  clear hK K
  refine wpAnyT_all (rs := [8]) (by kernel_rfl) (by simp) (fun j hj => ?_)
  rw [List.mem_singleton] at hj
  subst hj
  refine wpOp_step rfl (fun K hK => ?_)
  go_simp
  generalize hgw : V1.alloc _ = V1a
  have e8 : V1.alloc (.cells (RV.cells ⟨r.cl, r.nu, u⟩) 42) = V1a := by simp only [RV.cells]; exact hgw
  have hb8 : Below V1.heap.size V1 V1a := by rw [← e8]; exact (Below.refl _ _).alloc (Nat.le_refl _) _
  have hr8 : Rd V1a 9 (some ⟨V1.heap.size, 0, none⟩) 1 1 (RV.cells ⟨r.cl, r.nu, u⟩).toList := by rw [← e8]; exact Rd.new V1 (RV.cells ⟨r.cl, r.nu, u⟩).toList 42 (0, 0) 9 1 (by simp [RV.cells]) (by decide)
  clear hgw e8
  have t2 := t1.step hb8
  refine hK _ _ ⟨.inr t2, ?_⟩
  clear hK K
  refine wpAnyT_all (rs := [9]) (by kernel_rfl) (by simp) (fun j hj => ?_)
  rw [List.mem_singleton] at hj
  subst hj
  refine wpOp_step rfl (fun K hK => ?_)
  refine step_app2 rfl (.tmp 34) (.tmp 37) 23 rfl B 42 zeroR.val 9 136 sliceT_req (.slice lo rs.length lc) rs.length (reqV rs) rfl (own_later (own_later hL4.own hv1) hb8) (some ⟨V1.heap.size, 0, none⟩) 1 1 (RV.cells ⟨r.cl, r.nu, u⟩).toList rfl hr8 (cells_one _) (by unfold maxLen; omega) (by omega) (by have := hL4.le; have := hv1.size; have := hb8.size; omega) ?_
  intro ao1 cap1 V2 own1 gr1 bel1 fr1
  have t3 := t2.grown gr1 (fun e => hlne e) (hgne)
  refine hK _ _ ⟨.inr t3, ?_⟩
  clear hK K
  refine wpAnyT_all (rs := [15]) (by kernel_rfl) (by simp) (fun j hj => ?_)
  rw [List.mem_singleton] at hj
  subst hj
  refine wpOp_step rfl (fun K hK => ?_)
  go_simp
  have hby2 := bytes_any r c bl V2 (((ho4.later hv1).later hb8).grown gr1 hap) h h1 h2
  rw [hzb] at hby2
  unfold RV.val RV.cells at hby2
  refine hby2.mono ?_
  rintro e V3 ⟨rfl, hv3⟩
  have t4 := t3.step hv3
  go_simp
  refine hK _ _ ⟨.inr t4, ?_⟩
  clear hK K
  refine wpAnyT_all (rs := [16]) (by kernel_rfl) (by simp) (fun j hj => ?_)
  rw [List.mem_singleton] at hj
  subst hj
  refine wpOp_step rfl (fun K hK => ?_)
  go_simp
  generalize hgw : V3.alloc _ = V3a
  have e16 : V3.alloc (.cells #[.int .i64 zb] 3) = V3a := hgw
  have hb16 : Below V3.heap.size V3 V3a := by rw [← e16]; exact (Below.refl _ _).alloc (Nat.le_refl _) _
  have hr16 : Rd V3a 1 (some ⟨V3.heap.size, 0, none⟩) 1 1 [.int .i64 zb] := by rw [← e16]; exact Rd.new V3 [.int .i64 zb] 3 (0, 0) 1 1 rfl (by decide)
  clear hgw e16
  have t5 := t4.step hb16
  refine hK _ _ ⟨.inr t5, ?_⟩
  clear hK K
  refine wpAnyT_all (rs := [17]) (by kernel_rfl) (by simp) (fun j hj => ?_)
  rw [List.mem_singleton] at hj
  subst hj
  refine wpOp_step rfl (fun K hK => ?_)
  refine step_app2 rfl (.tmp 42) (.tmp 45) 82 rfl B 3 (.int .i64 0) 1 8 sliceT_int (.slice so rs.length sc) rs.length (intV zs) rfl (own_later (own_later (own_grown (own_later (own_later hL4.owz hv1) hb8) gr1 hsl) hv3) hb16) (some ⟨V3.heap.size, 0, none⟩) 1 1 [.int .i64 zb] rfl hr16 (one1 _ rfl) (by unfold maxLen; omega) (by omega) (by have := hL4.le; have := hv1.size; have := hb8.size; have := gr1.size; have := hv3.size; have := hb16.size; omega) ?_
  intro ao2 cap2 V5 own2 gr2 bel2 fr2
  have t6 := t5.grown gr2 (fun e => hsne e) (hgne2)
  refine hK _ _ ⟨.inr t6, ?_⟩
  clear hK K
  refine wpAnyT_take (i := 18) (v := .pointer (some ⟨g, 0, none⟩)) rfl (by kernel_rfl) (by kernel_rfl) (by kernel_rfl) (by kernel_rfl) (by decide) (by kernel_rfl) (by kernel_rfl) (fun _ _ _ h => h) (Or.inl ⟨by kernel_rfl, by intro _ _; kernel_rfl⟩) t6 ?_
  go_simp
  refine wpAnyT_take (i := 19) (v := .pointer (some ⟨g, 2, none⟩)) rfl (by kernel_rfl) (by kernel_rfl) (by kernel_rfl) (by kernel_rfl) (by decide) (by kernel_rfl) (by kernel_rfl) (fun _ _ _ h => h) (Or.inl ⟨by kernel_rfl, by intro _ _; kernel_rfl⟩) t6 ?_
  go_simp
  have hat5 := t6.2
  have d2 : V5.cell? ⟨g, 2, none⟩ = some (.slice lo rs.length lc) := by simp [World.cell?, hat5]
  have d3 : V5.cell? ⟨g, 3, none⟩ = some (.slice so rs.length sc) := by simp [World.cell?, hat5]
  have dF : ∀ i, V5.frozen? ⟨g, i, none⟩ = false := by simp [World.frozen?, hat5]
  refine wpAnyT_last (by kernel_rfl) (by kernel_rfl) ?_
  refine wpAny_all (rs := [20]) (by kernel_rfl) (by simp) (fun j hj => ?_)
  rw [List.mem_singleton] at hj
  subst hj
  refine wpOp_step rfl (fun K hK => ?_)
  go_simp
  refine hK _ _ ?_
  clear hK K
  refine wpAny_all (rs := [21]) (by kernel_rfl) (by simp) (fun j hj => ?_)
  rw [List.mem_singleton] at hj
  subst hj
  refine wpOp_step rfl (fun K hK => ?_)
  go_simp
  refine hK _ _ ?_
  clear hK K
  refine wpAny_all (rs := [22]) (by kernel_rfl) (by simp) (fun j hj => ?_)
  rw [List.mem_singleton] at hj
  subst hj
  refine wpOp_step rfl (fun K hK => ?_)
  go_simp
  refine hK _ _ ?_
  clear hK K
  refine wpAny_all (rs := [23]) (by kernel_rfl) (by simp) (fun j hj => ?_)
  rw [List.mem_singleton] at hj
  subst hj
  refine wpOp_step rfl (fun K hK => ?_)
  go_simp
  refine hK _ _ ?_
  clear hK K
  refine wpAny_done (by kernel_rfl) ?_ _
  have qv := hb4.size
  have q0 := hv1.size
  have q1 := hb8.size
  have q2 := gr1.size
  have q3 := hv3.size
  have q4 := hb16.size
  have q5 := gr2.size
  have own1b := own_later (own_later own1 hv3) hb16
  have owzb := own_later (own_later (own_grown (own_later (own_later hL4.owz hv1) hb8) gr1 hsl) hv3) hb16
  have own5 := own_grown own1b gr2 (rows_ne own1b owzb (by decide))
  have hap2 := hcu.apart (fun k hk => own_under hL4.own k hk)
  have hap3 := hcu.apart (fun k hk => own_under hL4.owz k hk)
  have hou5 := (((((hou.later hb8).grown gr1 hap2).later hv3).later hb16).grown gr2 hap3)
  have hgu : ∀ x : Addr, V0.heap.size ≤ x.block → x.block ≠ g := fun x hx => by omega
  have hou6 := (hou5.set ⟨g, 2, none⟩ (.slice ao1 (rs.length + 1) cap1) (fun x hx => hgu x (hcu.fa x hx)) (fun x hx => hgu x (hcu.fb x hx)) (fun x hx => hgu x (hcu.fc x hx))).set ⟨g, 3, none⟩ (.slice ao2 (rs.length + 1) cap2) (fun x hx => hgu x (hcu.fa x hx)) (fun x hx => hgu x (hcu.fb x hx)) (fun x hx => hgu x (hcu.fc x hx))
  have hne1 := own_ne hat5 (by decide) own5
  have hne2 := own_ne hat5 (by decide) own2
  have own6 := ownsRow_setCell_other (ownsRow_setCell_other own5 (a := ⟨g, 2, none⟩) hne1 (.slice ao1 (rs.length + 1) cap1)) (a := ⟨g, 3, none⟩) hne1 (.slice ao2 (rs.length + 1) cap2)
  have owz6 := ownsRow_setCell_other (ownsRow_setCell_other own2 (a := ⟨g, 2, none⟩) hne2 (.slice ao1 (rs.length + 1) cap1)) (a := ⟨g, 3, none⟩) hne2 (.slice ao2 (rs.length + 1) cap2)
  have hat6 := (at_set (i := 3) (x := .slice ao2 (rs.length + 1) cap2) (at_set (i := 2) (x := .slice ao1 (rs.length + 1) cap1) hat5)).trans (by kernel_rfl : _ = some (Obj.cells #[.bool true, .int .u64 base, .slice ao1 (rs.length + 1) cap1, .slice ao2 (rs.length + 1) cap2] 84))
  have hbB : Below B w V5 := by
    have hB := hL.le
    have x1 : Below B w V1a := ((hb4.mono (by omega)).trans (hv1.mono (by omega))).trans (hb8.mono (by omega))
    exact ((x1.trans bel1).trans ((hv3.mono (by omega)).trans (hb16.mono (by omega)))).trans bel2
  have hB6 := (hbB.setCell (p := ⟨g, 2, none⟩) hL.le (.slice ao1 (rs.length + 1) cap1)).setCell (p := ⟨g, 3, none⟩) hL.le (.slice ao2 (rs.length + 1) cap2)
  have hBut : ∀ k, k < w.heap.size → k ≠ g → some k ≠ (Value.slice lo rs.length lc).ownBlock → some k ≠ (Value.slice so rs.length sc).ownBlock → ((V5.setCell ⟨g, 2, none⟩ (.slice ao1 (rs.length + 1) cap1)).setCell ⟨g, 3, none⟩ (.slice ao2 (rs.length + 1) cap2)).heap[k]? = w.heap[k]? := fun k hk h1 h2 h3 =>
    (Below.heap_setCell _ _ _ _ h1).trans ((Below.heap_setCell _ _ _ _ h1).trans ((gr2.block k (by omega) h3).trans ((hb16.block k (by omega)).trans ((hv3.block k (by omega)).trans ((gr1.block k (by omega) h2).trans ((hb8.block k (by omega)).trans ((hv1.block k (by omega)).trans (hb4.block k hk))))))))
  have hF1 : ∀ k, (Value.slice ao1 (rs.length + 1) cap1).ownBlock = some k → (Value.slice lo rs.length lc).ownBlock = some k ∨ w.heap.size ≤ k := fun k hk => (fr1 k hk).imp id (fun h => by omega)
  have hF2 : ∀ k, (Value.slice ao2 (rs.length + 1) cap2).ownBlock = some k → (Value.slice so rs.length sc).ownBlock = some k ∨ w.heap.size ≤ k := fun k hk => (fr2 k hk).imp id (fun h => by omega)
  have HF1 := Lib.hid hF1
  have HF2 := Lib.hid hF2
  clear hF1 hF2 fr1 fr2
  have hS6 : w.heap.size ≤ ((V5.setCell ⟨g, 2, none⟩ (.slice ao1 (rs.length + 1) cap1)).setCell ⟨g, 3, none⟩ (.slice ao2 (rs.length + 1) cap2)).heap.size := by simp; omega
  generalize (V5.setCell ⟨g, 2, none⟩ (.slice ao1 (rs.length + 1) cap1)).setCell ⟨g, 3, none⟩ (.slice ao2 (rs.length + 1) cap2) = V6 at *
  have hl1 : (rs ++ [(⟨r.cl, r.nu, u⟩ : RV)]).length = rs.length + 1 := by simp
  have hLW : LogW B g base (.slice ao1 (rs.length + 1) cap1) (.slice ao2 (rs.length + 1) cap2) (rs ++ [⟨r.cl, r.nu, u⟩]) (zs ++ [zb]) V6 := by
    refine ⟨hat6, hL.le, ?_, ?_⟩
    · rw [hl1, show reqV (rs ++ [(⟨r.cl, r.nu, u⟩ : RV)]) = reqV rs ++ (RV.cells ⟨r.cl, r.nu, u⟩).toList from by simp [reqV]]
      exact own6
    · rw [hl1, show intV (zs ++ [zb]) = intV zs ++ [.int .i64 zb] from by simp [intV]]
      exact owz6
  have hR6 : LogR true g base (rs.length + 1) ao1 cap1 ao2 cap2 (rs ++ [⟨r.cl, r.nu, u⟩]) (zs ++ [zb]) V6 := by
    exact ⟨hat6, by have := hLW.own; rw [hl1] at this; exact Rd.of_own_slice this, by have := hLW.owz; rw [hl1] at this; exact Rd.of_own_slice this⟩
  clear hl1 own6 owz6 own5 own1b owzb own1 own2 bel1 bel2 hbB t0 t1 t2 t3 t4 t5 t6 d2 d3 dF hr8 hr16 hat5
  go_wp2_with fail
  refine (end_any true g base (rs.length + 1) ao1 cap1 ao2 cap2 _ _ V6 hR6 (by omega) hb0 hb1).mono ?_
  rintro e w7 ⟨rfl, q, rfl⟩
  rw [show base + ((rs.length + 1 : Nat) : Int) = base + rs.length + 1 from by omega]
  go_wp2_with fail
  go_ret2
  exact ⟨u, _, _, rfl, hLW.drew q, hcu.low qv, hou6.later (below_drewN (Below.refl _ _) q), below_drewN hB6 q, ⟨hS6, hBut⟩, HF1.out, HF2.out⟩
end Go.Proofs.YtghjgajgjhbjpaaGreat.Msg
