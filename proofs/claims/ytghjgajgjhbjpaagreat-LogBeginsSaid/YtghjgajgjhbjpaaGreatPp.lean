/-
  A log that refuses: places that it has not, requests that may not be, or are too many bytes.
-/
import Derived.Test.YtghjgajgjhbjpaaGreatPn
import Derived.Test.YtghjgajgjhbjpaaGreatLr
namespace Go.Proofs.YtghjgajgjhbjpaaGreat.Msg
open Go.RowKit Go.Lib Go.Proofs.YtghjgajgjhbjpaaGreat.Mem Go.Proofs.YtghjgajgjhbjpaaGreat.Tlv

section
variable (g : Nat) (base : Int) (n : Nat) (lo : Option Addr) (lc : Nat) (so : Option Addr) (sc : Nat) (rs : List RV) (zs : List Int)
theorem may_no (x : Int) (w : World) (h : LogR true g base n lo lc so sc rs zs w) (hn : n ≤ 1000000) (h0 : 0 ≤ base) (h1 : base ≤ 9000000000000000000) (hx : ¬ (base ≤ x ∧ x ≤ base + n)) :
    Calls Tryz.prog 102 #[.pointer (some ⟨g, 0, none⟩), .int .u64 x] w fun e w' => e = .returned (.int .i64 8) ∧ ∃ q, w' = w.drewN q := by
  obtain ⟨c0, c1, c2, c3, -⟩ := h.cells
  by_cases hx0 : base ≤ x
  · have f1 : decide (x < base) = false := decide_eq_false (by omega)
    have f2 : decide (base + (n : Int) < x) = true := decide_eq_true (by omega)
    clear hx hx0
    go_enter Tryz.func102, Tryz.ntmps102
    go_wp2_with fail
    refine (is_any true g base n lo lc so sc rs zs w h).mono ?_
    rintro e w1 ⟨rfl, rfl⟩
    go_wp2_with fail
    refine (end_any true g base n lo lc so sc rs zs w1 h hn h0 h1).mono ?_
    rintro e w2 ⟨rfl, q, rfl⟩
    go_wp2_with fail
    go_ret
    exact ⟨rfl, q, rfl⟩
  · have f1 : decide (x < base) = true := decide_eq_true (by omega)
    clear hx hx0
    go_enter Tryz.func102, Tryz.ntmps102
    go_wp2_with fail
    refine (is_any true g base n lo lc so sc rs zs w h).mono ?_
    rintro e w1 ⟨rfl, rfl⟩
    go_wp2_with fail
    go_ret
    exact ⟨rfl, 0, rfl⟩
theorem cut_no (x : Int) (w : World) (h : LogR true g base n lo lc so sc rs zs w) (hn : n ≤ 1000000) (h0 : 0 ≤ base) (h1 : base ≤ 9000000000000000000) (hx : ¬ (base ≤ x ∧ x ≤ base + n)) :
    Calls Tryz.prog 47 #[.pointer (some ⟨g, 0, none⟩), .int .u64 x] w fun e w' => e = .returned (.int .i64 8) ∧ ∃ q, w' = w.drewN q := by
  go_enter Tryz.func47, Tryz.ntmps47
  go_wp2_with fail
  refine (may_no g base n lo lc so sc rs zs x w h hn h0 h1 hx).mono ?_
  rintro e w1 ⟨rfl, q, rfl⟩
  go_wp2_with fail
  go_ret
  exact ⟨rfl, q, rfl⟩
theorem drop_no (x : Int) (w : World) (h : LogR true g base n lo lc so sc rs zs w) (hn : n ≤ 1000000) (h0 : 0 ≤ base) (h1 : base ≤ 9000000000000000000) (hx : ¬ (base ≤ x ∧ x ≤ base + n)) :
    Calls Tryz.prog 38 #[.pointer (some ⟨g, 0, none⟩), .int .u64 x] w fun e w' => e = .returned (.int .i64 8) ∧ ∃ q, w' = w.drewN q := by
  go_enter Tryz.func38, Tryz.ntmps38
  go_wp2_with fail
  refine (may_no g base n lo lc so sc rs zs x w h hn h0 h1 hx).mono ?_
  rintro e w1 ⟨rfl, q, rfl⟩
  go_wp2_with fail
  go_ret
  exact ⟨rfl, q, rfl⟩
theorem from_no (x : Int) (w : World) (h : LogR true g base n lo lc so sc rs zs w) (hn : n ≤ 1000000) (h0 : 0 ≤ base) (h1 : base ≤ 9000000000000000000) (hx : ¬ (base ≤ x ∧ x ≤ base + n)) :
    Calls Tryz.prog 50 #[.pointer (some ⟨g, 0, none⟩), .int .u64 x] w fun e w' => e = .returned (.tuple #[.slice none 0 0, .int .i64 8]) ∧ ∃ q, w' = w.drewN q := by
  go_enter Tryz.func50, Tryz.ntmps50
  go_wp2_with fail
  refine (may_no g base n lo lc so sc rs zs x w h hn h0 h1 hx).mono ?_
  rintro e w1 ⟨rfl, q, rfl⟩
  go_wp2_with fail
  go_ret2
  exact ⟨rfl, q, rfl⟩
set_option maxRecDepth 100000 in
theorem at_no (x : Int) (w : World) (h : LogR true g base n lo lc so sc rs zs w) (hn : n ≤ 1000000) (h0 : 0 ≤ base) (h1 : base ≤ 9000000000000000000) (hx : ¬ (base < x ∧ x ≤ base + n)) :
    Calls Tryz.prog 39 #[.pointer (some ⟨g, 0, none⟩), .int .u64 x] w fun e w' => e = .returned (.tuple #[zeroR.val, .int .i64 8]) ∧ Below w.heap.size w w' := by
  by_cases hx0 : base < x
  · have f1 : decide (x ≤ base) = false := decide_eq_false (by omega)
    have f2 : decide (base + (n : Int) < x) = true := decide_eq_true (by omega)
    clear hx hx0
    go_enter Tryz.func39, Tryz.ntmps39
    go_wp2_with fail
    generalize hg : w.alloc _ = W0
    have e : w.alloc zeroR.box = W0 := by simp only [RV.box, RV.cells, zeroR, zeroV]; exact hg
    have hbel : Below w.heap.size w W0 := by rw [← e]; exact (Below.refl _ _).alloc (Nat.le_refl _) _
    have k1 : W0.heap[w.heap.size]? = some zeroR.box := by rw [← e]; show (w.heap.push _)[w.heap.size]? = some _; exact Array.getElem?_push_size
    clear hg e
    have hL0 := h.later hbel
    refine (is_any true g base n lo lc so sc rs zs W0 hL0).mono ?_
    rintro e w1 ⟨rfl, rfl⟩
    obtain ⟨c0, c1, c2, c3, -⟩ := hL0.cells
    go_wp2_with fail
    refine (end_any true g base n lo lc so sc rs zs w1 hL0 hn h0 h1).mono ?_
    rintro e w2 ⟨rfl, q, rfl⟩
    clear c0 c1 c2 c3
    have k2 : (w1.drewN q).heap[w.heap.size]? = some zeroR.box := k1
    have hbel2 := below_drewN hbel q
    generalize w1.drewN q = V0 at *
    obtain ⟨e0, e1, e2, e3, e4, e5, e6, e7, e8, e9⟩ := rbox_all k2
    go_wp2_with fail
    have hF : (setReq V0 w.heap.size zeroR).heap[w.heap.size]? = some zeroR.box := setReq_at k2
    exact bodyPost_ret (w := setReq V0 w.heap.size zeroR) (results_req2 (i := 4) (j := 5) rfl rfl rfl hF) rfl ⟨rfl, setReq_below hbel2 (Nat.le_refl _)⟩
  · have f1 : decide (x ≤ base) = true := decide_eq_true (by omega)
    clear hx hx0
    go_enter Tryz.func39, Tryz.ntmps39
    go_wp2_with fail
    generalize hg : w.alloc _ = W0
    have e : w.alloc zeroR.box = W0 := by simp only [RV.box, RV.cells, zeroR, zeroV]; exact hg
    have hbel : Below w.heap.size w W0 := by rw [← e]; exact (Below.refl _ _).alloc (Nat.le_refl _) _
    have k1 : W0.heap[w.heap.size]? = some zeroR.box := by rw [← e]; show (w.heap.push _)[w.heap.size]? = some _; exact Array.getElem?_push_size
    clear hg e
    have hL0 := h.later hbel
    refine (is_any true g base n lo lc so sc rs zs W0 hL0).mono ?_
    rintro e w1 ⟨rfl, rfl⟩
    obtain ⟨c0, c1, c2, c3, -⟩ := hL0.cells
    obtain ⟨e0, e1, e2, e3, e4, e5, e6, e7, e8, e9⟩ := rbox_all k1
    go_wp2_with fail
    have hF : (setReq w1 w.heap.size zeroR).heap[w.heap.size]? = some zeroR.box := setReq_at k1
    exact bodyPost_ret (w := setReq w1 w.heap.size zeroR) (results_req2 (i := 4) (j := 5) rfl rfl rfl hF) rfl ⟨rfl, setReq_below hbel (Nat.le_refl _)⟩
end

set_option maxRecDepth 100000 in
set_option maxHeartbeats 4000000 in
theorem append_arg (g : Nat) (base : Int) (n : Nat) (lo : Option Addr) (lc : Nat) (so : Option Addr) (sc : Nat) (rs : List RV) (zs : List Int) (r : RV) (c : OC) (bl : List UInt8) (w : World) (h : LogR true g base n lo lc so sc rs zs w) (ho : OpAt w r.op c) (hm : OpC r.op c false bl) :
    Calls Tryz.prog 37 #[.pointer (some ⟨g, 0, none⟩), r.val] w fun e w' => e = .returned (.tuple #[.int .u64 0, .int .i64 2]) ∧ Below w.heap.size w w' := by
  unfold RV.val
  simp only [RV.cells]
  go_enter Tryz.func37, Tryz.ntmps37
  go_wp2_with fail
  generalize hg : w.alloc _ = W0
  have e : w.alloc r.box = W0 := by simp only [RV.box, RV.cells]; exact hg
  have hbel : Below w.heap.size w W0 := by rw [← e]; exact (Below.refl _ _).alloc (Nat.le_refl _) _
  have k1 : W0.heap[w.heap.size]? = some r.box := by rw [← e]; show (w.heap.push _)[w.heap.size]? = some _; exact Array.getElem?_push_size
  clear hg e
  refine (is_any true g base n lo lc so sc rs zs W0 (h.later hbel)).mono ?_
  rintro e w1 ⟨rfl, rfl⟩
  obtain ⟨e0, e1, e2, e3, e4, e5, e6, e7, e8, e9⟩ := rbox_all k1
  go_wp2_with fail
  have hmr := mayReq_any r c false bl w1 (ho.later hbel) hm
  unfold RV.val at hmr
  simp only [RV.cells] at hmr
  refine hmr.mono ?_
  rintro e w2 ⟨rfl, hb2⟩
  go_wp2_with fail
  go_ret2
  exact ⟨rfl, hbel.trans (hb2.mono hbel.size)⟩

set_option maxRecDepth 100000 in
set_option maxHeartbeats 4000000 in
theorem append_big (B g : Nat) (base : Int) (l s : Value) (rs : List RV) (zs : List Int) (r : RV) (c : OC) (bl : List UInt8) (w : World) (hL : LogO B g base l s rs zs w) (ho : OpAt w r.op c) (h : OpC r.op c true bl) (h1 : 0 ≤ r.cl) (h2 : 0 ≤ r.nu)
    (hn : rs.length < 4096) (hz : ∀ z ∈ zs, 0 ≤ z ∧ z ≤ 5000000) (hs : 2097152 < zs.sum + ((bl.length + 31 : Nat) : Int)) :
    Calls Tryz.prog 37 #[.pointer (some ⟨g, 0, none⟩), r.val] w fun e w' => e = .returned (.tuple #[.int .u64 0, .int .i64 10]) ∧ Below w.heap.size w w' := by
  have hmo : Tryz.prog.follows .mixedOrders = true := by kernel_rfl
  unfold RV.val RV.cells
  go_enter Tryz.func37, Tryz.ntmps37
  go_wp2_with fail
  generalize hg : w.alloc _ = W0
  have e : w.alloc r.box = W0 := by simp only [RV.box, RV.cells]; exact hg
  have hbel : Below w.heap.size w W0 := by rw [← e]; exact (Below.refl _ _).alloc (Nat.le_refl _) _
  have k1 : W0.heap[w.heap.size]? = some r.box := by rw [← e]; show (w.heap.push _)[w.heap.size]? = some _; exact Array.getElem?_push_size
  clear hg e
  have hL0 := hL.later hbel
  have ho0 := ho.later hbel
  obtain ⟨lo, lc, so, sc, e1, e2, hR0⟩ := hL0.rd
  have hgw : g < w.heap.size := hL.lt
  refine (is_any true g base _ lo lc so sc rs zs W0 hR0).mono ?_
  rintro e w1 ⟨rfl, rfl⟩
  obtain ⟨c0, c1, c2, c3, c4, c5, c6, c7, c8, -⟩ := rbox_all k1
  have hmay := mayReq_any r c true bl w1 ho0 h
  unfold RV.val RV.cells at hmay
  go_wp2_with fail
  refine hmay.mono ?_
  rintro e w2 ⟨rfl, hbm⟩
  have hL2 := hL0.later hbm
  have ho2 := ho0.later hbm
  have k2 := (hbm.block _ (Array.getElem?_eq_some_iff.1 k1).1).trans k1
  have hR2 := hR0.later hbm
  have hbel2 := hbel.trans (hbm.mono hbel.size)
  subst e1 e2
  clear c0 c1 c2 c3 c4 c5 c6 c7 c8
  have s0 : InApp w g base (.slice lo rs.length lc) (.slice so rs.length sc) r w2.drew := ⟨k2, hL2.at_⟩
  have hLen : Hid (zs.length = rs.length) := Lib.hid (by have := hR2.rz.1; rw [intV_len] at this; omega)
  have f5 : decide ((4096 : Int) ≤ (rs.length : Int)) = false := decide_eq_false (by omega)
  have hw0 := sum_le zs hz
  have hw1 : IntKind.wrap .i64 (zs.sum + ((bl.length + 31 : Nat) : Int)) = zs.sum + ((bl.length + 31 : Nat) : Int) := by (have := h.len; have hLl := hL.owz.1; have : zs.length = rs.length := (by simpa [intV] using hLl); rw [IntKind.wrap_i64]; omega)
  have f6 : decide ((2097152 : Int) < zs.sum + ((bl.length + 31 : Nat) : Int)) = true := decide_eq_true (by omega)
  generalize hzb : ((bl.length + 31 : Nat) : Int) = zb at *
  go_wp2_with fail
  refine wp_region_held (S := InApp w g base (.slice lo rs.length lc) (.slice so rs.length sc) r) hmo ?_
  change wpAnyH _ _ _ _ _ _ _ _ (World.drew _)
  refine wpAnyH_take (i := 0) (v := .pointer (some ⟨g, 0, none⟩)) rfl (by kernel_rfl) (by kernel_rfl) (by kernel_rfl) (fun _ _ _ h => h) (Or.inl ⟨by kernel_rfl, by intro _ _; kernel_rfl⟩) s0 ?_
  go_simp
  refine wpAnyH_take (i := 1) (v := .pointer (some ⟨g, 0, none⟩)) rfl (by kernel_rfl) (by kernel_rfl) (by kernel_rfl) (fun _ _ _ h => h) (Or.inl ⟨by kernel_rfl, by intro _ _; kernel_rfl⟩) s0 ?_
  go_simp
  refine wpAnyH_take (i := 2) (v := .pointer (some ⟨g, 2, none⟩)) rfl (by kernel_rfl) (by kernel_rfl) (by kernel_rfl) (fun _ _ _ h => h) (Or.inl ⟨by kernel_rfl, by intro _ _; kernel_rfl⟩) s0 ?_
  go_simp
  refine wpAnyH_take (i := 3) (v := .slice lo rs.length lc) rfl (by kernel_rfl) (by kernel_rfl) (by kernel_rfl) (fun _ _ _ h => h) (Or.inl ⟨by kernel_rfl, by rintro w h; obtain ⟨c0, c1, c2, c3, c4, c5, c6, c7, c8, -⟩ := rbox_all h.1; obtain ⟨d2, d3⟩ := box_cells2 h; go_simp⟩) s0 ?_
  go_simp
  refine wpAnyH_take (i := 4) (v := .int .i64 (rs.length : Int)) rfl (by kernel_rfl) (by kernel_rfl) (by kernel_rfl) (fun _ _ _ h => h) (Or.inl ⟨by kernel_rfl, by rintro w h; obtain ⟨c0, c1, c2, c3, c4, c5, c6, c7, c8, -⟩ := rbox_all h.1; obtain ⟨d2, d3⟩ := box_cells2 h; go_simp⟩) s0 ?_
  go_simp
  refine wpAnyH_take (i := 5) (v := .bool false) rfl (by kernel_rfl) (by kernel_rfl) (by kernel_rfl) (fun _ _ _ h => h) (Or.inl ⟨by kernel_rfl, by rintro w h; obtain ⟨c0, c1, c2, c3, c4, c5, c6, c7, c8, -⟩ := rbox_all h.1; obtain ⟨d2, d3⟩ := box_cells2 h; go_simp⟩) s0 ?_
  go_simp
  refine wpAnyH_take (i := 6) (v := .bool false) rfl (by kernel_rfl) (by kernel_rfl) (by kernel_rfl) (fun _ _ _ h => h) (Or.inl ⟨by kernel_rfl, by intro _ _; kernel_rfl⟩) s0 ?_
  go_simp
  refine wpAnyH_take (i := 7) (v := .pointer (some ⟨g, 0, none⟩)) rfl (by kernel_rfl) (by kernel_rfl) (by kernel_rfl) (fun _ _ _ h => h) (Or.inl ⟨by kernel_rfl, by intro _ _; kernel_rfl⟩) s0 ?_
  go_simp
  refine wpAnyH_take (i := 9) (v := .agg #[.int .u64 r.cl, .int .u64 r.nu, .int .i64 r.op.k, .string r.op.name, .string r.op.to, .slice r.op.ao r.op.an r.op.ac, .slice r.op.bo r.op.bn r.op.bc, .slice r.op.co r.op.cn r.op.cc, .int .i64 r.op.n]) rfl (by kernel_rfl) (by kernel_rfl) (by kernel_rfl) (fun _ _ _ h => h) (Or.inl ⟨by kernel_rfl, by rintro w h; obtain ⟨c0, c1, c2, c3, c4, c5, c6, c7, c8, -⟩ := rbox_all h.1; obtain ⟨d2, d3⟩ := box_cells2 h; go_simp⟩) s0 ?_
  go_simp
  refine wpAnyH_all (rs := [8]) (by kernel_rfl) (by simp) (fun j hj => ?_)
  rw [List.mem_singleton] at hj
  subst hj
  refine wpOp_step rfl (fun K hK => ?_)
  go_simp
  refine (size_any true g base rs.length lo lc so sc rs zs w2.drew (hR2.later (Below.drew (Below.refl _ _))) (by omega) hz).mono ?_
  rintro e w3 ⟨rfl, rfl⟩
  go_simp
  refine hK _ _ ⟨s0, ?_⟩
  clear hK K
  refine wpAnyH_all (rs := [10]) (by kernel_rfl) (by simp) (fun j hj => ?_)
  rw [List.mem_singleton] at hj
  subst hj
  refine wpOp_step rfl (fun K hK => ?_)
  go_simp
  have hby := bytes_any r c bl w2.drew (ho2.later (Below.drew (Below.refl _ _))) h h1 h2
  rw [hzb] at hby
  unfold RV.val RV.cells at hby
  refine hby.mono ?_
  rintro e w3 ⟨rfl, hb3⟩
  have s3 := s0.step hb3
  go_simp
  refine hK _ _ ⟨s3, ?_⟩
  clear hK K
  refine wpAnyH_take (i := 11) (v := .int .i64 (zs.sum + zb)) rfl (by kernel_rfl) (by kernel_rfl) (by kernel_rfl) (fun _ _ _ h => h) (Or.inl ⟨by kernel_rfl, by rintro w h; obtain ⟨c0, c1, c2, c3, c4, c5, c6, c7, c8, -⟩ := rbox_all h.1; obtain ⟨d2, d3⟩ := box_cells2 h; go_simp⟩) s3 ?_
  go_simp
  refine wpAnyH_take (i := 12) (v := .bool true) rfl (by kernel_rfl) (by kernel_rfl) (by kernel_rfl) (fun _ _ _ h => h) (Or.inl ⟨by kernel_rfl, by rintro w h; obtain ⟨c0, c1, c2, c3, c4, c5, c6, c7, c8, -⟩ := rbox_all h.1; obtain ⟨d2, d3⟩ := box_cells2 h; go_simp⟩) s3 ?_
  go_simp
  refine wpAnyH_take (i := 13) (v := .bool true) rfl (by kernel_rfl) (by kernel_rfl) (by kernel_rfl) (fun _ _ _ h => h) (Or.inl ⟨by kernel_rfl, by intro _ _; kernel_rfl⟩) s3 ?_
  go_simp
  refine wpAnyH_take (i := 14) (v := .bool true) rfl (by kernel_rfl) (by kernel_rfl) (by kernel_rfl) (fun _ _ _ h => h) (Or.inl ⟨by kernel_rfl, by intro _ _; kernel_rfl⟩) s3 ?_
  go_simp
  refine wpAnyH_done (by kernel_rfl) ?_ _
  have hb3' : Below w.heap.size w w3 := (hbel2.drew).trans (hb3.mono hbel2.size)
  go_wp2_with fail
  go_ret2
  exact ⟨rfl, hb3'⟩
end Go.Proofs.YtghjgajgjhbjpaaGreat.Msg
