/-
  The document's log: At.
-/
import Derived.Test.YtghjgajgjhbjpaaGreatPj
import Derived.Laws.CopyOwn
namespace Go.Proofs.YtghjgajgjhbjpaaGreat.Msg
open Go.RowKit Go.Lib Go.Proofs.YtghjgajgjhbjpaaGreat.Mem Go.Proofs.YtghjgajgjhbjpaaGreat.Utf Go.Proofs.YtghjgajgjhbjpaaGreat.Tlv

/-- A whole struct is stored, as a step of a region that draws its order. -/
theorem step_row {P : Program} {ops : Array Oper} {o : Oper} {a : Act} {K : Act → World → Prop} {Q : Exit → Act → World → Prop} {E : Prop} {w : World} {t ty : TypeId} {p v : Operand} {g : Nat} {old cells : Array Value}
    (hgd : o.guard = none) (hop : o.op = .store ty p v) (hg : w.heap[g]? = some (.cells old t (0, 0))) (hp : a.eval p = .pointer (some ⟨g, 0, none⟩)) (hv : a.eval v = .agg cells) (hi : (P.info? ty).map (·.size) = some cells.size)
    (ho : old.size = cells.size) (h1 : cells.all (·.oneCell') = true) (hn : K (a.put o.dst undef) (w.setRow g cells)) :
    if Region.wanted o (yielded ops a.tmps) = true then Oper.wp P o a w K Q else E := by
  have hw : Region.wanted o (yielded ops a.tmps) = true := by simp [Region.wanted, hgd]
  rw [if_pos hw]
  have hl : (Instr.storeAt ty (.pointer (some ⟨g, 0, none⟩)) (.agg cells)).run P w = .ok () (w.setRow g cells) := by
    simp only [Instr.storeAt, Instr.sureAddr, Sem.run_bind, Sem.run_pure, Result.andThen]
    exact run_storeVar_row w g t ty old cells hg hi ho h1
  have : (execOp a.eval o).run P w = .ok .skip (w.setRow g cells) := by
    unfold execOp
    rw [hop]
    simp only [hp, hv, Sem.run_bind, hl, Result.andThen, Sem.run_pure]
  unfold Oper.wp
  rw [this]
  exact hn

section
variable (g : Nat) (base : Int) (lo : Option Addr) (n lc : Nat) (ps : List RP) (x : Int)
set_option maxRecDepth 100000 in
set_option maxHeartbeats 4000000 in
theorem rAt_no (w : World) (h : RefAt g base lo n lc ps w) (hn : n ≤ 1000000) (h0 : 0 ≤ base) (h1 : base ≤ 9000000000000000000) (hx : ¬ (base < x ∧ x ≤ base + n)) :
    Calls Tryz.prog 49 #[.pointer (some ⟨g, 0, none⟩), .int .u64 x] w fun e w' => e = .returned (.tuple #[zeroR.val, .int .i64 8]) ∧ Below w.heap.size w w' := by
  have hb0 : Below w.heap.size w (w.alloc zeroR.box) := (Below.refl _ _).alloc (Nat.le_refl _) _
  have k0 : (w.alloc zeroR.box).heap[w.heap.size]? = some zeroR.box := by show (w.heap.push _)[w.heap.size]? = some _; exact Array.getElem?_push_size
  unfold RV.box RV.cells at hb0 k0
  dsimp only [zeroR, zeroV] at hb0 k0
  go_enter Tryz.func49, Tryz.ntmps49
  go_upto_region 1 with fail
  generalize hg : w.alloc _ = W0 at *
  have kz : W0.heap[w.heap.size]? = some zeroR.box := k0
  clear hg k0
  have hR := h.later hb0
  obtain ⟨c0, c1, -⟩ := hR.cells
  by_cases hle : x ≤ base
  · have f1 : decide (x ≤ base) = true := decide_eq_true hle
    clear hle hx
    go_wp2_with (refine wpList_store_row kz rfl rfl rfl rfl (by kernel_rfl) rfl (by kernel_rfl) ?_; go_simp)
    exact bodyPost_ret (results_row2 (i := 4) (j := 5) (t := 42) rfl rfl rfl (by kernel_rfl) (by kernel_rfl) (setRow_at' kz)) rfl ⟨rfl, below_setRow hb0 (Nat.le_refl _) _⟩
  · have f1 : decide (x ≤ base) = false := decide_eq_false hle
    have f2 : decide (base + (n : Int) < x) = true := decide_eq_true (by omega)
    have hend := rend_log g base lo n lc ps W0 hR hn h0 h1
    clear hle hx hn h0 h1
    go_wp2_with fail
    refine hend.mono ?_
    rintro e w1 ⟨rfl, q, rfl⟩
    have kq : (W0.drewN q).heap[w.heap.size]? = some zeroR.box := kz
    have hbq : Below w.heap.size w (W0.drewN q) := below_drewN hb0 q
    go_wp2_with (refine wpList_store_row kq rfl rfl rfl rfl (by kernel_rfl) rfl (by kernel_rfl) ?_; go_simp)
    exact bodyPost_ret (results_row2 (i := 4) (j := 5) (t := 42) rfl rfl rfl (by kernel_rfl) (by kernel_rfl) (setRow_at' kq)) rfl ⟨rfl, below_setRow hbq (Nat.le_refl _) _⟩

set_option maxRecDepth 100000 in
set_option maxHeartbeats 4000000 in
theorem rAt_yes (w : World) (h : RefAt g base lo n lc ps w) (hn : n ≤ 1000000) (h0 : 0 ≤ base) (h1 : base ≤ 9000000000000000000) (i : Nat) (p : RP) (hx : x = base + i + 1) (hp : ps[i]? = some p) :
    Calls Tryz.prog 49 #[.pointer (some ⟨g, 0, none⟩), .int .u64 x] w fun e w' => e = .returned (.tuple #[p.1.val, .int .i64 0]) ∧ Below w.heap.size w w' := by
  have hmo : Tryz.prog.follows .mixedOrders = true := by kernel_rfl
  have hi : i < n := by have := (List.getElem?_eq_some_iff.1 hp).1; rw [h.rq.len] at this; exact this
  have hcap : 0 < lc := by have := h.rq.rd.le; omega
  obtain ⟨b1, o1, rfl, -, -⟩ := h.rq.rd.some hcap
  have hb0 : Below w.heap.size w (w.alloc zeroR.box) := (Below.refl _ _).alloc (Nat.le_refl _) _
  have k0 : (w.alloc zeroR.box).heap[w.heap.size]? = some zeroR.box := by show (w.heap.push _)[w.heap.size]? = some _; exact Array.getElem?_push_size
  unfold RV.box RV.cells at hb0 k0
  dsimp only [zeroR, zeroV] at hb0 k0
  have f1 : decide (x ≤ base) = false := decide_eq_false (by omega)
  have f2 : decide (base + (n : Int) < x) = false := decide_eq_false (by omega)
  have hw1 : IntKind.wrap .u64 (x - base) = (i : Int) + 1 := by rw [IntKind.wrap_u64]; omega
  have hw2 : IntKind.wrap .u64 (i : Int) = (i : Int) := by rw [IntKind.wrap_u64]; omega
  have i0 : (0 : Int) ≤ (i : Int) := by omega
  have i1 : (i : Int) < (n : Int) := by omega
  have hpi := map_at ps i p hp
  go_enter Tryz.func49, Tryz.ntmps49
  go_upto_region 1 with fail
  generalize hg : w.alloc _ = W0 at *
  have kz : W0.heap[w.heap.size]? = some zeroR.box := k0
  clear hg k0
  have hR := h.later hb0
  obtain ⟨c0, c1, -⟩ := hR.cells
  have hend := rend_log g base _ n lc ps W0 hR hn h0 h1
  clear hx hn h0 h1
  go_wp2_with fail
  refine hend.mono ?_
  rintro e w1 ⟨rfl, q, rfl⟩
  go_upto_region 3 with fail
  have kq : (W0.drewN q).drew.heap[w.heap.size]? = some zeroR.box := kz
  have hbq : Below w.heap.size w (W0.drewN q).drew := (below_drewN hb0 q).drew
  have s0 : RefAt g base (some ⟨b1, o1, none⟩) n lc ps (W0.drewN q).drew := h.later hbq
  clear hend c0 c1 hR kz hb0
  refine wp_region_held (S := RefAt g base (some ⟨b1, o1, none⟩) n lc ps) hmo ?_
  change wpAnyH _ _ _ _ _ _ _ _ (World.drew (World.drewN W0 q))
  generalize World.drew (World.drewN W0 q) = W1 at *
  refine wpAnyH_take (i := 0) (v := .pointer (some ⟨g, 0, none⟩)) rfl (by kernel_rfl) (by kernel_rfl) (by kernel_rfl) (fun _ _ _ h => h) (Or.inl ⟨by kernel_rfl, by intro _ _; kernel_rfl⟩) s0 ?_
  go_simp
  refine wpAnyH_take (i := 1) (v := .pointer (some ⟨g, 0, none⟩)) rfl (by kernel_rfl) (by kernel_rfl) (by kernel_rfl) (fun _ _ _ h => h) (Or.inl ⟨by kernel_rfl, by intro _ _; kernel_rfl⟩) s0 ?_
  go_simp
  refine wpAnyH_take (i := 2) (v := .pointer (some ⟨g, 1, none⟩)) rfl (by kernel_rfl) (by kernel_rfl) (by kernel_rfl) (fun _ _ _ h => h) (Or.inl ⟨by kernel_rfl, by intro _ _; kernel_rfl⟩) s0 ?_
  go_simp
  refine wpAnyH_take (i := 3) (v := .slice (some ⟨b1, o1, none⟩) n lc) rfl (by kernel_rfl) (by kernel_rfl) (by kernel_rfl) (fun _ _ _ h => h) (Or.inl ⟨by kernel_rfl, by rintro w h; obtain ⟨e0, e1, -⟩ := h.cells; obtain ⟨c0, c1, c2, c3, c4, c5, c6, c7, c8⟩ := rcells _ i p.1 hpi (h.rq.rd.2.2.2.2 hcap _ rfl).2.2; go_simp⟩) s0 ?_
  go_simp
  refine wpAnyH_take (i := 4) (v := .int .u64 x) rfl (by kernel_rfl) (by kernel_rfl) (by kernel_rfl) (fun _ _ _ h => h) (Or.inl ⟨by kernel_rfl, by intro _ _; kernel_rfl⟩) s0 ?_
  go_simp
  refine wpAnyH_take (i := 5) (v := .pointer (some ⟨g, 0, none⟩)) rfl (by kernel_rfl) (by kernel_rfl) (by kernel_rfl) (fun _ _ _ h => h) (Or.inl ⟨by kernel_rfl, by intro _ _; kernel_rfl⟩) s0 ?_
  go_simp
  refine wpAnyH_take (i := 6) (v := .pointer (some ⟨g, 0, none⟩)) rfl (by kernel_rfl) (by kernel_rfl) (by kernel_rfl) (fun _ _ _ h => h) (Or.inl ⟨by kernel_rfl, by intro _ _; kernel_rfl⟩) s0 ?_
  go_simp
  refine wpAnyH_take (i := 7) (v := .pointer (some ⟨g, 0, none⟩)) rfl (by kernel_rfl) (by kernel_rfl) (by kernel_rfl) (fun _ _ _ h => h) (Or.inl ⟨by kernel_rfl, by intro _ _; kernel_rfl⟩) s0 ?_
  go_simp
  refine wpAnyH_take (i := 8) (v := .int .u64 base) rfl (by kernel_rfl) (by kernel_rfl) (by kernel_rfl) (fun _ _ _ h => h) (Or.inl ⟨by kernel_rfl, by rintro w h; obtain ⟨e0, e1, -⟩ := h.cells; obtain ⟨c0, c1, c2, c3, c4, c5, c6, c7, c8⟩ := rcells _ i p.1 hpi (h.rq.rd.2.2.2.2 hcap _ rfl).2.2; go_simp⟩) s0 ?_
  go_simp
  refine wpAnyH_take (i := 9) (v := .int .u64 ((i : Int) + 1)) rfl (by kernel_rfl) (by kernel_rfl) (by kernel_rfl) (fun _ _ _ h => h) (Or.inl ⟨by kernel_rfl, by rintro w h; obtain ⟨e0, e1, -⟩ := h.cells; obtain ⟨c0, c1, c2, c3, c4, c5, c6, c7, c8⟩ := rcells _ i p.1 hpi (h.rq.rd.2.2.2.2 hcap _ rfl).2.2; go_simp⟩) s0 ?_
  go_simp
  refine wpAnyH_take (i := 10) (v := .int .u64 (i : Int)) rfl (by kernel_rfl) (by kernel_rfl) (by kernel_rfl) (fun _ _ _ h => h) (Or.inl ⟨by kernel_rfl, by rintro w h; obtain ⟨e0, e1, -⟩ := h.cells; obtain ⟨c0, c1, c2, c3, c4, c5, c6, c7, c8⟩ := rcells _ i p.1 hpi (h.rq.rd.2.2.2.2 hcap _ rfl).2.2; go_simp⟩) s0 ?_
  go_simp
  refine wpAnyH_take (i := 11) (v := .pointer (some ⟨b1, o1 + i * 9, none⟩)) rfl (by kernel_rfl) (by kernel_rfl) (by kernel_rfl) (fun _ _ _ h => h) (Or.inl ⟨by kernel_rfl, by rintro w h; obtain ⟨e0, e1, -⟩ := h.cells; obtain ⟨c0, c1, c2, c3, c4, c5, c6, c7, c8⟩ := rcells _ i p.1 hpi (h.rq.rd.2.2.2.2 hcap _ rfl).2.2; go_simp⟩) s0 ?_
  go_simp
  refine wpAnyH_take (i := 12) (v := .agg #[.int .u64 p.1.cl, .int .u64 p.1.nu, .int .i64 p.1.op.k, .string p.1.op.name, .string p.1.op.to, .slice p.1.op.ao p.1.op.an p.1.op.ac, .slice p.1.op.bo p.1.op.bn p.1.op.bc, .slice p.1.op.co p.1.op.cn p.1.op.cc, .int .i64 p.1.op.n]) rfl (by kernel_rfl) (by kernel_rfl) (by kernel_rfl) (fun _ _ _ h => h) (Or.inl ⟨by kernel_rfl, by rintro w h; obtain ⟨e0, e1, -⟩ := h.cells; obtain ⟨c0, c1, c2, c3, c4, c5, c6, c7, c8⟩ := rcells _ i p.1 hpi (h.rq.rd.2.2.2.2 hcap _ rfl).2.2; go_simp⟩) s0 ?_
  go_simp
  refine wpAnyH_all (rs := [13]) (by kernel_rfl) (by simp) (fun j hj => ?_)
  rw [List.mem_singleton] at hj
  subst hj
  refine wpOp_step rfl (fun K hK => ?_)
  refine step_row rfl rfl kq rfl rfl (by kernel_rfl) rfl (by kernel_rfl) ?_
  have hbz := below_setRow hbq (Nat.le_refl w.heap.size) (RV.cells p.1)
  have s1 := h.later hbz
  refine hK _ _ ⟨s1, ?_⟩
  clear hK K
  refine wpAnyH_take (i := 14) (v := .int .i64 0) rfl (by kernel_rfl) (by kernel_rfl) (by kernel_rfl) (fun _ _ _ h => h) (Or.inl ⟨by kernel_rfl, by intro _ _; kernel_rfl⟩) s1 ?_
  go_simp
  refine wpAnyH_done (by kernel_rfl) ?_ _
  go_wp2_with fail
  exact bodyPost_ret (results_row2 (i := 4) (j := 5) (t := 42) (cs := RV.cells p.1) rfl rfl rfl (by kernel_rfl) (by kernel_rfl) (setRow_at' kq)) rfl ⟨rfl, hbz⟩
end
end Go.Proofs.YtghjgajgjhbjpaaGreat.Msg
