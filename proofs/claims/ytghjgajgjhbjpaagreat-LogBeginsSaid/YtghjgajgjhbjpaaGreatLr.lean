/-
  may, Drop, At.
-/
import Derived.Test.YtghjgajgjhbjpaaGreatLq
namespace Go.Proofs.YtghjgajgjhbjpaaGreat.Msg
open Go.RowKit Go.Lib Go.Proofs.YtghjgajgjhbjpaaGreat.Mem Go.Proofs.YtghjgajgjhbjpaaGreat.Tlv

section
variable (g : Nat) (base : Int) (n : Nat) (lo : Option Addr) (lc : Nat) (so : Option Addr) (sc : Nat) (rs : List RV) (zs : List Int)
theorem may_ok (x : Int) (w : World) (h : LogR true g base n lo lc so sc rs zs w) (hn : n ≤ 1000000) (h0 : 0 ≤ base) (h1 : base ≤ 9000000000000000000) (hx0 : base ≤ x) (hx1 : x ≤ base + n) :
    Calls Tryz.prog 102 #[.pointer (some ⟨g, 0, none⟩), .int .u64 x] w fun e w' => e = .returned (.int .i64 0) ∧ ∃ q, w' = w.drewN q := by
  obtain ⟨c0, c1, c2, c3, -⟩ := h.cells
  have f1 : decide (x < base) = false := decide_eq_false (by omega)
  have f2 : decide (base + (n : Int) < x) = false := decide_eq_false (by omega)
  go_enter Tryz.func102, Tryz.ntmps102
  go_wp2_with fail
  refine (is_any true g base n lo lc so sc rs zs w h).mono ?_
  rintro e w1 ⟨rfl, rfl⟩
  go_wp2_with fail
  refine (end_any true g base n lo lc so sc rs zs w1 h hn h0 h1).mono ?_
  rintro e w2 ⟨rfl, q, rfl⟩
  go_wp2_with fail
  go_ret
  exact ⟨rfl, q, rfl⟩
end

theorem rd_drop {W : World} {size : Nat} {b o : Nat} {n cap : Nat} {xs : List Value} (h : Rd W size (some ⟨b, o, none⟩) n cap xs) (k : Nat) (hk : k ≤ n) : Rd W size (some ⟨b, o + k * size, none⟩) (n - k) (cap - k) (xs.drop (k * size)) := by
  obtain ⟨h1, h2, h3, -, h5⟩ := h
  refine ⟨by rw [List.length_drop, h1, Nat.sub_mul], by omega, by omega, (fun h => by cases h), fun h0 a ha => ?_⟩
  cases ha
  obtain ⟨s, l, c⟩ := h5 (by omega) _ rfl
  refine ⟨rfl, l, fun j u hu => ?_⟩
  rw [List.getElem?_drop] at hu
  have := c _ u hu
  rw [← Nat.add_assoc] at this
  exact this
theorem reqV_drop (rs : List RV) (k : Nat) : reqV (rs.drop k) = (reqV rs).drop (k * 9) := by
  induction k generalizing rs with
  | zero => simp
  | succ k ih =>
    cases rs with
    | nil => simp [reqV]
    | cons r rs =>
      rw [List.drop_succ_cons, ih, show (k + 1) * 9 = 9 + k * 9 from by omega, ← List.drop_drop]
      congr 1
theorem intV_drop (zs : List Int) (k : Nat) : intV (zs.drop k) = (intV zs).drop (k * 1) := by simp [intV]

/-- The worlds in which a log's own cells stand. -/
def AtG (g : Nat) (base : Int) (l s : Value) (W : World) : Prop := W.heap[g]? = some (.cells #[.bool true, .int .u64 base, l, s] 84)
theorem AtG.cells {g : Nat} {base : Int} {l s : Value} {W : World} (h : AtG g base l s W) : W.cell? ⟨g, 1, none⟩ = some (.int .u64 base) ∧ W.cell? ⟨g, 2, none⟩ = some l ∧ W.cell? ⟨g, 3, none⟩ = some s ∧ ∀ i, W.frozen? ⟨g, i, none⟩ = false := by
  unfold AtG at h
  simp [World.cell?, World.frozen?, h]

set_option maxRecDepth 100000 in
set_option maxHeartbeats 20000000 in
theorem drop_ok (B g : Nat) (base : Int) (n : Nat) (b1 o1 lc b2 o2 sc : Nat) (rs : List RV) (zs : List Int) (x : Int) (k : Nat) (w : World) (h : LogR true g base n (some ⟨b1, o1, none⟩) lc (some ⟨b2, o2, none⟩) sc rs zs w)
    (hn : n ≤ 1000000) (h0 : 0 ≤ base) (h1 : base ≤ 9000000000000000000) (hx : x = base + k) (hk : k ≤ n) (hkl : k < lc) (hks : k < sc) (hB : B ≤ g) (hg1 : b1 ≠ g) (hg2 : b2 ≠ g) :
    Calls Tryz.prog 38 #[.pointer (some ⟨g, 0, none⟩), .int .u64 x] w fun e w' => e = .returned (.int .i64 0) ∧ LogR true g x (n - k) (some ⟨b1, o1 + k * 9, none⟩) (lc - k) (some ⟨b2, o2 + k * 1, none⟩) (sc - k) (rs.drop k) (zs.drop k) w' ∧ Below B w w' := by
  have hmo : Tryz.prog.follows .mixedOrders = true := by kernel_rfl
  have hlc := h.rl.2.1
  have hlc2 := h.rl.2.2.1
  have hsc := h.rz.2.1
  have hsc2 := h.rz.2.2.1
  unfold maxLen at hlc2 hsc2
  have hmay := may_ok g base n _ lc _ sc rs zs x w h hn h0 h1 (by omega) (by omega)
  have hsub : IntKind.wrap .u64 (x - base) = (k : Int) := by rw [hx]; show (base + (k : Int) - base) % 18446744073709551616 = k; omega
  clear hx hlc2 hsc2
  go_enter Tryz.func38, Tryz.ntmps38
  go_wp2_with fail
  refine hmay.mono ?_
  rintro e w1 ⟨rfl, q, rfl⟩
  have h2 := h.later (below_drewN (Below.refl w.heap.size w) q)
  have hbq := below_drewN (Below.refl B w) q
  obtain ⟨c0, c1, c2, c3, -⟩ := h2.cells
  go_wp2_with fail
  have s0 : AtG g base (.slice (some ⟨b1, o1, none⟩) n lc) (.slice (some ⟨b2, o2, none⟩) n sc) (w.drewN q).drew := h2.at_
  have h3 := h2.later ((Below.refl (w.drewN q).heap.size (w.drewN q)).drew)
  have hb3 := hbq.drew
  refine wp_region_T (k := 18) (S := AtG g base (.slice (some ⟨b1, o1, none⟩) n lc) (.slice (some ⟨b2, o2, none⟩) n sc)) hmo ?_
  change wpAnyT _ _ _ _ _ _ _ _ _ (World.drew (w.drewN q))
  clear c0 c1 c2 c3 h2 hbq hmay
  generalize (w.drewN q).drew = V0 at *
  have d0 := s0.cells
  obtain ⟨d1, d2, d3, dF⟩ := d0
  have n0 : (0 : Int) ≤ (k : Int) := by omega
  have n1 : (k : Int) ≤ (n : Int) := by omega
  have n2 : (n : Int) ≤ (lc : Int) := by omega
  have n3 : (n : Int) ≤ (sc : Int) := by omega
  refine wpAnyT_take (i := 0) (v := .pointer (some ⟨g, 0, none⟩)) rfl (by kernel_rfl) (by kernel_rfl) (by kernel_rfl) (by kernel_rfl) (by decide) (by kernel_rfl) (by kernel_rfl) (fun _ _ _ h => h) (Or.inl ⟨by kernel_rfl, by intro _ _; kernel_rfl⟩) s0 ?_
  go_simp
  refine wpAnyT_take0 (i := 1) (v := .pointer (some ⟨g, 0, none⟩)) rfl (by kernel_rfl) (by kernel_rfl) (by kernel_rfl) (by decide) (fun _ _ _ h => h) (Or.inl ⟨by kernel_rfl, by intro w h; kernel_rfl⟩) (.inr s0) ?_
  go_simp
  refine wpAnyT_take0 (i := 2) (v := .pointer (some ⟨g, 0, none⟩)) rfl (by kernel_rfl) (by kernel_rfl) (by kernel_rfl) (by decide) (fun _ _ _ h => h) (Or.inl ⟨by kernel_rfl, by intro w h; kernel_rfl⟩) (.inr s0) ?_
  go_simp
  refine wpAnyT_take (i := 3) (v := .pointer (some ⟨g, 0, none⟩)) rfl (by kernel_rfl) (by kernel_rfl) (by kernel_rfl) (by kernel_rfl) (by decide) (by kernel_rfl) (by kernel_rfl) (fun _ _ _ h => h) (Or.inl ⟨by kernel_rfl, by intro _ _; kernel_rfl⟩) s0 ?_
  go_simp
  refine wpAnyT_take (i := 4) (v := .pointer (some ⟨g, 0, none⟩)) rfl (by kernel_rfl) (by kernel_rfl) (by kernel_rfl) (by kernel_rfl) (by decide) (by kernel_rfl) (by kernel_rfl) (fun _ _ _ h => h) (Or.inl ⟨by kernel_rfl, by intro _ _; kernel_rfl⟩) s0 ?_
  go_simp
  refine wpAnyT_take (i := 5) (v := .pointer (some ⟨g, 2, none⟩)) rfl (by kernel_rfl) (by kernel_rfl) (by kernel_rfl) (by kernel_rfl) (by decide) (by kernel_rfl) (by kernel_rfl) (fun _ _ _ h => h) (Or.inl ⟨by kernel_rfl, by intro _ _; kernel_rfl⟩) s0 ?_
  go_simp
  refine wpAnyT_take (i := 6) (v := .slice (some ⟨b1, o1, none⟩) n lc) rfl (by kernel_rfl) (by kernel_rfl) (by kernel_rfl) (by kernel_rfl) (by decide) (by kernel_rfl) (by kernel_rfl) (fun _ _ _ h => h) (Or.inl ⟨by kernel_rfl, by rintro w h; obtain ⟨c1, c2, c3, -⟩ := h.cells; go_simp⟩) s0 ?_
  go_simp
  refine wpAnyT_take (i := 7) (v := .int .u64 (k : Int)) rfl (by kernel_rfl) (by kernel_rfl) (by kernel_rfl) (by kernel_rfl) (by decide) (by kernel_rfl) (by kernel_rfl) (fun _ _ _ h => h) (Or.inl ⟨by kernel_rfl, by intro _ _; kernel_rfl⟩) s0 ?_
  go_simp
  refine wpAnyT_take (i := 8) (v := .slice (some ⟨b1, o1 + k * 9, none⟩) (n - k) (lc - k)) rfl (by kernel_rfl) (by kernel_rfl) (by kernel_rfl) (by kernel_rfl) (by decide) (by kernel_rfl) (by kernel_rfl) (fun _ _ _ h => h) (Or.inl ⟨by kernel_rfl, by rintro w h; obtain ⟨c1, c2, c3, -⟩ := h.cells; go_simp; omega⟩) s0 ?_
  go_simp
  refine wpAnyT_take (i := 9) (v := .pointer (some ⟨g, 0, none⟩)) rfl (by kernel_rfl) (by kernel_rfl) (by kernel_rfl) (by kernel_rfl) (by decide) (by kernel_rfl) (by kernel_rfl) (fun _ _ _ h => h) (Or.inl ⟨by kernel_rfl, by intro _ _; kernel_rfl⟩) s0 ?_
  go_simp
  refine wpAnyT_take (i := 10) (v := .pointer (some ⟨g, 0, none⟩)) rfl (by kernel_rfl) (by kernel_rfl) (by kernel_rfl) (by kernel_rfl) (by decide) (by kernel_rfl) (by kernel_rfl) (fun _ _ _ h => h) (Or.inl ⟨by kernel_rfl, by intro _ _; kernel_rfl⟩) s0 ?_
  go_simp
  refine wpAnyT_take (i := 11) (v := .pointer (some ⟨g, 3, none⟩)) rfl (by kernel_rfl) (by kernel_rfl) (by kernel_rfl) (by kernel_rfl) (by decide) (by kernel_rfl) (by kernel_rfl) (fun _ _ _ h => h) (Or.inl ⟨by kernel_rfl, by intro _ _; kernel_rfl⟩) s0 ?_
  go_simp
  refine wpAnyT_take (i := 12) (v := .slice (some ⟨b2, o2, none⟩) n sc) rfl (by kernel_rfl) (by kernel_rfl) (by kernel_rfl) (by kernel_rfl) (by decide) (by kernel_rfl) (by kernel_rfl) (fun _ _ _ h => h) (Or.inl ⟨by kernel_rfl, by rintro w h; obtain ⟨c1, c2, c3, -⟩ := h.cells; go_simp⟩) s0 ?_
  go_simp
  refine wpAnyT_take0 (i := 13) (v := .int .u64 (k : Int)) rfl (by kernel_rfl) (by kernel_rfl) (by kernel_rfl) (by decide) (fun _ _ _ h => h) (Or.inl ⟨by kernel_rfl, by intro w h; kernel_rfl⟩) (.inr s0) ?_
  go_simp
  refine wpAnyT_take0 (i := 14) (v := .slice (some ⟨b2, o2 + k, none⟩) (n - k) (sc - k)) rfl (by kernel_rfl) (by kernel_rfl) (by kernel_rfl) (by decide) (fun _ _ _ h => h) (Or.inl ⟨by kernel_rfl, by intro w h; go_simp; omega⟩) (.inr s0) ?_
  go_simp
  refine wpAnyT_take0 (i := 15) (v := .int .u64 x) rfl (by kernel_rfl) (by kernel_rfl) (by kernel_rfl) (by decide) (fun _ _ _ h => h) (Or.inl ⟨by kernel_rfl, by intro w h; kernel_rfl⟩) (.inr s0) ?_
  go_simp
  refine wpAnyT_take (i := 16) (v := .pointer (some ⟨g, 0, none⟩)) rfl (by kernel_rfl) (by kernel_rfl) (by kernel_rfl) (by kernel_rfl) (by decide) (by kernel_rfl) (by kernel_rfl) (fun _ _ _ h => h) (Or.inl ⟨by kernel_rfl, by intro _ _; kernel_rfl⟩) s0 ?_
  go_simp
  refine wpAnyT_take (i := 17) (v := .pointer (some ⟨g, 2, none⟩)) rfl (by kernel_rfl) (by kernel_rfl) (by kernel_rfl) (by kernel_rfl) (by decide) (by kernel_rfl) (by kernel_rfl) (fun _ _ _ h => h) (Or.inl ⟨by kernel_rfl, by intro _ _; kernel_rfl⟩) s0 ?_
  go_simp
  refine wpAnyT_last (by kernel_rfl) (by kernel_rfl) ?_
  refine wpAny_all (rs := [18]) (by kernel_rfl) (by simp) (fun j hj => ?_)
  rw [List.mem_singleton] at hj
  subst hj
  refine wpOp_step rfl (fun K hK => ?_)
  go_simp
  refine hK _ _ ?_
  clear hK K
  refine wpAny_all (rs := [19]) (by kernel_rfl) (by simp) (fun j hj => ?_)
  rw [List.mem_singleton] at hj
  subst hj
  refine wpOp_step rfl (fun K hK => ?_)
  go_simp
  refine hK _ _ ?_
  clear hK K
  refine wpAny_all (rs := [20]) (by kernel_rfl) (by simp) (fun j hj => ?_)
  rw [List.mem_singleton] at hj
  subst hj
  refine wpOp_step rfl (fun K hK => ?_)
  go_simp
  refine hK _ _ ?_
  clear hK K
  refine wpAny_all (rs := [21]) (by kernel_rfl) (by simp) (fun j hj => ?_)
  rw [List.mem_singleton] at hj
  subst hj
  refine wpOp_step rfl (fun K hK => ?_)
  go_simp
  refine hK _ _ ?_
  clear hK K
  refine wpAny_all (rs := [22]) (by kernel_rfl) (by simp) (fun j hj => ?_)
  rw [List.mem_singleton] at hj
  subst hj
  refine wpOp_step rfl (fun K hK => ?_)
  go_simp
  refine hK _ _ ?_
  clear hK K
  refine wpAny_all (rs := [23]) (by kernel_rfl) (by simp) (fun j hj => ?_)
  rw [List.mem_singleton] at hj
  subst hj
  refine wpOp_step rfl (fun K hK => ?_)
  go_simp
  refine hK _ _ ?_
  clear hK K
  refine wpAny_all (rs := [24]) (by kernel_rfl) (by simp) (fun j hj => ?_)
  rw [List.mem_singleton] at hj
  subst hj
  refine wpOp_step rfl (fun K hK => ?_)
  go_simp
  refine hK _ _ ?_
  clear hK K
  refine wpAny_done (by kernel_rfl) ?_ _
  have q1 := at_set (i := 1) (x := .int .u64 x) (at_set (i := 3) (x := .slice (some ⟨b2, o2 + k, none⟩) (n - k) (sc - k)) (at_set (i := 2) (x := .slice (some ⟨b1, o1 + k * 9, none⟩) (n - k) (lc - k)) s0))
  have hat := q1.trans (by kernel_rfl : _ = some (Obj.cells #[.bool true, .int .u64 x, .slice (some ⟨b1, o1 + k * 9, none⟩) (n - k) (lc - k), .slice (some ⟨b2, o2 + k, none⟩) (n - k) (sc - k)] 84))
  have r1 := rd_drop h3.rl k hk
  have r2 := rd_drop h3.rz k hk
  rw [← reqV_drop] at r1
  rw [← intV_drop, Nat.mul_one] at r2
  have hd1 : ∀ (i : Nat) (a : Addr), some (⟨b1, o1 + k * 9, none⟩ : Addr) = some a → a.block ≠ (⟨g, i, none⟩ : Addr).block := fun i a ha => by cases ha; exact hg1
  have hd2 : ∀ (i : Nat) (a : Addr), some (⟨b2, o2 + k, none⟩ : Addr) = some a → a.block ≠ (⟨g, i, none⟩ : Addr).block := fun i a ha => by cases ha; exact hg2
  have r1' := rd_set (rd_set (rd_set r1 ⟨g, 2, none⟩ (.slice (some ⟨b1, o1 + k * 9, none⟩) (n - k) (lc - k)) (hd1 2)) ⟨g, 3, none⟩ (.slice (some ⟨b2, o2 + k, none⟩) (n - k) (sc - k)) (hd1 3)) ⟨g, 1, none⟩ (.int .u64 x) (hd1 1)
  have r2' := rd_set (rd_set (rd_set r2 ⟨g, 2, none⟩ (.slice (some ⟨b1, o1 + k * 9, none⟩) (n - k) (lc - k)) (hd2 2)) ⟨g, 3, none⟩ (.slice (some ⟨b2, o2 + k, none⟩) (n - k) (sc - k)) (hd2 3)) ⟨g, 1, none⟩ (.int .u64 x) (hd2 1)
  have hB' := ((hb3.setCell (p := ⟨g, 2, none⟩) hB (.slice (some ⟨b1, o1 + k * 9, none⟩) (n - k) (lc - k))).setCell (p := ⟨g, 3, none⟩) hB (.slice (some ⟨b2, o2 + k, none⟩) (n - k) (sc - k))).setCell (p := ⟨g, 1, none⟩) hB (.int .u64 x)
  clear d1 d2 d3 dF s0 h3 hb3 r1 r2 q1
  generalize ((V0.setCell ⟨g, 2, none⟩ (.slice (some ⟨b1, o1 + k * 9, none⟩) (n - k) (lc - k))).setCell ⟨g, 3, none⟩ (.slice (some ⟨b2, o2 + k, none⟩) (n - k) (sc - k))).setCell ⟨g, 1, none⟩ (.int .u64 x) = V4 at *
  go_wp2_with fail
  go_ret
  exact ⟨rfl, ⟨hat, r1', r2'⟩, hB'⟩

/-- The worlds in which a log's own cells stand, and a request's, in its row; a result's box. -/
def AtR (g : Nat) (base : Int) (l s : Value) (b o R : Nat) (r : RV) (W : World) : Prop := AtG g base l s W ∧ W.heap[R]? = some zeroR.box ∧
  W.cell? ⟨b, o, none⟩ = some (.int .u64 r.cl) ∧ W.cell? ⟨b, o + 1, none⟩ = some (.int .u64 r.nu) ∧ W.cell? ⟨b, o + 2, none⟩ = some (.int .i64 r.op.k) ∧ W.cell? ⟨b, o + 3, none⟩ = some (.string r.op.name) ∧ W.cell? ⟨b, o + 4, none⟩ = some (.string r.op.to) ∧ W.cell? ⟨b, o + 5, none⟩ = some (.slice r.op.ao r.op.an r.op.ac) ∧ W.cell? ⟨b, o + 6, none⟩ = some (.slice r.op.bo r.op.bn r.op.bc) ∧ W.cell? ⟨b, o + 7, none⟩ = some (.slice r.op.co r.op.cn r.op.cc) ∧ W.cell? ⟨b, o + 8, none⟩ = some (.int .i64 r.op.n)
theorem cell_later {W W' : World} (hb : Below W.heap.size W W') {a : Addr} {x : Value} (h : W.cell? a = some x) : W'.cell? a = some x := (hb.cell (World.block_lt_of_cell? W _ h)).trans h
theorem AtR.step {g : Nat} {base : Int} {l s : Value} {b o R : Nat} {r : RV} {W W' : World} (h : AtR g base l s b o R r W) (hb : Below W.heap.size W W') : AtR g base l s b o R r W' := by
  obtain ⟨h0, h9, h1, h2, h3, h4, h5, h6, h7, h8, h10⟩ := h
  exact ⟨(hb.block _ (Array.getElem?_eq_some_iff.1 h0).1).trans h0, (hb.block _ (Array.getElem?_eq_some_iff.1 h9).1).trans h9, cell_later hb h1, cell_later hb h2, cell_later hb h3, cell_later hb h4, cell_later hb h5, cell_later hb h6, cell_later hb h7, cell_later hb h8, cell_later hb h10⟩
theorem results_req2 {f : Func} {i j : Nat} {tmps : Array Value} {W : World} {b : Nat} {r : RV} {v : Value} (hr : f.results = #[.cell i 42, .tmp j]) (hp : tmps.getD i undef = .pointer (some ⟨b, 0, none⟩)) (hv : tmps.getD j undef = v) (h : W.heap[b]? = some r.box) : (results f tmps).run Tryz.prog W = .ok (.tuple #[r.val, v]) W := by
  obtain ⟨c0, c1, c2, c3, c4, c5, c6, c7, c8, -⟩ := rbox_all h
  simp only [results, hr]
  have hp' : tmps[i]?.getD undef = .pointer (some ⟨b, 0, none⟩) := by simpa using hp
  have hv' : tmps[j]?.getD undef = v := by simpa using hv
  unfold RV.val RV.cells
  simp [hp', hv', asAddr]
  go_simp

set_option maxRecDepth 100000 in
set_option maxHeartbeats 20000000 in
theorem at_ok (g : Nat) (base : Int) (n : Nat) (b1 o1 lc : Nat) (so : Option Addr) (sc : Nat) (rs : List RV) (zs : List Int) (x : Int) (i : Nat) (r : RV) (c : OC) (w : World) (h : LogR true g base n (some ⟨b1, o1, none⟩) lc so sc rs zs w)
    (hn : n ≤ 1000000) (h0 : 0 ≤ base) (h1 : base ≤ 9000000000000000000) (hx : x = base + i + 1) (hi : i < n) (hr : rs[i]? = some r) (ho : OpAt w r.op c) :
    Calls Tryz.prog 39 #[.pointer (some ⟨g, 0, none⟩), .int .u64 x] w fun e w' => ∃ u : OV, e = .returned (.tuple #[RV.val ⟨r.cl, r.nu, u⟩, .int .i64 0]) ∧ CopyOf w r.op u ∧ OpAt w' u c ∧ Below w.heap.size w w' := by
  have hmo : Tryz.prog.follows .mixedOrders = true := by kernel_rfl
  have hw1 : IntKind.wrap .u64 (x - base) = (i : Int) + 1 := by rw [hx]; show (base + (i : Int) + 1 - base) % 18446744073709551616 = i + 1; omega
  have hw2 : IntKind.wrap .u64 ((i : Int) + 1 - 1) = (i : Int) := by show ((i : Int) + 1 - 1) % 18446744073709551616 = i; omega
  have hw3 : IntKind.wrap .u64 (i : Int) = (i : Int) := by show (i : Int) % 18446744073709551616 = i; omega
  have f1 : decide (x ≤ base) = false := decide_eq_false (by omega)
  have f2 : decide (base + (n : Int) < x) = false := decide_eq_false (by omega)
  have hlc := h.rl.2.1
  clear hx
  go_enter Tryz.func39, Tryz.ntmps39
  go_wp2_with fail
  generalize hg : w.alloc _ = W0
  have e : w.alloc zeroR.box = W0 := by simp only [RV.box, RV.cells, zeroR, zeroV]; exact hg
  have hbel : Below w.heap.size w W0 := by rw [← e]; exact (Below.refl _ _).alloc (Nat.le_refl _) _
  have k1 : W0.heap[w.heap.size]? = some zeroR.box := by rw [← e]; show (w.heap.push _)[w.heap.size]? = some _; exact Array.getElem?_push_size
  clear hg e
  have hL0 := h.later hbel
  refine (is_any true g base n _ lc so sc rs zs W0 hL0).mono ?_
  rintro e w1 ⟨rfl, rfl⟩
  obtain ⟨c0, c1, c2, c3, -⟩ := hL0.cells
  go_wp2_with fail
  refine (end_any true g base n _ lc so sc rs zs w1 hL0 hn h0 h1).mono ?_
  rintro e w2 ⟨rfl, q, rfl⟩
  clear c0 c1 c2 c3
  have hL1 := hL0.later (below_drewN (Below.refl w1.heap.size w1) q)
  have hbel1 := below_drewN hbel q
  have k2 : (w1.drewN q).heap[w.heap.size]? = some zeroR.box := k1
  go_wp2_with fail
  obtain ⟨d0, d1, d2, d3, d4, d5, d6, d7, d8⟩ := rcells rs i r hr (W := w1.drewN q) (b := b1) (o := o1) (fun j y hj => (hL1.rl.2.2.2.2 (by omega) _ rfl).2.2 j y hj)
  have s0 : AtR g base (.slice (some ⟨b1, o1, none⟩) n lc) (.slice so n sc) b1 (o1 + i * 9) w.heap.size r (w1.drewN q).drew := ⟨hL1.at_, k2, d0, d1, d2, d3, d4, d5, d6, d7, d8⟩
  have hb0 := hbel1.drew
  have hor := (ho.later hbel1).later ((Below.refl (w1.drewN q).heap.size (w1.drewN q)).drew)
  clear d0 d1 d2 d3 d4 d5 d6 d7 d8 k1 k2 hL1 hbel1
  refine wp_region_T (k := 14) (S := AtR g base (.slice (some ⟨b1, o1, none⟩) n lc) (.slice so n sc) b1 (o1 + i * 9) w.heap.size r) hmo ?_
  change wpAnyT _ _ _ _ _ _ _ _ _ (World.drew (w1.drewN q))
  generalize (w1.drewN q).drew = V0 at *
  have i0 : (0 : Int) ≤ (i : Int) := by omega
  have i1 : (i : Int) < (n : Int) := by omega
  refine wpAnyT_take (i := 0) (v := .pointer (some ⟨g, 0, none⟩)) rfl (by kernel_rfl) (by kernel_rfl) (by kernel_rfl) (by kernel_rfl) (by decide) (by kernel_rfl) (by kernel_rfl) (fun _ _ _ h => h) (Or.inl ⟨by kernel_rfl, by intro _ _; kernel_rfl⟩) s0 ?_
  go_simp
  refine wpAnyT_take (i := 1) (v := .pointer (some ⟨g, 0, none⟩)) rfl (by kernel_rfl) (by kernel_rfl) (by kernel_rfl) (by kernel_rfl) (by decide) (by kernel_rfl) (by kernel_rfl) (fun _ _ _ h => h) (Or.inl ⟨by kernel_rfl, by intro _ _; kernel_rfl⟩) s0 ?_
  go_simp
  refine wpAnyT_take (i := 2) (v := .pointer (some ⟨g, 2, none⟩)) rfl (by kernel_rfl) (by kernel_rfl) (by kernel_rfl) (by kernel_rfl) (by decide) (by kernel_rfl) (by kernel_rfl) (fun _ _ _ h => h) (Or.inl ⟨by kernel_rfl, by intro _ _; kernel_rfl⟩) s0 ?_
  go_simp
  refine wpAnyT_take (i := 3) (v := .slice (some ⟨b1, o1, none⟩) n lc) rfl (by kernel_rfl) (by kernel_rfl) (by kernel_rfl) (by kernel_rfl) (by decide) (by kernel_rfl) (by kernel_rfl) (fun _ _ _ h => h) (Or.inl ⟨by kernel_rfl, by rintro w h; obtain ⟨h0, -, k0, k1, k2, k3, k4, k5, k6, k7, k8⟩ := h; obtain ⟨c1, c2, c3, -⟩ := h0.cells; go_simp⟩) s0 ?_
  go_simp
  refine wpAnyT_take (i := 4) (v := .int .u64 x) rfl (by kernel_rfl) (by kernel_rfl) (by kernel_rfl) (by kernel_rfl) (by decide) (by kernel_rfl) (by kernel_rfl) (fun _ _ _ h => h) (Or.inl ⟨by kernel_rfl, by intro _ _; kernel_rfl⟩) s0 ?_
  go_simp
  refine wpAnyT_take (i := 5) (v := .pointer (some ⟨g, 0, none⟩)) rfl (by kernel_rfl) (by kernel_rfl) (by kernel_rfl) (by kernel_rfl) (by decide) (by kernel_rfl) (by kernel_rfl) (fun _ _ _ h => h) (Or.inl ⟨by kernel_rfl, by intro _ _; kernel_rfl⟩) s0 ?_
  go_simp
  refine wpAnyT_take (i := 6) (v := .pointer (some ⟨g, 0, none⟩)) rfl (by kernel_rfl) (by kernel_rfl) (by kernel_rfl) (by kernel_rfl) (by decide) (by kernel_rfl) (by kernel_rfl) (fun _ _ _ h => h) (Or.inl ⟨by kernel_rfl, by intro _ _; kernel_rfl⟩) s0 ?_
  go_simp
  refine wpAnyT_take (i := 7) (v := .pointer (some ⟨g, 1, none⟩)) rfl (by kernel_rfl) (by kernel_rfl) (by kernel_rfl) (by kernel_rfl) (by decide) (by kernel_rfl) (by kernel_rfl) (fun _ _ _ h => h) (Or.inl ⟨by kernel_rfl, by intro _ _; kernel_rfl⟩) s0 ?_
  go_simp
  refine wpAnyT_take (i := 8) (v := .int .u64 base) rfl (by kernel_rfl) (by kernel_rfl) (by kernel_rfl) (by kernel_rfl) (by decide) (by kernel_rfl) (by kernel_rfl) (fun _ _ _ h => h) (Or.inl ⟨by kernel_rfl, by rintro w h; obtain ⟨h0, -, k0, k1, k2, k3, k4, k5, k6, k7, k8⟩ := h; obtain ⟨c1, c2, c3, -⟩ := h0.cells; go_simp⟩) s0 ?_
  go_simp
  refine wpAnyT_take (i := 9) (v := .int .u64 ((i : Int) + 1)) rfl (by kernel_rfl) (by kernel_rfl) (by kernel_rfl) (by kernel_rfl) (by decide) (by kernel_rfl) (by kernel_rfl) (fun _ _ _ h => h) (Or.inl ⟨by kernel_rfl, by rintro w h; obtain ⟨h0, -, k0, k1, k2, k3, k4, k5, k6, k7, k8⟩ := h; obtain ⟨c1, c2, c3, -⟩ := h0.cells; go_simp⟩) s0 ?_
  go_simp
  refine wpAnyT_take (i := 10) (v := .int .u64 (i : Int)) rfl (by kernel_rfl) (by kernel_rfl) (by kernel_rfl) (by kernel_rfl) (by decide) (by kernel_rfl) (by kernel_rfl) (fun _ _ _ h => h) (Or.inl ⟨by kernel_rfl, by rintro w h; obtain ⟨h0, -, k0, k1, k2, k3, k4, k5, k6, k7, k8⟩ := h; obtain ⟨c1, c2, c3, -⟩ := h0.cells; go_simp⟩) s0 ?_
  go_simp
  refine wpAnyT_take (i := 11) (v := .pointer (some ⟨b1, o1 + i * 9, none⟩)) rfl (by kernel_rfl) (by kernel_rfl) (by kernel_rfl) (by kernel_rfl) (by decide) (by kernel_rfl) (by kernel_rfl) (fun _ _ _ h => h) (Or.inl ⟨by kernel_rfl, by rintro w h; obtain ⟨h0, -, k0, k1, k2, k3, k4, k5, k6, k7, k8⟩ := h; obtain ⟨c1, c2, c3, -⟩ := h0.cells; go_simp⟩) s0 ?_
  go_simp
  refine wpAnyT_take (i := 12) (v := .agg #[.int .u64 r.cl, .int .u64 r.nu, .int .i64 r.op.k, .string r.op.name, .string r.op.to, .slice r.op.ao r.op.an r.op.ac, .slice r.op.bo r.op.bn r.op.bc, .slice r.op.co r.op.cn r.op.cc, .int .i64 r.op.n]) rfl (by kernel_rfl) (by kernel_rfl) (by kernel_rfl) (by kernel_rfl) (by decide) (by kernel_rfl) (by kernel_rfl) (fun _ _ _ h => h) (Or.inl ⟨by kernel_rfl, by rintro w h; obtain ⟨h0, -, k0, k1, k2, k3, k4, k5, k6, k7, k8⟩ := h; obtain ⟨c1, c2, c3, -⟩ := h0.cells; go_simp⟩) s0 ?_
  go_simp
  refine wpAnyT_all (rs := [13]) (by kernel_rfl) (by simp) (fun j hj => ?_)
  rw [List.mem_singleton] at hj
  subst hj
  refine wpOp_step rfl (fun K hK => ?_)
  go_simp
  have hcp := copyReq_any r c V0 hor
  unfold RV.val RV.cells at hcp
  refine hcp.mono ?_
  rintro e V1 ⟨u, rfl, hcu, hou, hv1⟩
  have s1 := s0.step hv1
  simp only [RV.val, RV.cells]
  go_simp
  refine hK _ _ ⟨.inr s1, ?_⟩
  clear hK K
  have q1 := s1.2.1
  have hsz : w.heap.size < V0.heap.size := (Array.getElem?_eq_some_iff.1 s0.2.1).1
  obtain ⟨e0, e1, e2, e3, e4, e5, e6, e7, e8, e9⟩ := rbox_all q1
  clear s0 s1 hL0 i0 i1 hw1 hw2 hw3
  refine wpAnyT_last (by kernel_rfl) (by kernel_rfl) ?_
  refine wpAny_all (rs := [14]) (by kernel_rfl) (by simp) (fun j hj => ?_)
  rw [List.mem_singleton] at hj
  subst hj
  refine wpOp_step rfl (fun K hK => ?_)
  go_simp
  refine hK _ _ ?_
  clear hK K
  refine wpAny_all (rs := [15]) (by kernel_rfl) (by simp) (fun j hj => ?_)
  rw [List.mem_singleton] at hj
  subst hj
  refine wpOp_step rfl (fun K hK => ?_)
  go_simp
  refine hK _ _ ?_
  clear hK K
  refine wpAny_done (by kernel_rfl) ?_ _
  clear e0 e1 e2 e3 e4 e5 e6 e7 e8 e9
  go_wp2_with fail
  have hF : (setReq V1 w.heap.size ⟨r.cl, r.nu, u⟩).heap[w.heap.size]? = some (RV.box ⟨r.cl, r.nu, u⟩) := setReq_at q1
  have qv := hb0.size
  refine bodyPost_ret (w := setReq V1 w.heap.size ⟨r.cl, r.nu, u⟩) (results_req2 (i := 4) (j := 5) rfl rfl rfl hF) rfl ⟨u, rfl, hcu.low qv, setReq_op hou (fun a ha => by have := hcu.fa a ha; omega) (fun a ha => by have := hcu.fb a ha; omega) (fun a ha => by have := hcu.fc a ha; omega), setReq_below (hb0.trans (hv1.mono hb0.size)) (Nat.le_refl _)⟩
end Go.Proofs.YtghjgajgjhbjpaaGreat.Msg
