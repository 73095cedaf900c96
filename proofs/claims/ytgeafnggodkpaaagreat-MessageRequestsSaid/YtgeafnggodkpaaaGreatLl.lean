/-
  Requests: MayRequest, CopyRequest, RequestBytes, bytes.
-/
import Derived.Test.YtgeafnggodkpaaaGreatLk
namespace Go.Proofs.YtgeafnggodkpaaaGreat.Msg
open Go.RowKit Go.Lib Go.Proofs.YtgeafnggodkpaaaGreat.Mem Go.Proofs.YtgeafnggodkpaaaGreat.Tlv

/-- What MayOp and opBytes do with an operation: m: may it be? bl: its bytes. -/
structure OpC (v : OV) (c : OC) (m : Bool) (bl : List UInt8) : Prop where
  may : ∀ W, OpAt W v c → Calls Tryz.prog 13 #[v.val] W (GivesB m W)
  byts : m = true → ∀ W, OpAt W v c → Calls Tryz.prog 44 #[v.val] W (GivesL W bl)
  len : bl.length ≤ 4000000
/-- A request's cells. -/
structure RV where
  cl : Int
  nu : Int
  op : OV
def RV.cells (r : RV) : Array Value := #[.int .u64 r.cl, .int .u64 r.nu, .int .i64 r.op.k, .string r.op.name, .string r.op.to, .slice r.op.ao r.op.an r.op.ac, .slice r.op.bo r.op.bn r.op.bc, .slice r.op.co r.op.cn r.op.cc, .int .i64 r.op.n]
def RV.val (r : RV) : Value := .agg r.cells
def RV.box (r : RV) : Obj := .cells r.cells 43
theorem rbox_all {W : World} {B : Nat} {r : RV} (h : W.heap[B]? = some r.box) : W.cell? ⟨B, 0, none⟩ = some (.int .u64 r.cl) ∧ W.cell? ⟨B, 1, none⟩ = some (.int .u64 r.nu) ∧ W.cell? ⟨B, 2, none⟩ = some (.int .i64 r.op.k) ∧ W.cell? ⟨B, 3, none⟩ = some (.string r.op.name) ∧ W.cell? ⟨B, 4, none⟩ = some (.string r.op.to) ∧ W.cell? ⟨B, 5, none⟩ = some (.slice r.op.ao r.op.an r.op.ac) ∧ W.cell? ⟨B, 6, none⟩ = some (.slice r.op.bo r.op.bn r.op.bc) ∧ W.cell? ⟨B, 7, none⟩ = some (.slice r.op.co r.op.cn r.op.cc) ∧ W.cell? ⟨B, 8, none⟩ = some (.int .i64 r.op.n) ∧ ∀ i, W.frozen? ⟨B, i, none⟩ = false := by
  unfold RV.box RV.cells at h
  simp [World.cell?, World.frozen?, h]

set_option maxRecDepth 100000 in
theorem mayReq_any (r : RV) (c : OC) (m : Bool) (bl : List UInt8) (w : World) (ho : OpAt w r.op c) (h : OpC r.op c m bl) : Calls Tryz.prog 21 #[r.val] w (GivesB m w) := by
  have hb0 : Below w.heap.size w (w.alloc r.box) := (Below.refl _ _).alloc (Nat.le_refl _) _
  have hc := h.may _ (ho.later hb0)
  unfold RV.box RV.cells at hb0 hc
  unfold OV.val at hc
  unfold RV.val RV.cells
  go_enter Tryz.func21, Tryz.ntmps21
  go_wp2_with fail
  refine hc.mono ?_
  rintro e w1 ⟨rfl, hb1⟩
  go_wp2_with fail
  go_ret
  exact ⟨rfl, hb0.trans (hb1.mono hb0.size)⟩
/-- A request's bytes. -/
def reqL (r : RV) (bl : List UInt8) : List UInt8 := val 1 (num8 r.cl.toNat) ++ val 2 (num8 r.nu.toNat) ++ val 3 bl
theorem reqL_len (r : RV) (bl : List UInt8) : (reqL r bl).length = bl.length + 31 := by simp only [reqL, List.length_append, val_len, num8_len]; omega
def GivesQ (w : World) (l : List UInt8) (e : Ending) (w' : World) : Prop := ∃ ao cap, e = .returned (.tuple #[.slice ao l.length cap, .int .i64 0]) ∧ Rd w' 1 ao l.length cap (byV l) ∧ Below w.heap.size w w' ∧ ∀ a, ao = some a → w.heap.size ≤ a.block
theorem own_fresh {W : World} {B n size : Nat} {e : TypeId} {ao : Option Addr} {cap : Nat} {xs : List Value} (h : W.ownsRow B e size (.slice ao n cap) n xs) : ∀ a, ao = some a → B ≤ a.block := by
  intro a ha
  rcases h.2 with ⟨h1, -⟩ | ⟨g, c2, cur, h1, h2, -⟩
  · cases h1; cases ha
  · cases h1; cases ha; exact h2
/-- The worlds behind a request's box. -/
def InBoxR (w : World) (r : RV) (W : World) : Prop := W.heap[w.heap.size]? = some r.box ∧ Below w.heap.size w W
theorem InBoxR.step {w W W' : World} {r : RV} (h : InBoxR w r W) (hb : Below W.heap.size W W') : InBoxR w r W' :=
  ⟨(hb.block _ (Array.getElem?_eq_some_iff.1 h.1).1).trans h.1, h.2.trans (hb.mono h.2.size)⟩
theorem InBoxR.turn {w W W' : World} {r : RV} {B : Nat} (h : InBoxR w r W) (hb : Below B W W') (hB : w.heap.size < B) : InBoxR w r W' :=
  ⟨(hb.block _ hB).trans h.1, h.2.trans (hb.mono (by omega))⟩
theorem InBoxR.drew {w W : World} {r : RV} (h : InBoxR w r W) : InBoxR w r W.drew := ⟨h.1, h.2.drew⟩

theorem run_tup0 (a b : Value) (w : World) : (Instr.extract (.tuple #[a, b]) 0).run Tryz.prog w = .ok a w := by kernel_rfl
theorem run_tup1 (a b : Value) (w : World) : (Instr.extract (.tuple #[a, b]) 1).run Tryz.prog w = .ok b w := by kernel_rfl

set_option maxRecDepth 100000 in
set_option maxHeartbeats 20000000 in
theorem reqBytes_yes (r : RV) (c : OC) (bl : List UInt8) (w : World) (ho : OpAt w r.op c) (h : OpC r.op c true bl) (h1 : 0 ≤ r.cl) (h2 : 0 ≤ r.nu) : Calls Tryz.prog 18 #[r.val] w (GivesQ w (reqL r bl)) := by
  have hmo : Tryz.prog.follows .mixedOrders = true := by kernel_rfl
  obtain ⟨cn, hcn⟩ : ∃ n : Nat, r.cl = (n : Int) := ⟨r.cl.toNat, by omega⟩
  obtain ⟨nn, hnn⟩ : ∃ n : Nat, r.nu = (n : Int) := ⟨r.nu.toNat, by omega⟩
  have Hcn := Lib.hid hcn
  have Hnn := Lib.hid hnn
  clear hcn hnn
  have s00 : InBoxR w r (w.alloc r.box) := ⟨by show (w.heap.push _)[w.heap.size]? = some _; exact Array.getElem?_push_size, (Below.refl _ _).alloc (Nat.le_refl _) _⟩
  have hc := mayReq_any r c true bl _ (ho.later s00.2) h
  unfold RV.val at hc
  unfold RV.val
  unfold RV.box at s00 hc
  unfold RV.cells at s00 hc ⊢
  go_enter Tryz.func18, Tryz.ntmps18
  go_wp2_with fail
  refine hc.mono ?_
  rintro e w1 ⟨rfl, hb1⟩
  have s0 := (s00.step hb1).drew
  go_wp2_with fail
  refine wp_region_held (S := InBoxR w r) hmo ?_
  change wpAnyH _ _ _ _ _ _ _ _ (World.drew _)
  refine wpAnyH_take (i := 1) (v := .pointer (some ⟨w.heap.size, 0, none⟩)) rfl (by kernel_rfl) (by kernel_rfl) (by kernel_rfl) (fun _ _ _ h => h) (Or.inl ⟨by kernel_rfl, by intro _ _; kernel_rfl⟩) s0 ?_
  go_simp
  refine wpAnyH_take (i := 2) (v := .int .u64 r.cl) rfl (by kernel_rfl) (by kernel_rfl) (by kernel_rfl) (fun _ _ _ h => h) (Or.inl ⟨by kernel_rfl, by rintro w h; obtain ⟨c0, c1, c2, c3, c4, c5, c6, c7, c8, -⟩ := rbox_all h.1; go_simp⟩) s0 ?_
  go_simp
  refine wpAnyH_take (i := 4) (v := .pointer (some ⟨w.heap.size, 1, none⟩)) rfl (by kernel_rfl) (by kernel_rfl) (by kernel_rfl) (fun _ _ _ h => h) (Or.inl ⟨by kernel_rfl, by intro _ _; kernel_rfl⟩) s0 ?_
  go_simp
  refine wpAnyH_take (i := 5) (v := .int .u64 r.nu) rfl (by kernel_rfl) (by kernel_rfl) (by kernel_rfl) (fun _ _ _ h => h) (Or.inl ⟨by kernel_rfl, by rintro w h; obtain ⟨c0, c1, c2, c3, c4, c5, c6, c7, c8, -⟩ := rbox_all h.1; go_simp⟩) s0 ?_
  go_simp
  refine wpAnyH_take (i := 7) (v := .pointer (some ⟨w.heap.size, 2, none⟩)) rfl (by kernel_rfl) (by kernel_rfl) (by kernel_rfl) (fun _ _ _ h => h) (Or.inl ⟨by kernel_rfl, by intro _ _; kernel_rfl⟩) s0 ?_
  go_simp
  refine wpAnyH_take (i := 8) (v := .agg #[.int .i64 r.op.k, .string r.op.name, .string r.op.to, .slice r.op.ao r.op.an r.op.ac, .slice r.op.bo r.op.bn r.op.bc, .slice r.op.co r.op.cn r.op.cc, .int .i64 r.op.n]) rfl (by kernel_rfl) (by kernel_rfl) (by kernel_rfl) (fun _ _ _ h => h) (Or.inl ⟨by kernel_rfl, by rintro w h; obtain ⟨c0, c1, c2, c3, c4, c5, c6, c7, c8, -⟩ := rbox_all h.1; go_simp⟩) s0 ?_
  go_simp
  refine wpAnyH_all (rs := [0]) (by kernel_rfl) (by simp) (fun j hj => ?_)
  rw [List.mem_singleton] at hj
  subst hj
  refine wpOp_step rfl (fun K hK => ?_)
  go_simp
  have g0 : WrS w1.heap.size w1.heap.size ⟨[], 0⟩ (w1.drew.alloc (.cells #[.slice none 0 0, .int .i64 0] 114)) := ⟨_, by show (w1.drew.heap.push _)[w1.drew.heap.size]? = some _; exact Array.getElem?_push_size, Nat.le_refl _, World.ownsRow_nil _ _ _ _⟩
  have s1 : InBoxR w r (w1.drew.alloc (.cells #[.slice none 0 0, .int .i64 0] 114)) := s0.step ((Below.refl _ _).alloc (Nat.le_refl _) _)
  have hlt : w.heap.size < w1.heap.size := (Array.getElem?_eq_some_iff.1 s0.1).1
  refine hK _ _ ⟨s1, ?_⟩
  clear hK K
  refine wpAnyH_all (rs := [3]) (by kernel_rfl) (by simp) (fun j hj => ?_)
  rw [List.mem_singleton] at hj
  subst hj
  refine wpOp_step rfl (fun K hK => ?_)
  go_simp
  rw [Hcn.out]
  refine (wnum_any w1.heap.size w1.heap.size ⟨[], 0⟩ 1 cn _ g0 (by decide)).mono ?_
  rintro e w2 ⟨rfl, g1, hb2, -⟩
  have s2 := s1.turn hb2 hlt
  go_simp
  refine hK _ _ ⟨s2, ?_⟩
  clear hK K
  refine wpAnyH_all (rs := [6]) (by kernel_rfl) (by simp) (fun j hj => ?_)
  rw [List.mem_singleton] at hj
  subst hj
  refine wpOp_step rfl (fun K hK => ?_)
  go_simp
  rw [Hnn.out]
  refine (wnum_any w1.heap.size w1.heap.size _ 2 nn _ g1 (by simp [WS.put, val_len, num8_len])).mono ?_
  rintro e w3 ⟨rfl, g2, hb3, -⟩
  have s3 := s2.turn hb3 hlt
  go_simp
  refine hK _ _ ⟨s3, ?_⟩
  clear hK K
  refine wpAnyH_all (rs := [9]) (by kernel_rfl) (by simp) (fun j hj => ?_)
  rw [List.mem_singleton] at hj
  subst hj
  refine wpOp_step rfl (fun K hK => ?_)
  go_simp
  have hcb := h.byts rfl _ (ho.later s3.2)
  unfold OV.val at hcb
  refine hcb.mono ?_
  rintro e w4 ⟨ao, cap, rfl, hr4, hb4, fr4⟩
  have s4 := s3.step hb4
  have g3 := g2.later hb4
  go_simp
  refine hK _ _ ⟨s4, ?_⟩
  clear hK K
  refine wpAnyH_all (rs := [10]) (by kernel_rfl) (by simp) (fun j hj => ?_)
  rw [List.mem_singleton] at hj
  subst hj
  refine wpOp_step rfl (fun K hK => ?_)
  go_simp
  refine (wput_any w1.heap.size w1.heap.size _ 3 bl ao _ cap _ g3 (by simp [WS.put, val_len, num8_len]) (by have := h.len; omega) hr4 (fun h0 a ha v hv => by have := fr4 a ha; exact fresh_dis g2 hb4 this hv)).mono ?_
  rintro e w5 ⟨rfl, g4, hb5, -⟩
  have s5 := s4.turn hb5 hlt
  go_simp
  refine hK _ _ ⟨s5, ?_⟩
  clear hK K
  refine wpAnyH_all (rs := [11]) (by kernel_rfl) (by simp) (fun j hj => ?_)
  rw [List.mem_singleton] at hj
  subst hj
  refine wpOp_step rfl (fun K hK => ?_)
  go_simp
  have g5 : WrS w1.heap.size w1.heap.size ⟨reqL r bl, 0⟩ w5 := by simpa [WS.put, reqL, Hcn.out, Hnn.out] using g4
  obtain ⟨y, hy⟩ := g5
  refine (wend_ok _ _ _ _ _ hy (by rw [reqL_len]; have := h.len; omega)).mono ?_
  rintro e w6 ⟨z, rfl, hz6, hb6⟩
  obtain ⟨ao6, cap6, rfl, hr6⟩ := Rd.of_own hz6
  have s6 := s5.step hb6
  go_simp
  refine hK _ _ ⟨s6, ?_⟩
  clear hK K
  refine wpAnyH_take (i := 12) (v := .slice ao6 (reqL r bl).length cap6) rfl (by kernel_rfl) (by kernel_rfl) (by kernel_rfl) (fun _ _ _ h => h) (Or.inl ⟨by kernel_rfl, by rintro w h; obtain ⟨c0, c1, c2, c3, c4, c5, c6, c7, c8, -⟩ := rbox_all h.1; go_simp⟩) s6 ?_
  go_simp
  refine wpAnyH_take (i := 13) (v := .int .i64 0) rfl (by kernel_rfl) (by kernel_rfl) (by kernel_rfl) (fun _ _ _ h => h) (Or.inl ⟨by kernel_rfl, by rintro w h; obtain ⟨c0, c1, c2, c3, c4, c5, c6, c7, c8, -⟩ := rbox_all h.1; go_simp⟩) s6 ?_
  go_simp
  refine wpAnyH_take (i := 14) (v := .slice ao6 (reqL r bl).length cap6) rfl (by kernel_rfl) (by kernel_rfl) (by kernel_rfl) (fun _ _ _ h => h) (Or.inl ⟨by kernel_rfl, by intro _ _; kernel_rfl⟩) s6 ?_
  go_simp
  refine wpAnyH_take (i := 15) (v := .int .i64 0) rfl (by kernel_rfl) (by kernel_rfl) (by kernel_rfl) (fun _ _ _ h => h) (Or.inl ⟨by kernel_rfl, by intro _ _; kernel_rfl⟩) s6 ?_
  go_simp
  refine wpAnyH_done (by kernel_rfl) ?_ _
  go_wp2_with fail
  go_ret2
  exact ⟨ao6, cap6, rfl, hr6, s6.2, fun a ha => Nat.le_trans s5.2.size (own_fresh hz6 a ha)⟩
end Go.Proofs.YtgeafnggodkpaaaGreat.Msg
