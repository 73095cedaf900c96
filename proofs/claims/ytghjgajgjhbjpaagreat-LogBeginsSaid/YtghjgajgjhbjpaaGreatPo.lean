/-
  Cut and Drop of a log whose rows may begin anywhere.
-/
import Derived.Test.YtghjgajgjhbjpaaGreatPn
import Derived.Test.YtghjgajgjhbjpaaGreatLr
namespace Go.Proofs.YtghjgajgjhbjpaaGreat.Msg
open Go.RowKit Go.Lib Go.Proofs.YtghjgajgjhbjpaaGreat.Mem Go.Proofs.YtghjgajgjhbjpaaGreat.Tlv

/-- All blocks but g stay as they were. -/
structure OnlyG (B g : Nat) (w W : World) : Prop where
  bel : Below B w W
  oth : ∀ k : Nat, k ≠ g → W.heap[k]? = w.heap[k]?
theorem OwnO.at_end {W : World} {B : Nat} {e : TypeId} {size : Nat} {g off n cap : Nat} {xs : List Value} (h : OwnO W B e size (.slice (some ⟨g, off, none⟩) n cap) n xs) : OwnO W B e size (.slice (some ⟨g, off, none⟩) 0 0) 0 [] := by
  obtain ⟨h1, h2⟩ := h
  refine ⟨by simp, ?_⟩
  rcases h2 with ⟨h2, -⟩ | ⟨g', off', cap', cur, hv, hbg, hg, hn, hc, hs, ht⟩
  · cases h2
  · cases hv
    exact .inr ⟨g, off, 0, cur, rfl, hbg, hg, Nat.le_refl _, Nat.zero_le _, by omega, fun j hj => by omega⟩


set_option maxRecDepth 100000 in
set_option maxHeartbeats 8000000 in
theorem cut_nil_nil (B g : Nat) (base : Int) (rs : List RV) (zs : List Int) (x : Int) (w : World) (h : LogR true g base 0 none 0 none 0 rs zs w) (hn : 0 ≤ 1000000) (h0 : 0 ≤ base) (h1 : base ≤ 9000000000000000000) (hx : x = base + (0 : Nat))  (hB : B ≤ g) :
    Calls Tryz.prog 47 #[.pointer (some ⟨g, 0, none⟩), .int .u64 x] w fun e w' => e = .returned (.int .i64 0) ∧ AtG g base (.slice none 0 0) (.slice none 0 0) w' ∧ OnlyG B g w w' := by
  have hmo : Tryz.prog.follows .mixedOrders = true := by kernel_rfl
  have hmay := may_ok g base 0 _ _ _ _ rs zs x w h hn h0 h1 (by omega) (by omega)
  have hsub : IntKind.wrap .u64 (x - base) = (0 : Nat) := by rw [hx, IntKind.wrap_u64]; omega
  clear hx
  go_enter Tryz.func47, Tryz.ntmps47
  go_wp2_with fail
  refine hmay.mono ?_
  rintro e w1 ⟨rfl, q, rfl⟩
  have h2 := h.later (below_drewN (Below.refl w.heap.size w) q)
  obtain ⟨c0, c1, c2, c3, -⟩ := h2.cells
  go_upto_region 5 with fail
  have s0 : AtG g base (.slice none 0 0) (.slice none 0 0) (w.drewN q).drew := h2.at_
  have hb3 : Below B w (w.drewN q).drew := (below_drewN (Below.refl B w) q).drew
  have ho3 : ∀ j : Nat, (w.drewN q).drew.heap[j]? = w.heap[j]? := fun _ => rfl
  refine wp_region_T (k := 18) (S := AtG g base (.slice none 0 0) (.slice none 0 0)) hmo ?_
  change wpAnyT _ _ _ _ _ _ _ _ _ (World.drew (w.drewN q))
  clear c0 c1 c2 c3 h2 hmay
  generalize (w.drewN q).drew = V0 at *
  have d0 := s0.cells
  obtain ⟨d1, d2, d3, dF⟩ := d0
  refine wpAnyT_take (i := 0) (v := .pointer (some ⟨g, 0, none⟩)) rfl (by kernel_rfl) (by kernel_rfl) (by kernel_rfl) (by kernel_rfl) (by decide) (by kernel_rfl) (by kernel_rfl) (fun _ _ _ h => h) (Or.inl ⟨by kernel_rfl, by intro _ _; kernel_rfl⟩) s0 ?_
  go_simp
  refine wpAnyT_take0 (i := 1) (v := .pointer (some ⟨g, 0, none⟩)) rfl (by kernel_rfl) (by kernel_rfl) (by kernel_rfl) (by decide) (fun _ _ _ h => h) (Or.inl ⟨by kernel_rfl, by intro w h; kernel_rfl⟩) (.inr s0) ?_
  go_simp
  refine wpAnyT_take (i := 2) (v := .pointer (some ⟨g, 0, none⟩)) rfl (by kernel_rfl) (by kernel_rfl) (by kernel_rfl) (by kernel_rfl) (by decide) (by kernel_rfl) (by kernel_rfl) (fun _ _ _ h => h) (Or.inl ⟨by kernel_rfl, by intro _ _; kernel_rfl⟩) s0 ?_
  go_simp
  refine wpAnyT_take (i := 3) (v := .pointer (some ⟨g, 0, none⟩)) rfl (by kernel_rfl) (by kernel_rfl) (by kernel_rfl) (by kernel_rfl) (by decide) (by kernel_rfl) (by kernel_rfl) (fun _ _ _ h => h) (Or.inl ⟨by kernel_rfl, by intro _ _; kernel_rfl⟩) s0 ?_
  go_simp
  refine wpAnyT_take (i := 4) (v := .pointer (some ⟨g, 2, none⟩)) rfl (by kernel_rfl) (by kernel_rfl) (by kernel_rfl) (by kernel_rfl) (by decide) (by kernel_rfl) (by kernel_rfl) (fun _ _ _ h => h) (Or.inl ⟨by kernel_rfl, by intro _ _; kernel_rfl⟩) s0 ?_
  go_simp
  refine wpAnyT_take (i := 5) (v := .slice none 0 0) rfl (by kernel_rfl) (by kernel_rfl) (by kernel_rfl) (by kernel_rfl) (by decide) (by kernel_rfl) (by kernel_rfl) (fun _ _ _ h => h) (Or.inl ⟨by kernel_rfl, by rintro w h; obtain ⟨c1, c2, c3, -⟩ := h.cells; go_simp⟩) s0 ?_
  go_simp
  refine wpAnyT_take (i := 6) (v := .int .u64 0) rfl (by kernel_rfl) (by kernel_rfl) (by kernel_rfl) (by kernel_rfl) (by decide) (by kernel_rfl) (by kernel_rfl) (fun _ _ _ h => h) (Or.inl ⟨by kernel_rfl, by intro _ _; kernel_rfl⟩) s0 ?_
  go_simp
  refine wpAnyT_take (i := 7) (v := .int .u64 0) rfl (by kernel_rfl) (by kernel_rfl) (by kernel_rfl) (by kernel_rfl) (by decide) (by kernel_rfl) (by kernel_rfl) (fun _ _ _ h => h) (Or.inl ⟨by kernel_rfl, by intro _ _; kernel_rfl⟩) s0 ?_
  go_simp
  refine wpAnyT_take (i := 8) (v := .slice none 0 0) rfl (by kernel_rfl) (by kernel_rfl) (by kernel_rfl) (by kernel_rfl) (by decide) (by kernel_rfl) (by kernel_rfl) (fun _ _ _ h => h) (Or.inl ⟨by kernel_rfl, by rintro w h; obtain ⟨c1, c2, c3, -⟩ := h.cells; go_simp⟩) s0 ?_
  go_simp
  refine wpAnyT_take (i := 9) (v := .pointer (some ⟨g, 0, none⟩)) rfl (by kernel_rfl) (by kernel_rfl) (by kernel_rfl) (by kernel_rfl) (by decide) (by kernel_rfl) (by kernel_rfl) (fun _ _ _ h => h) (Or.inl ⟨by kernel_rfl, by intro _ _; kernel_rfl⟩) s0 ?_
  go_simp
  refine wpAnyT_take (i := 10) (v := .pointer (some ⟨g, 0, none⟩)) rfl (by kernel_rfl) (by kernel_rfl) (by kernel_rfl) (by kernel_rfl) (by decide) (by kernel_rfl) (by kernel_rfl) (fun _ _ _ h => h) (Or.inl ⟨by kernel_rfl, by intro _ _; kernel_rfl⟩) s0 ?_
  go_simp
  refine wpAnyT_take (i := 11) (v := .pointer (some ⟨g, 3, none⟩)) rfl (by kernel_rfl) (by kernel_rfl) (by kernel_rfl) (by kernel_rfl) (by decide) (by kernel_rfl) (by kernel_rfl) (fun _ _ _ h => h) (Or.inl ⟨by kernel_rfl, by intro _ _; kernel_rfl⟩) s0 ?_
  go_simp
  refine wpAnyT_take (i := 12) (v := .slice none 0 0) rfl (by kernel_rfl) (by kernel_rfl) (by kernel_rfl) (by kernel_rfl) (by decide) (by kernel_rfl) (by kernel_rfl) (fun _ _ _ h => h) (Or.inl ⟨by kernel_rfl, by rintro w h; obtain ⟨c1, c2, c3, -⟩ := h.cells; go_simp⟩) s0 ?_
  go_simp
  refine wpAnyT_take0 (i := 13) (v := .int .u64 0) rfl (by kernel_rfl) (by kernel_rfl) (by kernel_rfl) (by decide) (fun _ _ _ h => h) (Or.inl ⟨by kernel_rfl, by intro w h; kernel_rfl⟩) (.inr s0) ?_
  go_simp
  refine wpAnyT_take0 (i := 14) (v := .int .u64 0) rfl (by kernel_rfl) (by kernel_rfl) (by kernel_rfl) (by decide) (fun _ _ _ h => h) (Or.inl ⟨by kernel_rfl, by intro w h; kernel_rfl⟩) (.inr s0) ?_
  go_simp
  refine wpAnyT_take0 (i := 15) (v := .slice none 0 0) rfl (by kernel_rfl) (by kernel_rfl) (by kernel_rfl) (by decide) (fun _ _ _ h => h) (Or.inl ⟨by kernel_rfl, by intro w h; go_simp⟩) (.inr s0) ?_
  go_simp
  refine wpAnyT_take (i := 16) (v := .pointer (some ⟨g, 0, none⟩)) rfl (by kernel_rfl) (by kernel_rfl) (by kernel_rfl) (by kernel_rfl) (by decide) (by kernel_rfl) (by kernel_rfl) (fun _ _ _ h => h) (Or.inl ⟨by kernel_rfl, by intro _ _; kernel_rfl⟩) s0 ?_
  go_simp
  refine wpAnyT_take (i := 17) (v := .pointer (some ⟨g, 2, none⟩)) rfl (by kernel_rfl) (by kernel_rfl) (by kernel_rfl) (by kernel_rfl) (by decide) (by kernel_rfl) (by kernel_rfl) (fun _ _ _ h => h) (Or.inl ⟨by kernel_rfl, by intro _ _; kernel_rfl⟩) s0 ?_
  go_simp
  refine wpAnyT_last (by kernel_rfl) (by kernel_rfl) ?_
  refine wpAny_all (rs := [18]) (by kernel_rfl) (by simp) (fun j hj => ?_)
  rw [List.mem_singleton] at hj
  subst hj
  refine wpOp_step rfl (fun K hK => ?_)
  go_simp
  refine hK _ _ ?_
  clear hK K
  refine wpAny_all (rs := [19]) (by kernel_rfl) (by simp) (fun j hj => ?_)
  rw [List.mem_singleton] at hj
  subst hj
  refine wpOp_step rfl (fun K hK => ?_)
  go_simp
  refine hK _ _ ?_
  clear hK K
  refine wpAny_all (rs := [20]) (by kernel_rfl) (by simp) (fun j hj => ?_)
  rw [List.mem_singleton] at hj
  subst hj
  refine wpOp_step rfl (fun K hK => ?_)
  go_simp
  refine hK _ _ ?_
  clear hK K
  refine wpAny_all (rs := [21]) (by kernel_rfl) (by simp) (fun j hj => ?_)
  rw [List.mem_singleton] at hj
  subst hj
  refine wpOp_step rfl (fun K hK => ?_)
  go_simp
  refine hK _ _ ?_
  clear hK K
  refine wpAny_done (by kernel_rfl) ?_ _
  have q1 := at_set (i := 3) (x := .slice none 0 0) (at_set (i := 2) (x := .slice none 0 0) s0)
  have hat : ((V0.setCell ⟨g, 2, none⟩ (.slice none 0 0)).setCell ⟨g, 3, none⟩ (.slice none 0 0)).heap[g]? = some (Obj.cells #[.bool true, .int .u64 base, .slice none 0 0, .slice none 0 0] 84) := q1.trans (by kernel_rfl)
  have hon : OnlyG B g w ((V0.setCell ⟨g, 2, none⟩ (.slice none 0 0)).setCell ⟨g, 3, none⟩ (.slice none 0 0)) := ⟨(hb3.setCell (p := ⟨g, 2, none⟩) hB (.slice none 0 0)).setCell (p := ⟨g, 3, none⟩) hB (.slice none 0 0), fun j hj => (Below.heap_setCell _ _ _ _ hj).trans ((Below.heap_setCell _ _ _ _ hj).trans (ho3 j))⟩
  clear d1 d2 d3 dF s0 hb3 ho3 q1
  generalize (V0.setCell ⟨g, 2, none⟩ (.slice none 0 0)).setCell ⟨g, 3, none⟩ (.slice none 0 0) = V4 at *
  go_wp2_with fail
  go_ret
  exact ⟨rfl, hat, hon⟩

set_option maxRecDepth 100000 in
set_option maxHeartbeats 8000000 in
theorem cut_some_some (B g : Nat) (base : Int) (b1 o1 lc b2 o2 sc n k : Nat) (rs : List RV) (zs : List Int) (x : Int) (w : World) (h : LogR true g base n (some ⟨b1, o1, none⟩) lc (some ⟨b2, o2, none⟩) sc rs zs w) (hn : n ≤ 1000000) (h0 : 0 ≤ base) (h1 : base ≤ 9000000000000000000) (hx : x = base + (k : Nat)) (hk : k ≤ n) (hB : B ≤ g) :
    Calls Tryz.prog 47 #[.pointer (some ⟨g, 0, none⟩), .int .u64 x] w fun e w' => e = .returned (.int .i64 0) ∧ AtG g base (.slice (some ⟨b1, o1, none⟩) k k) (.slice (some ⟨b2, o2, none⟩) k k) w' ∧ OnlyG B g w w' := by
  have hmo : Tryz.prog.follows .mixedOrders = true := by kernel_rfl
  have hlc := h.rl.2.1
  have hlc2 := h.rl.2.2.1
  have hsc := h.rz.2.1
  have hsc2 := h.rz.2.2.1
  unfold maxLen at hlc2 hsc2
  have hmay := may_ok g base n _ lc _ sc rs zs x w h hn h0 h1 (by omega) (by omega)
  have hsub : IntKind.wrap .u64 (x - base) = (k : Nat) := by rw [hx, IntKind.wrap_u64]; omega
  clear hx hlc2 hsc2
  go_enter Tryz.func47, Tryz.ntmps47
  go_wp2_with fail
  refine hmay.mono ?_
  rintro e w1 ⟨rfl, q, rfl⟩
  have h2 := h.later (below_drewN (Below.refl w.heap.size w) q)
  obtain ⟨c0, c1, c2, c3, -⟩ := h2.cells
  go_upto_region 5 with fail
  have s0 : AtG g base (.slice (some ⟨b1, o1, none⟩) n lc) (.slice (some ⟨b2, o2, none⟩) n sc) (w.drewN q).drew := h2.at_
  have hb3 : Below B w (w.drewN q).drew := (below_drewN (Below.refl B w) q).drew
  have ho3 : ∀ j : Nat, (w.drewN q).drew.heap[j]? = w.heap[j]? := fun _ => rfl
  refine wp_region_T (k := 18) (S := AtG g base (.slice (some ⟨b1, o1, none⟩) n lc) (.slice (some ⟨b2, o2, none⟩) n sc)) hmo ?_
  change wpAnyT _ _ _ _ _ _ _ _ _ (World.drew (w.drewN q))
  clear c0 c1 c2 c3 h2 hmay
  generalize (w.drewN q).drew = V0 at *
  have d0 := s0.cells
  obtain ⟨d1, d2, d3, dF⟩ := d0
  have n0 : (0 : Int) ≤ (k : Int) := by omega
  have n1 : (k : Int) ≤ (n : Int) := by omega
  have n2 : (n : Int) ≤ (lc : Int) := by omega
  have n3 : (n : Int) ≤ (sc : Int) := by omega
  have n4 : (k : Int) ≤ (lc : Int) := by omega
  have n5 : (k : Int) ≤ (sc : Int) := by omega
  refine wpAnyT_take (i := 0) (v := .pointer (some ⟨g, 0, none⟩)) rfl (by kernel_rfl) (by kernel_rfl) (by kernel_rfl) (by kernel_rfl) (by decide) (by kernel_rfl) (by kernel_rfl) (fun _ _ _ h => h) (Or.inl ⟨by kernel_rfl, by intro _ _; kernel_rfl⟩) s0 ?_
  go_simp
  refine wpAnyT_take0 (i := 1) (v := .pointer (some ⟨g, 0, none⟩)) rfl (by kernel_rfl) (by kernel_rfl) (by kernel_rfl) (by decide) (fun _ _ _ h => h) (Or.inl ⟨by kernel_rfl, by intro w h; kernel_rfl⟩) (.inr s0) ?_
  go_simp
  refine wpAnyT_take (i := 2) (v := .pointer (some ⟨g, 0, none⟩)) rfl (by kernel_rfl) (by kernel_rfl) (by kernel_rfl) (by kernel_rfl) (by decide) (by kernel_rfl) (by kernel_rfl) (fun _ _ _ h => h) (Or.inl ⟨by kernel_rfl, by intro _ _; kernel_rfl⟩) s0 ?_
  go_simp
  refine wpAnyT_take (i := 3) (v := .pointer (some ⟨g, 0, none⟩)) rfl (by kernel_rfl) (by kernel_rfl) (by kernel_rfl) (by kernel_rfl) (by decide) (by kernel_rfl) (by kernel_rfl) (fun _ _ _ h => h) (Or.inl ⟨by kernel_rfl, by intro _ _; kernel_rfl⟩) s0 ?_
  go_simp
  refine wpAnyT_take (i := 4) (v := .pointer (some ⟨g, 2, none⟩)) rfl (by kernel_rfl) (by kernel_rfl) (by kernel_rfl) (by kernel_rfl) (by decide) (by kernel_rfl) (by kernel_rfl) (fun _ _ _ h => h) (Or.inl ⟨by kernel_rfl, by intro _ _; kernel_rfl⟩) s0 ?_
  go_simp
  refine wpAnyT_take (i := 5) (v := .slice (some ⟨b1, o1, none⟩) n lc) rfl (by kernel_rfl) (by kernel_rfl) (by kernel_rfl) (by kernel_rfl) (by decide) (by kernel_rfl) (by kernel_rfl) (fun _ _ _ h => h) (Or.inl ⟨by kernel_rfl, by rintro w h; obtain ⟨c1, c2, c3, -⟩ := h.cells; go_simp⟩) s0 ?_
  go_simp
  refine wpAnyT_take (i := 6) (v := .int .u64 (k : Int)) rfl (by kernel_rfl) (by kernel_rfl) (by kernel_rfl) (by kernel_rfl) (by decide) (by kernel_rfl) (by kernel_rfl) (fun _ _ _ h => h) (Or.inl ⟨by kernel_rfl, by intro _ _; kernel_rfl⟩) s0 ?_
  go_simp
  refine wpAnyT_take (i := 7) (v := .int .u64 (k : Int)) rfl (by kernel_rfl) (by kernel_rfl) (by kernel_rfl) (by kernel_rfl) (by decide) (by kernel_rfl) (by kernel_rfl) (fun _ _ _ h => h) (Or.inl ⟨by kernel_rfl, by intro _ _; kernel_rfl⟩) s0 ?_
  go_simp
  refine wpAnyT_take (i := 8) (v := .slice (some ⟨b1, o1, none⟩) k k) rfl (by kernel_rfl) (by kernel_rfl) (by kernel_rfl) (by kernel_rfl) (by decide) (by kernel_rfl) (by kernel_rfl) (fun _ _ _ h => h) (Or.inl ⟨by kernel_rfl, by rintro w h; obtain ⟨c1, c2, c3, -⟩ := h.cells; go_simp⟩) s0 ?_
  go_simp
  refine wpAnyT_take (i := 9) (v := .pointer (some ⟨g, 0, none⟩)) rfl (by kernel_rfl) (by kernel_rfl) (by kernel_rfl) (by kernel_rfl) (by decide) (by kernel_rfl) (by kernel_rfl) (fun _ _ _ h => h) (Or.inl ⟨by kernel_rfl, by intro _ _; kernel_rfl⟩) s0 ?_
  go_simp
  refine wpAnyT_take (i := 10) (v := .pointer (some ⟨g, 0, none⟩)) rfl (by kernel_rfl) (by kernel_rfl) (by kernel_rfl) (by kernel_rfl) (by decide) (by kernel_rfl) (by kernel_rfl) (fun _ _ _ h => h) (Or.inl ⟨by kernel_rfl, by intro _ _; kernel_rfl⟩) s0 ?_
  go_simp
  refine wpAnyT_take (i := 11) (v := .pointer (some ⟨g, 3, none⟩)) rfl (by kernel_rfl) (by kernel_rfl) (by kernel_rfl) (by kernel_rfl) (by decide) (by kernel_rfl) (by kernel_rfl) (fun _ _ _ h => h) (Or.inl ⟨by kernel_rfl, by intro _ _; kernel_rfl⟩) s0 ?_
  go_simp
  refine wpAnyT_take (i := 12) (v := .slice (some ⟨b2, o2, none⟩) n sc) rfl (by kernel_rfl) (by kernel_rfl) (by kernel_rfl) (by kernel_rfl) (by decide) (by kernel_rfl) (by kernel_rfl) (fun _ _ _ h => h) (Or.inl ⟨by kernel_rfl, by rintro w h; obtain ⟨c1, c2, c3, -⟩ := h.cells; go_simp⟩) s0 ?_
  go_simp
  refine wpAnyT_take0 (i := 13) (v := .int .u64 (k : Int)) rfl (by kernel_rfl) (by kernel_rfl) (by kernel_rfl) (by decide) (fun _ _ _ h => h) (Or.inl ⟨by kernel_rfl, by intro w h; kernel_rfl⟩) (.inr s0) ?_
  go_simp
  refine wpAnyT_take0 (i := 14) (v := .int .u64 (k : Int)) rfl (by kernel_rfl) (by kernel_rfl) (by kernel_rfl) (by decide) (fun _ _ _ h => h) (Or.inl ⟨by kernel_rfl, by intro w h; kernel_rfl⟩) (.inr s0) ?_
  go_simp
  refine wpAnyT_take0 (i := 15) (v := .slice (some ⟨b2, o2, none⟩) k k) rfl (by kernel_rfl) (by kernel_rfl) (by kernel_rfl) (by decide) (fun _ _ _ h => h) (Or.inl ⟨by kernel_rfl, by intro w h; go_simp⟩) (.inr s0) ?_
  go_simp
  refine wpAnyT_take (i := 16) (v := .pointer (some ⟨g, 0, none⟩)) rfl (by kernel_rfl) (by kernel_rfl) (by kernel_rfl) (by kernel_rfl) (by decide) (by kernel_rfl) (by kernel_rfl) (fun _ _ _ h => h) (Or.inl ⟨by kernel_rfl, by intro _ _; kernel_rfl⟩) s0 ?_
  go_simp
  refine wpAnyT_take (i := 17) (v := .pointer (some ⟨g, 2, none⟩)) rfl (by kernel_rfl) (by kernel_rfl) (by kernel_rfl) (by kernel_rfl) (by decide) (by kernel_rfl) (by kernel_rfl) (fun _ _ _ h => h) (Or.inl ⟨by kernel_rfl, by intro _ _; kernel_rfl⟩) s0 ?_
  go_simp
  refine wpAnyT_last (by kernel_rfl) (by kernel_rfl) ?_
  refine wpAny_all (rs := [18]) (by kernel_rfl) (by simp) (fun j hj => ?_)
  rw [List.mem_singleton] at hj
  subst hj
  refine wpOp_step rfl (fun K hK => ?_)
  go_simp
  refine hK _ _ ?_
  clear hK K
  refine wpAny_all (rs := [19]) (by kernel_rfl) (by simp) (fun j hj => ?_)
  rw [List.mem_singleton] at hj
  subst hj
  refine wpOp_step rfl (fun K hK => ?_)
  go_simp
  refine hK _ _ ?_
  clear hK K
  refine wpAny_all (rs := [20]) (by kernel_rfl) (by simp) (fun j hj => ?_)
  rw [List.mem_singleton] at hj
  subst hj
  refine wpOp_step rfl (fun K hK => ?_)
  go_simp
  refine hK _ _ ?_
  clear hK K
  refine wpAny_all (rs := [21]) (by kernel_rfl) (by simp) (fun j hj => ?_)
  rw [List.mem_singleton] at hj
  subst hj
  refine wpOp_step rfl (fun K hK => ?_)
  go_simp
  refine hK _ _ ?_
  clear hK K
  refine wpAny_done (by kernel_rfl) ?_ _
  have q1 := at_set (i := 3) (x := .slice (some ⟨b2, o2, none⟩) k k) (at_set (i := 2) (x := .slice (some ⟨b1, o1, none⟩) k k) s0)
  have hat : ((V0.setCell ⟨g, 2, none⟩ (.slice (some ⟨b1, o1, none⟩) k k)).setCell ⟨g, 3, none⟩ (.slice (some ⟨b2, o2, none⟩) k k)).heap[g]? = some (Obj.cells #[.bool true, .int .u64 base, .slice (some ⟨b1, o1, none⟩) k k, .slice (some ⟨b2, o2, none⟩) k k] 84) := q1.trans (by kernel_rfl)
  have hon : OnlyG B g w ((V0.setCell ⟨g, 2, none⟩ (.slice (some ⟨b1, o1, none⟩) k k)).setCell ⟨g, 3, none⟩ (.slice (some ⟨b2, o2, none⟩) k k)) := ⟨(hb3.setCell (p := ⟨g, 2, none⟩) hB (.slice (some ⟨b1, o1, none⟩) k k)).setCell (p := ⟨g, 3, none⟩) hB (.slice (some ⟨b2, o2, none⟩) k k), fun j hj => (Below.heap_setCell _ _ _ _ hj).trans ((Below.heap_setCell _ _ _ _ hj).trans (ho3 j))⟩
  clear d1 d2 d3 dF s0 hb3 ho3 q1
  generalize (V0.setCell ⟨g, 2, none⟩ (.slice (some ⟨b1, o1, none⟩) k k)).setCell ⟨g, 3, none⟩ (.slice (some ⟨b2, o2, none⟩) k k) = V4 at *
  go_wp2_with fail
  go_ret
  exact ⟨rfl, hat, hon⟩

set_option maxRecDepth 100000 in
set_option maxHeartbeats 8000000 in
theorem drop_nil_nil (B g : Nat) (base : Int) (rs : List RV) (zs : List Int) (x : Int) (w : World) (h : LogR true g base 0 none 0 none 0 rs zs w) (hn : 0 ≤ 1000000) (h0 : 0 ≤ base) (h1 : base ≤ 9000000000000000000) (hx : x = base + (0 : Nat))  (hB : B ≤ g) :
    Calls Tryz.prog 38 #[.pointer (some ⟨g, 0, none⟩), .int .u64 x] w fun e w' => e = .returned (.int .i64 0) ∧ AtG g x (.slice none 0 0) (.slice none 0 0) w' ∧ OnlyG B g w w' := by
  have hmo : Tryz.prog.follows .mixedOrders = true := by kernel_rfl
  have hmay := may_ok g base 0 _ _ _ _ rs zs x w h hn h0 h1 (by omega) (by omega)
  have hsub : IntKind.wrap .u64 (x - base) = (0 : Nat) := by rw [hx, IntKind.wrap_u64]; omega
  clear hx
  go_enter Tryz.func38, Tryz.ntmps38
  go_wp2_with fail
  refine hmay.mono ?_
  rintro e w1 ⟨rfl, q, rfl⟩
  have h2 := h.later (below_drewN (Below.refl w.heap.size w) q)
  obtain ⟨c0, c1, c2, c3, -⟩ := h2.cells
  go_upto_region 5 with fail
  have s0 : AtG g base (.slice none 0 0) (.slice none 0 0) (w.drewN q).drew := h2.at_
  have hb3 : Below B w (w.drewN q).drew := (below_drewN (Below.refl B w) q).drew
  have ho3 : ∀ j : Nat, (w.drewN q).drew.heap[j]? = w.heap[j]? := fun _ => rfl
  refine wp_region_T (k := 18) (S := AtG g base (.slice none 0 0) (.slice none 0 0)) hmo ?_
  change wpAnyT _ _ _ _ _ _ _ _ _ (World.drew (w.drewN q))
  clear c0 c1 c2 c3 h2 hmay
  generalize (w.drewN q).drew = V0 at *
  have d0 := s0.cells
  obtain ⟨d1, d2, d3, dF⟩ := d0
  refine wpAnyT_take (i := 0) (v := .pointer (some ⟨g, 0, none⟩)) rfl (by kernel_rfl) (by kernel_rfl) (by kernel_rfl) (by kernel_rfl) (by decide) (by kernel_rfl) (by kernel_rfl) (fun _ _ _ h => h) (Or.inl ⟨by kernel_rfl, by intro _ _; kernel_rfl⟩) s0 ?_
  go_simp
  refine wpAnyT_take0 (i := 1) (v := .pointer (some ⟨g, 0, none⟩)) rfl (by kernel_rfl) (by kernel_rfl) (by kernel_rfl) (by decide) (fun _ _ _ h => h) (Or.inl ⟨by kernel_rfl, by intro w h; kernel_rfl⟩) (.inr s0) ?_
  go_simp
  refine wpAnyT_take0 (i := 2) (v := .pointer (some ⟨g, 0, none⟩)) rfl (by kernel_rfl) (by kernel_rfl) (by kernel_rfl) (by decide) (fun _ _ _ h => h) (Or.inl ⟨by kernel_rfl, by intro w h; kernel_rfl⟩) (.inr s0) ?_
  go_simp
  refine wpAnyT_take (i := 3) (v := .pointer (some ⟨g, 0, none⟩)) rfl (by kernel_rfl) (by kernel_rfl) (by kernel_rfl) (by kernel_rfl) (by decide) (by kernel_rfl) (by kernel_rfl) (fun _ _ _ h => h) (Or.inl ⟨by kernel_rfl, by intro _ _; kernel_rfl⟩) s0 ?_
  go_simp
  refine wpAnyT_take (i := 4) (v := .pointer (some ⟨g, 0, none⟩)) rfl (by kernel_rfl) (by kernel_rfl) (by kernel_rfl) (by kernel_rfl) (by decide) (by kernel_rfl) (by kernel_rfl) (fun _ _ _ h => h) (Or.inl ⟨by kernel_rfl, by intro _ _; kernel_rfl⟩) s0 ?_
  go_simp
  refine wpAnyT_take (i := 5) (v := .pointer (some ⟨g, 2, none⟩)) rfl (by kernel_rfl) (by kernel_rfl) (by kernel_rfl) (by kernel_rfl) (by decide) (by kernel_rfl) (by kernel_rfl) (fun _ _ _ h => h) (Or.inl ⟨by kernel_rfl, by intro _ _; kernel_rfl⟩) s0 ?_
  go_simp
  refine wpAnyT_take (i := 6) (v := .slice none 0 0) rfl (by kernel_rfl) (by kernel_rfl) (by kernel_rfl) (by kernel_rfl) (by decide) (by kernel_rfl) (by kernel_rfl) (fun _ _ _ h => h) (Or.inl ⟨by kernel_rfl, by rintro w h; obtain ⟨c1, c2, c3, -⟩ := h.cells; go_simp⟩) s0 ?_
  go_simp
  refine wpAnyT_take (i := 7) (v := .int .u64 0) rfl (by kernel_rfl) (by kernel_rfl) (by kernel_rfl) (by kernel_rfl) (by decide) (by kernel_rfl) (by kernel_rfl) (fun _ _ _ h => h) (Or.inl ⟨by kernel_rfl, by intro _ _; kernel_rfl⟩) s0 ?_
  go_simp
  refine wpAnyT_take (i := 8) (v := .slice none 0 0) rfl (by kernel_rfl) (by kernel_rfl) (by kernel_rfl) (by kernel_rfl) (by decide) (by kernel_rfl) (by kernel_rfl) (fun _ _ _ h => h) (Or.inl ⟨by kernel_rfl, by rintro w h; obtain ⟨c1, c2, c3, -⟩ := h.cells; go_simp⟩) s0 ?_
  go_simp
  refine wpAnyT_take (i := 9) (v := .pointer (some ⟨g, 0, none⟩)) rfl (by kernel_rfl) (by kernel_rfl) (by kernel_rfl) (by kernel_rfl) (by decide) (by kernel_rfl) (by kernel_rfl) (fun _ _ _ h => h) (Or.inl ⟨by kernel_rfl, by intro _ _; kernel_rfl⟩) s0 ?_
  go_simp
  refine wpAnyT_take (i := 10) (v := .pointer (some ⟨g, 0, none⟩)) rfl (by kernel_rfl) (by kernel_rfl) (by kernel_rfl) (by kernel_rfl) (by decide) (by kernel_rfl) (by kernel_rfl) (fun _ _ _ h => h) (Or.inl ⟨by kernel_rfl, by intro _ _; kernel_rfl⟩) s0 ?_
  go_simp
  refine wpAnyT_take (i := 11) (v := .pointer (some ⟨g, 3, none⟩)) rfl (by kernel_rfl) (by kernel_rfl) (by kernel_rfl) (by kernel_rfl) (by decide) (by kernel_rfl) (by kernel_rfl) (fun _ _ _ h => h) (Or.inl ⟨by kernel_rfl, by intro _ _; kernel_rfl⟩) s0 ?_
  go_simp
  refine wpAnyT_take (i := 12) (v := .slice none 0 0) rfl (by kernel_rfl) (by kernel_rfl) (by kernel_rfl) (by kernel_rfl) (by decide) (by kernel_rfl) (by kernel_rfl) (fun _ _ _ h => h) (Or.inl ⟨by kernel_rfl, by rintro w h; obtain ⟨c1, c2, c3, -⟩ := h.cells; go_simp⟩) s0 ?_
  go_simp
  refine wpAnyT_take0 (i := 13) (v := .int .u64 0) rfl (by kernel_rfl) (by kernel_rfl) (by kernel_rfl) (by decide) (fun _ _ _ h => h) (Or.inl ⟨by kernel_rfl, by intro w h; kernel_rfl⟩) (.inr s0) ?_
  go_simp
  refine wpAnyT_take0 (i := 14) (v := .slice none 0 0) rfl (by kernel_rfl) (by kernel_rfl) (by kernel_rfl) (by decide) (fun _ _ _ h => h) (Or.inl ⟨by kernel_rfl, by intro w h; go_simp⟩) (.inr s0) ?_
  go_simp
  refine wpAnyT_take0 (i := 15) (v := .int .u64 x) rfl (by kernel_rfl) (by kernel_rfl) (by kernel_rfl) (by decide) (fun _ _ _ h => h) (Or.inl ⟨by kernel_rfl, by intro w h; kernel_rfl⟩) (.inr s0) ?_
  go_simp
  refine wpAnyT_take (i := 16) (v := .pointer (some ⟨g, 0, none⟩)) rfl (by kernel_rfl) (by kernel_rfl) (by kernel_rfl) (by kernel_rfl) (by decide) (by kernel_rfl) (by kernel_rfl) (fun _ _ _ h => h) (Or.inl ⟨by kernel_rfl, by intro _ _; kernel_rfl⟩) s0 ?_
  go_simp
  refine wpAnyT_take (i := 17) (v := .pointer (some ⟨g, 2, none⟩)) rfl (by kernel_rfl) (by kernel_rfl) (by kernel_rfl) (by kernel_rfl) (by decide) (by kernel_rfl) (by kernel_rfl) (fun _ _ _ h => h) (Or.inl ⟨by kernel_rfl, by intro _ _; kernel_rfl⟩) s0 ?_
  go_simp
  refine wpAnyT_last (by kernel_rfl) (by kernel_rfl) ?_
  refine wpAny_all (rs := [18]) (by kernel_rfl) (by simp) (fun j hj => ?_)
  rw [List.mem_singleton] at hj
  subst hj
  refine wpOp_step rfl (fun K hK => ?_)
  go_simp
  refine hK _ _ ?_
  clear hK K
  refine wpAny_all (rs := [19]) (by kernel_rfl) (by simp) (fun j hj => ?_)
  rw [List.mem_singleton] at hj
  subst hj
  refine wpOp_step rfl (fun K hK => ?_)
  go_simp
  refine hK _ _ ?_
  clear hK K
  refine wpAny_all (rs := [20]) (by kernel_rfl) (by simp) (fun j hj => ?_)
  rw [List.mem_singleton] at hj
  subst hj
  refine wpOp_step rfl (fun K hK => ?_)
  go_simp
  refine hK _ _ ?_
  clear hK K
  refine wpAny_all (rs := [21]) (by kernel_rfl) (by simp) (fun j hj => ?_)
  rw [List.mem_singleton] at hj
  subst hj
  refine wpOp_step rfl (fun K hK => ?_)
  go_simp
  refine hK _ _ ?_
  clear hK K
  refine wpAny_all (rs := [22]) (by kernel_rfl) (by simp) (fun j hj => ?_)
  rw [List.mem_singleton] at hj
  subst hj
  refine wpOp_step rfl (fun K hK => ?_)
  go_simp
  refine hK _ _ ?_
  clear hK K
  refine wpAny_all (rs := [23]) (by kernel_rfl) (by simp) (fun j hj => ?_)
  rw [List.mem_singleton] at hj
  subst hj
  refine wpOp_step rfl (fun K hK => ?_)
  go_simp
  refine hK _ _ ?_
  clear hK K
  refine wpAny_all (rs := [24]) (by kernel_rfl) (by simp) (fun j hj => ?_)
  rw [List.mem_singleton] at hj
  subst hj
  refine wpOp_step rfl (fun K hK => ?_)
  go_simp
  refine hK _ _ ?_
  clear hK K
  refine wpAny_done (by kernel_rfl) ?_ _
  have q1 := at_set (i := 1) (x := .int .u64 x) (at_set (i := 3) (x := .slice none 0 0) (at_set (i := 2) (x := .slice none 0 0) s0))
  have hat : (((V0.setCell ⟨g, 2, none⟩ (.slice none 0 0)).setCell ⟨g, 3, none⟩ (.slice none 0 0)).setCell ⟨g, 1, none⟩ (.int .u64 x)).heap[g]? = some (Obj.cells #[.bool true, .int .u64 x, .slice none 0 0, .slice none 0 0] 84) := q1.trans (by kernel_rfl)
  have hon : OnlyG B g w (((V0.setCell ⟨g, 2, none⟩ (.slice none 0 0)).setCell ⟨g, 3, none⟩ (.slice none 0 0)).setCell ⟨g, 1, none⟩ (.int .u64 x)) := ⟨((hb3.setCell (p := ⟨g, 2, none⟩) hB (.slice none 0 0)).setCell (p := ⟨g, 3, none⟩) hB (.slice none 0 0)).setCell (p := ⟨g, 1, none⟩) hB (.int .u64 x), fun j hj => (Below.heap_setCell _ _ _ _ hj).trans ((Below.heap_setCell _ _ _ _ hj).trans ((Below.heap_setCell _ _ _ _ hj).trans (ho3 j)))⟩
  clear d1 d2 d3 dF s0 hb3 ho3 q1
  generalize ((V0.setCell ⟨g, 2, none⟩ (.slice none 0 0)).setCell ⟨g, 3, none⟩ (.slice none 0 0)).setCell ⟨g, 1, none⟩ (.int .u64 x) = V4 at *
  go_wp2_with fail
  go_ret
  exact ⟨rfl, hat, hon⟩

set_option maxRecDepth 100000 in
set_option maxHeartbeats 8000000 in
theorem drop_lt_lt (B g : Nat) (base : Int) (b1 o1 lc b2 o2 sc n k : Nat) (rs : List RV) (zs : List Int) (x : Int) (w : World) (h : LogR true g base n (some ⟨b1, o1, none⟩) lc (some ⟨b2, o2, none⟩) sc rs zs w) (hn : n ≤ 1000000) (h0 : 0 ≤ base) (h1 : base ≤ 9000000000000000000) (hx : x = base + (k : Nat)) (hk : k ≤ n) (hkl : k < lc) (hks : k < sc) (hB : B ≤ g) :
    Calls Tryz.prog 38 #[.pointer (some ⟨g, 0, none⟩), .int .u64 x] w fun e w' => e = .returned (.int .i64 0) ∧ AtG g x (.slice (some ⟨b1, o1 + k * 9, none⟩) (n - k) (lc - k)) (.slice (some ⟨b2, o2 + k, none⟩) (n - k) (sc - k)) w' ∧ OnlyG B g w w' := by
  have hmo : Tryz.prog.follows .mixedOrders = true := by kernel_rfl
  have hlc := h.rl.2.1
  have hlc2 := h.rl.2.2.1
  have hsc := h.rz.2.1
  have hsc2 := h.rz.2.2.1
  unfold maxLen at hlc2 hsc2
  have hmay := may_ok g base n _ lc _ sc rs zs x w h hn h0 h1 (by omega) (by omega)
  have hsub : IntKind.wrap .u64 (x - base) = (k : Nat) := by rw [hx, IntKind.wrap_u64]; omega
  clear hx hlc2 hsc2
  go_enter Tryz.func38, Tryz.ntmps38
  go_wp2_with fail
  refine hmay.mono ?_
  rintro e w1 ⟨rfl, q, rfl⟩
  have h2 := h.later (below_drewN (Below.refl w.heap.size w) q)
  obtain ⟨c0, c1, c2, c3, -⟩ := h2.cells
  go_upto_region 5 with fail
  have s0 : AtG g base (.slice (some ⟨b1, o1, none⟩) n lc) (.slice (some ⟨b2, o2, none⟩) n sc) (w.drewN q).drew := h2.at_
  have hb3 : Below B w (w.drewN q).drew := (below_drewN (Below.refl B w) q).drew
  have ho3 : ∀ j : Nat, (w.drewN q).drew.heap[j]? = w.heap[j]? := fun _ => rfl
  refine wp_region_T (k := 18) (S := AtG g base (.slice (some ⟨b1, o1, none⟩) n lc) (.slice (some ⟨b2, o2, none⟩) n sc)) hmo ?_
  change wpAnyT _ _ _ _ _ _ _ _ _ (World.drew (w.drewN q))
  clear c0 c1 c2 c3 h2 hmay
  generalize (w.drewN q).drew = V0 at *
  have d0 := s0.cells
  obtain ⟨d1, d2, d3, dF⟩ := d0
  have n0 : (0 : Int) ≤ (k : Int) := by omega
  have n1 : (k : Int) ≤ (n : Int) := by omega
  have n2 : (n : Int) ≤ (lc : Int) := by omega
  have n3 : (n : Int) ≤ (sc : Int) := by omega
  have n4 : (k : Int) ≤ (lc : Int) := by omega
  have n5 : (k : Int) ≤ (sc : Int) := by omega
  refine wpAnyT_take (i := 0) (v := .pointer (some ⟨g, 0, none⟩)) rfl (by kernel_rfl) (by kernel_rfl) (by kernel_rfl) (by kernel_rfl) (by decide) (by kernel_rfl) (by kernel_rfl) (fun _ _ _ h => h) (Or.inl ⟨by kernel_rfl, by intro _ _; kernel_rfl⟩) s0 ?_
  go_simp
  refine wpAnyT_take0 (i := 1) (v := .pointer (some ⟨g, 0, none⟩)) rfl (by kernel_rfl) (by kernel_rfl) (by kernel_rfl) (by decide) (fun _ _ _ h => h) (Or.inl ⟨by kernel_rfl, by intro w h; kernel_rfl⟩) (.inr s0) ?_
  go_simp
  refine wpAnyT_take0 (i := 2) (v := .pointer (some ⟨g, 0, none⟩)) rfl (by kernel_rfl) (by kernel_rfl) (by kernel_rfl) (by decide) (fun _ _ _ h => h) (Or.inl ⟨by kernel_rfl, by intro w h; kernel_rfl⟩) (.inr s0) ?_
  go_simp
  refine wpAnyT_take (i := 3) (v := .pointer (some ⟨g, 0, none⟩)) rfl (by kernel_rfl) (by kernel_rfl) (by kernel_rfl) (by kernel_rfl) (by decide) (by kernel_rfl) (by kernel_rfl) (fun _ _ _ h => h) (Or.inl ⟨by kernel_rfl, by intro _ _; kernel_rfl⟩) s0 ?_
  go_simp
  refine wpAnyT_take (i := 4) (v := .pointer (some ⟨g, 0, none⟩)) rfl (by kernel_rfl) (by kernel_rfl) (by kernel_rfl) (by kernel_rfl) (by decide) (by kernel_rfl) (by kernel_rfl) (fun _ _ _ h => h) (Or.inl ⟨by kernel_rfl, by intro _ _; kernel_rfl⟩) s0 ?_
  go_simp
  refine wpAnyT_take (i := 5) (v := .pointer (some ⟨g, 2, none⟩)) rfl (by kernel_rfl) (by kernel_rfl) (by kernel_rfl) (by kernel_rfl) (by decide) (by kernel_rfl) (by kernel_rfl) (fun _ _ _ h => h) (Or.inl ⟨by kernel_rfl, by intro _ _; kernel_rfl⟩) s0 ?_
  go_simp
  refine wpAnyT_take (i := 6) (v := .slice (some ⟨b1, o1, none⟩) n lc) rfl (by kernel_rfl) (by kernel_rfl) (by kernel_rfl) (by kernel_rfl) (by decide) (by kernel_rfl) (by kernel_rfl) (fun _ _ _ h => h) (Or.inl ⟨by kernel_rfl, by rintro w h; obtain ⟨c1, c2, c3, -⟩ := h.cells; go_simp⟩) s0 ?_
  go_simp
  refine wpAnyT_take (i := 7) (v := .int .u64 (k : Int)) rfl (by kernel_rfl) (by kernel_rfl) (by kernel_rfl) (by kernel_rfl) (by decide) (by kernel_rfl) (by kernel_rfl) (fun _ _ _ h => h) (Or.inl ⟨by kernel_rfl, by intro _ _; kernel_rfl⟩) s0 ?_
  go_simp
  refine wpAnyT_take (i := 8) (v := .slice (some ⟨b1, o1 + k * 9, none⟩) (n - k) (lc - k)) rfl (by kernel_rfl) (by kernel_rfl) (by kernel_rfl) (by kernel_rfl) (by decide) (by kernel_rfl) (by kernel_rfl) (fun _ _ _ h => h) (Or.inl ⟨by kernel_rfl, by rintro w h; obtain ⟨c1, c2, c3, -⟩ := h.cells; go_simp; omega⟩) s0 ?_
  go_simp
  refine wpAnyT_take (i := 9) (v := .pointer (some ⟨g, 0, none⟩)) rfl (by kernel_rfl) (by kernel_rfl) (by kernel_rfl) (by kernel_rfl) (by decide) (by kernel_rfl) (by kernel_rfl) (fun _ _ _ h => h) (Or.inl ⟨by kernel_rfl, by intro _ _; kernel_rfl⟩) s0 ?_
  go_simp
  refine wpAnyT_take (i := 10) (v := .pointer (some ⟨g, 0, none⟩)) rfl (by kernel_rfl) (by kernel_rfl) (by kernel_rfl) (by kernel_rfl) (by decide) (by kernel_rfl) (by kernel_rfl) (fun _ _ _ h => h) (Or.inl ⟨by kernel_rfl, by intro _ _; kernel_rfl⟩) s0 ?_
  go_simp
  refine wpAnyT_take (i := 11) (v := .pointer (some ⟨g, 3, none⟩)) rfl (by kernel_rfl) (by kernel_rfl) (by kernel_rfl) (by kernel_rfl) (by decide) (by kernel_rfl) (by kernel_rfl) (fun _ _ _ h => h) (Or.inl ⟨by kernel_rfl, by intro _ _; kernel_rfl⟩) s0 ?_
  go_simp
  refine wpAnyT_take (i := 12) (v := .slice (some ⟨b2, o2, none⟩) n sc) rfl (by kernel_rfl) (by kernel_rfl) (by kernel_rfl) (by kernel_rfl) (by decide) (by kernel_rfl) (by kernel_rfl) (fun _ _ _ h => h) (Or.inl ⟨by kernel_rfl, by rintro w h; obtain ⟨c1, c2, c3, -⟩ := h.cells; go_simp⟩) s0 ?_
  go_simp
  refine wpAnyT_take0 (i := 13) (v := .int .u64 (k : Int)) rfl (by kernel_rfl) (by kernel_rfl) (by kernel_rfl) (by decide) (fun _ _ _ h => h) (Or.inl ⟨by kernel_rfl, by intro w h; kernel_rfl⟩) (.inr s0) ?_
  go_simp
  refine wpAnyT_take0 (i := 14) (v := .slice (some ⟨b2, o2 + k, none⟩) (n - k) (sc - k)) rfl (by kernel_rfl) (by kernel_rfl) (by kernel_rfl) (by decide) (fun _ _ _ h => h) (Or.inl ⟨by kernel_rfl, by intro w h; go_simp; omega⟩) (.inr s0) ?_
  go_simp
  refine wpAnyT_take0 (i := 15) (v := .int .u64 x) rfl (by kernel_rfl) (by kernel_rfl) (by kernel_rfl) (by decide) (fun _ _ _ h => h) (Or.inl ⟨by kernel_rfl, by intro w h; kernel_rfl⟩) (.inr s0) ?_
  go_simp
  refine wpAnyT_take (i := 16) (v := .pointer (some ⟨g, 0, none⟩)) rfl (by kernel_rfl) (by kernel_rfl) (by kernel_rfl) (by kernel_rfl) (by decide) (by kernel_rfl) (by kernel_rfl) (fun _ _ _ h => h) (Or.inl ⟨by kernel_rfl, by intro _ _; kernel_rfl⟩) s0 ?_
  go_simp
  refine wpAnyT_take (i := 17) (v := .pointer (some ⟨g, 2, none⟩)) rfl (by kernel_rfl) (by kernel_rfl) (by kernel_rfl) (by kernel_rfl) (by decide) (by kernel_rfl) (by kernel_rfl) (fun _ _ _ h => h) (Or.inl ⟨by kernel_rfl, by intro _ _; kernel_rfl⟩) s0 ?_
  go_simp
  refine wpAnyT_last (by kernel_rfl) (by kernel_rfl) ?_
  refine wpAny_all (rs := [18]) (by kernel_rfl) (by simp) (fun j hj => ?_)
  rw [List.mem_singleton] at hj
  subst hj
  refine wpOp_step rfl (fun K hK => ?_)
  go_simp
  refine hK _ _ ?_
  clear hK K
  refine wpAny_all (rs := [19]) (by kernel_rfl) (by simp) (fun j hj => ?_)
  rw [List.mem_singleton] at hj
  subst hj
  refine wpOp_step rfl (fun K hK => ?_)
  go_simp
  refine hK _ _ ?_
  clear hK K
  refine wpAny_all (rs := [20]) (by kernel_rfl) (by simp) (fun j hj => ?_)
  rw [List.mem_singleton] at hj
  subst hj
  refine wpOp_step rfl (fun K hK => ?_)
  go_simp
  refine hK _ _ ?_
  clear hK K
  refine wpAny_all (rs := [21]) (by kernel_rfl) (by simp) (fun j hj => ?_)
  rw [List.mem_singleton] at hj
  subst hj
  refine wpOp_step rfl (fun K hK => ?_)
  go_simp
  refine hK _ _ ?_
  clear hK K
  refine wpAny_all (rs := [22]) (by kernel_rfl) (by simp) (fun j hj => ?_)
  rw [List.mem_singleton] at hj
  subst hj
  refine wpOp_step rfl (fun K hK => ?_)
  go_simp
  refine hK _ _ ?_
  clear hK K
  refine wpAny_all (rs := [23]) (by kernel_rfl) (by simp) (fun j hj => ?_)
  rw [List.mem_singleton] at hj
  subst hj
  refine wpOp_step rfl (fun K hK => ?_)
  go_simp
  refine hK _ _ ?_
  clear hK K
  refine wpAny_all (rs := [24]) (by kernel_rfl) (by simp) (fun j hj => ?_)
  rw [List.mem_singleton] at hj
  subst hj
  refine wpOp_step rfl (fun K hK => ?_)
  go_simp
  refine hK _ _ ?_
  clear hK K
  refine wpAny_done (by kernel_rfl) ?_ _
  have q1 := at_set (i := 1) (x := .int .u64 x) (at_set (i := 3) (x := .slice (some ⟨b2, o2 + k, none⟩) (n - k) (sc - k)) (at_set (i := 2) (x := .slice (some ⟨b1, o1 + k * 9, none⟩) (n - k) (lc - k)) s0))
  have hat : (((V0.setCell ⟨g, 2, none⟩ (.slice (some ⟨b1, o1 + k * 9, none⟩) (n - k) (lc - k))).setCell ⟨g, 3, none⟩ (.slice (some ⟨b2, o2 + k, none⟩) (n - k) (sc - k))).setCell ⟨g, 1, none⟩ (.int .u64 x)).heap[g]? = some (Obj.cells #[.bool true, .int .u64 x, .slice (some ⟨b1, o1 + k * 9, none⟩) (n - k) (lc - k), .slice (some ⟨b2, o2 + k, none⟩) (n - k) (sc - k)] 84) := q1.trans (by kernel_rfl)
  have hon : OnlyG B g w (((V0.setCell ⟨g, 2, none⟩ (.slice (some ⟨b1, o1 + k * 9, none⟩) (n - k) (lc - k))).setCell ⟨g, 3, none⟩ (.slice (some ⟨b2, o2 + k, none⟩) (n - k) (sc - k))).setCell ⟨g, 1, none⟩ (.int .u64 x)) := ⟨((hb3.setCell (p := ⟨g, 2, none⟩) hB (.slice (some ⟨b1, o1 + k * 9, none⟩) (n - k) (lc - k))).setCell (p := ⟨g, 3, none⟩) hB (.slice (some ⟨b2, o2 + k, none⟩) (n - k) (sc - k))).setCell (p := ⟨g, 1, none⟩) hB (.int .u64 x), fun j hj => (Below.heap_setCell _ _ _ _ hj).trans ((Below.heap_setCell _ _ _ _ hj).trans ((Below.heap_setCell _ _ _ _ hj).trans (ho3 j)))⟩
  clear d1 d2 d3 dF s0 hb3 ho3 q1
  generalize ((V0.setCell ⟨g, 2, none⟩ (.slice (some ⟨b1, o1 + k * 9, none⟩) (n - k) (lc - k))).setCell ⟨g, 3, none⟩ (.slice (some ⟨b2, o2 + k, none⟩) (n - k) (sc - k))).setCell ⟨g, 1, none⟩ (.int .u64 x) = V4 at *
  go_wp2_with fail
  go_ret
  exact ⟨rfl, hat, hon⟩

set_option maxRecDepth 100000 in
set_option maxHeartbeats 8000000 in
theorem drop_lt_eq (B g : Nat) (base : Int) (b1 o1 lc b2 o2 k : Nat) (rs : List RV) (zs : List Int) (x : Int) (w : World) (h : LogR true g base k (some ⟨b1, o1, none⟩) lc (some ⟨b2, o2, none⟩) k rs zs w) (hn : k ≤ 1000000) (h0 : 0 ≤ base) (h1 : base ≤ 9000000000000000000) (hx : x = base + (k : Nat))  (hkl : k < lc) (hB : B ≤ g) :
    Calls Tryz.prog 38 #[.pointer (some ⟨g, 0, none⟩), .int .u64 x] w fun e w' => e = .returned (.int .i64 0) ∧ AtG g x (.slice (some ⟨b1, o1 + k * 9, none⟩) 0 (lc - k)) (.slice (some ⟨b2, o2, none⟩) 0 0) w' ∧ OnlyG B g w w' := by
  have hmo : Tryz.prog.follows .mixedOrders = true := by kernel_rfl
  have hlc := h.rl.2.1
  have hlc2 := h.rl.2.2.1
  have hsc := h.rz.2.1
  have hsc2 := h.rz.2.2.1
  unfold maxLen at hlc2 hsc2
  have hmay := may_ok g base k _ lc _ k rs zs x w h hn h0 h1 (by omega) (by omega)
  have hsub : IntKind.wrap .u64 (x - base) = (k : Nat) := by rw [hx, IntKind.wrap_u64]; omega
  clear hx hlc2 hsc2
  go_enter Tryz.func38, Tryz.ntmps38
  go_wp2_with fail
  refine hmay.mono ?_
  rintro e w1 ⟨rfl, q, rfl⟩
  have h2 := h.later (below_drewN (Below.refl w.heap.size w) q)
  obtain ⟨c0, c1, c2, c3, -⟩ := h2.cells
  go_upto_region 5 with fail
  have s0 : AtG g base (.slice (some ⟨b1, o1, none⟩) k lc) (.slice (some ⟨b2, o2, none⟩) k k) (w.drewN q).drew := h2.at_
  have hb3 : Below B w (w.drewN q).drew := (below_drewN (Below.refl B w) q).drew
  have ho3 : ∀ j : Nat, (w.drewN q).drew.heap[j]? = w.heap[j]? := fun _ => rfl
  refine wp_region_T (k := 18) (S := AtG g base (.slice (some ⟨b1, o1, none⟩) k lc) (.slice (some ⟨b2, o2, none⟩) k k)) hmo ?_
  change wpAnyT _ _ _ _ _ _ _ _ _ (World.drew (w.drewN q))
  clear c0 c1 c2 c3 h2 hmay
  generalize (w.drewN q).drew = V0 at *
  have d0 := s0.cells
  obtain ⟨d1, d2, d3, dF⟩ := d0
  have n0 : (0 : Int) ≤ (k : Int) := by omega
  have n1 : (k : Int) ≤ (k : Int) := by omega
  have n2 : (k : Int) ≤ (lc : Int) := by omega
  have n3 : (k : Int) ≤ (k : Int) := by omega
  have n4 : (k : Int) ≤ (lc : Int) := by omega
  have n5 : (k : Int) ≤ (k : Int) := by omega
  refine wpAnyT_take (i := 0) (v := .pointer (some ⟨g, 0, none⟩)) rfl (by kernel_rfl) (by kernel_rfl) (by kernel_rfl) (by kernel_rfl) (by decide) (by kernel_rfl) (by kernel_rfl) (fun _ _ _ h => h) (Or.inl ⟨by kernel_rfl, by intro _ _; kernel_rfl⟩) s0 ?_
  go_simp
  refine wpAnyT_take0 (i := 1) (v := .pointer (some ⟨g, 0, none⟩)) rfl (by kernel_rfl) (by kernel_rfl) (by kernel_rfl) (by decide) (fun _ _ _ h => h) (Or.inl ⟨by kernel_rfl, by intro w h; kernel_rfl⟩) (.inr s0) ?_
  go_simp
  refine wpAnyT_take0 (i := 2) (v := .pointer (some ⟨g, 0, none⟩)) rfl (by kernel_rfl) (by kernel_rfl) (by kernel_rfl) (by decide) (fun _ _ _ h => h) (Or.inl ⟨by kernel_rfl, by intro w h; kernel_rfl⟩) (.inr s0) ?_
  go_simp
  refine wpAnyT_take (i := 3) (v := .pointer (some ⟨g, 0, none⟩)) rfl (by kernel_rfl) (by kernel_rfl) (by kernel_rfl) (by kernel_rfl) (by decide) (by kernel_rfl) (by kernel_rfl) (fun _ _ _ h => h) (Or.inl ⟨by kernel_rfl, by intro _ _; kernel_rfl⟩) s0 ?_
  go_simp
  refine wpAnyT_take (i := 4) (v := .pointer (some ⟨g, 0, none⟩)) rfl (by kernel_rfl) (by kernel_rfl) (by kernel_rfl) (by kernel_rfl) (by decide) (by kernel_rfl) (by kernel_rfl) (fun _ _ _ h => h) (Or.inl ⟨by kernel_rfl, by intro _ _; kernel_rfl⟩) s0 ?_
  go_simp
  refine wpAnyT_take (i := 5) (v := .pointer (some ⟨g, 2, none⟩)) rfl (by kernel_rfl) (by kernel_rfl) (by kernel_rfl) (by kernel_rfl) (by decide) (by kernel_rfl) (by kernel_rfl) (fun _ _ _ h => h) (Or.inl ⟨by kernel_rfl, by intro _ _; kernel_rfl⟩) s0 ?_
  go_simp
  refine wpAnyT_take (i := 6) (v := .slice (some ⟨b1, o1, none⟩) k lc) rfl (by kernel_rfl) (by kernel_rfl) (by kernel_rfl) (by kernel_rfl) (by decide) (by kernel_rfl) (by kernel_rfl) (fun _ _ _ h => h) (Or.inl ⟨by kernel_rfl, by rintro w h; obtain ⟨c1, c2, c3, -⟩ := h.cells; go_simp⟩) s0 ?_
  go_simp
  refine wpAnyT_take (i := 7) (v := .int .u64 (k : Int)) rfl (by kernel_rfl) (by kernel_rfl) (by kernel_rfl) (by kernel_rfl) (by decide) (by kernel_rfl) (by kernel_rfl) (fun _ _ _ h => h) (Or.inl ⟨by kernel_rfl, by intro _ _; kernel_rfl⟩) s0 ?_
  go_simp
  refine wpAnyT_take (i := 8) (v := .slice (some ⟨b1, o1 + k * 9, none⟩) 0 (lc - k)) rfl (by kernel_rfl) (by kernel_rfl) (by kernel_rfl) (by kernel_rfl) (by decide) (by kernel_rfl) (by kernel_rfl) (fun _ _ _ h => h) (Or.inl ⟨by kernel_rfl, by rintro w h; obtain ⟨c1, c2, c3, -⟩ := h.cells; go_simp; omega⟩) s0 ?_
  go_simp
  refine wpAnyT_take (i := 9) (v := .pointer (some ⟨g, 0, none⟩)) rfl (by kernel_rfl) (by kernel_rfl) (by kernel_rfl) (by kernel_rfl) (by decide) (by kernel_rfl) (by kernel_rfl) (fun _ _ _ h => h) (Or.inl ⟨by kernel_rfl, by intro _ _; kernel_rfl⟩) s0 ?_
  go_simp
  refine wpAnyT_take (i := 10) (v := .pointer (some ⟨g, 0, none⟩)) rfl (by kernel_rfl) (by kernel_rfl) (by kernel_rfl) (by kernel_rfl) (by decide) (by kernel_rfl) (by kernel_rfl) (fun _ _ _ h => h) (Or.inl ⟨by kernel_rfl, by intro _ _; kernel_rfl⟩) s0 ?_
  go_simp
  refine wpAnyT_take (i := 11) (v := .pointer (some ⟨g, 3, none⟩)) rfl (by kernel_rfl) (by kernel_rfl) (by kernel_rfl) (by kernel_rfl) (by decide) (by kernel_rfl) (by kernel_rfl) (fun _ _ _ h => h) (Or.inl ⟨by kernel_rfl, by intro _ _; kernel_rfl⟩) s0 ?_
  go_simp
  refine wpAnyT_take (i := 12) (v := .slice (some ⟨b2, o2, none⟩) k k) rfl (by kernel_rfl) (by kernel_rfl) (by kernel_rfl) (by kernel_rfl) (by decide) (by kernel_rfl) (by kernel_rfl) (fun _ _ _ h => h) (Or.inl ⟨by kernel_rfl, by rintro w h; obtain ⟨c1, c2, c3, -⟩ := h.cells; go_simp⟩) s0 ?_
  go_simp
  refine wpAnyT_take0 (i := 13) (v := .int .u64 (k : Int)) rfl (by kernel_rfl) (by kernel_rfl) (by kernel_rfl) (by decide) (fun _ _ _ h => h) (Or.inl ⟨by kernel_rfl, by intro w h; kernel_rfl⟩) (.inr s0) ?_
  go_simp
  refine wpAnyT_take0 (i := 14) (v := .slice (some ⟨b2, o2, none⟩) 0 0) rfl (by kernel_rfl) (by kernel_rfl) (by kernel_rfl) (by decide) (fun _ _ _ h => h) (Or.inl ⟨by kernel_rfl, by intro w h; go_simp⟩) (.inr s0) ?_
  go_simp
  refine wpAnyT_take0 (i := 15) (v := .int .u64 x) rfl (by kernel_rfl) (by kernel_rfl) (by kernel_rfl) (by decide) (fun _ _ _ h => h) (Or.inl ⟨by kernel_rfl, by intro w h; kernel_rfl⟩) (.inr s0) ?_
  go_simp
  refine wpAnyT_take (i := 16) (v := .pointer (some ⟨g, 0, none⟩)) rfl (by kernel_rfl) (by kernel_rfl) (by kernel_rfl) (by kernel_rfl) (by decide) (by kernel_rfl) (by kernel_rfl) (fun _ _ _ h => h) (Or.inl ⟨by kernel_rfl, by intro _ _; kernel_rfl⟩) s0 ?_
  go_simp
  refine wpAnyT_take (i := 17) (v := .pointer (some ⟨g, 2, none⟩)) rfl (by kernel_rfl) (by kernel_rfl) (by kernel_rfl) (by kernel_rfl) (by decide) (by kernel_rfl) (by kernel_rfl) (fun _ _ _ h => h) (Or.inl ⟨by kernel_rfl, by intro _ _; kernel_rfl⟩) s0 ?_
  go_simp
  refine wpAnyT_last (by kernel_rfl) (by kernel_rfl) ?_
  refine wpAny_all (rs := [18]) (by kernel_rfl) (by simp) (fun j hj => ?_)
  rw [List.mem_singleton] at hj
  subst hj
  refine wpOp_step rfl (fun K hK => ?_)
  go_simp
  refine hK _ _ ?_
  clear hK K
  refine wpAny_all (rs := [19]) (by kernel_rfl) (by simp) (fun j hj => ?_)
  rw [List.mem_singleton] at hj
  subst hj
  refine wpOp_step rfl (fun K hK => ?_)
  go_simp
  refine hK _ _ ?_
  clear hK K
  refine wpAny_all (rs := [20]) (by kernel_rfl) (by simp) (fun j hj => ?_)
  rw [List.mem_singleton] at hj
  subst hj
  refine wpOp_step rfl (fun K hK => ?_)
  go_simp
  refine hK _ _ ?_
  clear hK K
  refine wpAny_all (rs := [21]) (by kernel_rfl) (by simp) (fun j hj => ?_)
  rw [List.mem_singleton] at hj
  subst hj
  refine wpOp_step rfl (fun K hK => ?_)
  go_simp
  refine hK _ _ ?_
  clear hK K
  refine wpAny_all (rs := [22]) (by kernel_rfl) (by simp) (fun j hj => ?_)
  rw [List.mem_singleton] at hj
  subst hj
  refine wpOp_step rfl (fun K hK => ?_)
  go_simp
  refine hK _ _ ?_
  clear hK K
  refine wpAny_all (rs := [23]) (by kernel_rfl) (by simp) (fun j hj => ?_)
  rw [List.mem_singleton] at hj
  subst hj
  refine wpOp_step rfl (fun K hK => ?_)
  go_simp
  refine hK _ _ ?_
  clear hK K
  refine wpAny_all (rs := [24]) (by kernel_rfl) (by simp) (fun j hj => ?_)
  rw [List.mem_singleton] at hj
  subst hj
  refine wpOp_step rfl (fun K hK => ?_)
  go_simp
  refine hK _ _ ?_
  clear hK K
  refine wpAny_done (by kernel_rfl) ?_ _
  have q1 := at_set (i := 1) (x := .int .u64 x) (at_set (i := 3) (x := .slice (some ⟨b2, o2, none⟩) 0 0) (at_set (i := 2) (x := .slice (some ⟨b1, o1 + k * 9, none⟩) 0 (lc - k)) s0))
  have hat : (((V0.setCell ⟨g, 2, none⟩ (.slice (some ⟨b1, o1 + k * 9, none⟩) 0 (lc - k))).setCell ⟨g, 3, none⟩ (.slice (some ⟨b2, o2, none⟩) 0 0)).setCell ⟨g, 1, none⟩ (.int .u64 x)).heap[g]? = some (Obj.cells #[.bool true, .int .u64 x, .slice (some ⟨b1, o1 + k * 9, none⟩) 0 (lc - k), .slice (some ⟨b2, o2, none⟩) 0 0] 84) := q1.trans (by kernel_rfl)
  have hon : OnlyG B g w (((V0.setCell ⟨g, 2, none⟩ (.slice (some ⟨b1, o1 + k * 9, none⟩) 0 (lc - k))).setCell ⟨g, 3, none⟩ (.slice (some ⟨b2, o2, none⟩) 0 0)).setCell ⟨g, 1, none⟩ (.int .u64 x)) := ⟨((hb3.setCell (p := ⟨g, 2, none⟩) hB (.slice (some ⟨b1, o1 + k * 9, none⟩) 0 (lc - k))).setCell (p := ⟨g, 3, none⟩) hB (.slice (some ⟨b2, o2, none⟩) 0 0)).setCell (p := ⟨g, 1, none⟩) hB (.int .u64 x), fun j hj => (Below.heap_setCell _ _ _ _ hj).trans ((Below.heap_setCell _ _ _ _ hj).trans ((Below.heap_setCell _ _ _ _ hj).trans (ho3 j)))⟩
  clear d1 d2 d3 dF s0 hb3 ho3 q1
  generalize ((V0.setCell ⟨g, 2, none⟩ (.slice (some ⟨b1, o1 + k * 9, none⟩) 0 (lc - k))).setCell ⟨g, 3, none⟩ (.slice (some ⟨b2, o2, none⟩) 0 0)).setCell ⟨g, 1, none⟩ (.int .u64 x) = V4 at *
  go_wp2_with fail
  go_ret
  exact ⟨rfl, hat, hon⟩

set_option maxRecDepth 100000 in
set_option maxHeartbeats 8000000 in
theorem drop_eq_lt (B g : Nat) (base : Int) (b1 o1 b2 o2 sc k : Nat) (rs : List RV) (zs : List Int) (x : Int) (w : World) (h : LogR true g base k (some ⟨b1, o1, none⟩) k (some ⟨b2, o2, none⟩) sc rs zs w) (hn : k ≤ 1000000) (h0 : 0 ≤ base) (h1 : base ≤ 9000000000000000000) (hx : x = base + (k : Nat))  (hks : k < sc) (hB : B ≤ g) :
    Calls Tryz.prog 38 #[.pointer (some ⟨g, 0, none⟩), .int .u64 x] w fun e w' => e = .returned (.int .i64 0) ∧ AtG g x (.slice (some ⟨b1, o1, none⟩) 0 0) (.slice (some ⟨b2, o2 + k, none⟩) 0 (sc - k)) w' ∧ OnlyG B g w w' := by
  have hmo : Tryz.prog.follows .mixedOrders = true := by kernel_rfl
  have hlc := h.rl.2.1
  have hlc2 := h.rl.2.2.1
  have hsc := h.rz.2.1
  have hsc2 := h.rz.2.2.1
  unfold maxLen at hlc2 hsc2
  have hmay := may_ok g base k _ k _ sc rs zs x w h hn h0 h1 (by omega) (by omega)
  have hsub : IntKind.wrap .u64 (x - base) = (k : Nat) := by rw [hx, IntKind.wrap_u64]; omega
  clear hx hlc2 hsc2
  go_enter Tryz.func38, Tryz.ntmps38
  go_wp2_with fail
  refine hmay.mono ?_
  rintro e w1 ⟨rfl, q, rfl⟩
  have h2 := h.later (below_drewN (Below.refl w.heap.size w) q)
  obtain ⟨c0, c1, c2, c3, -⟩ := h2.cells
  go_upto_region 5 with fail
  have s0 : AtG g base (.slice (some ⟨b1, o1, none⟩) k k) (.slice (some ⟨b2, o2, none⟩) k sc) (w.drewN q).drew := h2.at_
  have hb3 : Below B w (w.drewN q).drew := (below_drewN (Below.refl B w) q).drew
  have ho3 : ∀ j : Nat, (w.drewN q).drew.heap[j]? = w.heap[j]? := fun _ => rfl
  refine wp_region_T (k := 18) (S := AtG g base (.slice (some ⟨b1, o1, none⟩) k k) (.slice (some ⟨b2, o2, none⟩) k sc)) hmo ?_
  change wpAnyT _ _ _ _ _ _ _ _ _ (World.drew (w.drewN q))
  clear c0 c1 c2 c3 h2 hmay
  generalize (w.drewN q).drew = V0 at *
  have d0 := s0.cells
  obtain ⟨d1, d2, d3, dF⟩ := d0
  have n0 : (0 : Int) ≤ (k : Int) := by omega
  have n1 : (k : Int) ≤ (k : Int) := by omega
  have n2 : (k : Int) ≤ (k : Int) := by omega
  have n3 : (k : Int) ≤ (sc : Int) := by omega
  have n4 : (k : Int) ≤ (k : Int) := by omega
  have n5 : (k : Int) ≤ (sc : Int) := by omega
  refine wpAnyT_take (i := 0) (v := .pointer (some ⟨g, 0, none⟩)) rfl (by kernel_rfl) (by kernel_rfl) (by kernel_rfl) (by kernel_rfl) (by decide) (by kernel_rfl) (by kernel_rfl) (fun _ _ _ h => h) (Or.inl ⟨by kernel_rfl, by intro _ _; kernel_rfl⟩) s0 ?_
  go_simp
  refine wpAnyT_take0 (i := 1) (v := .pointer (some ⟨g, 0, none⟩)) rfl (by kernel_rfl) (by kernel_rfl) (by kernel_rfl) (by decide) (fun _ _ _ h => h) (Or.inl ⟨by kernel_rfl, by intro w h; kernel_rfl⟩) (.inr s0) ?_
  go_simp
  refine wpAnyT_take0 (i := 2) (v := .pointer (some ⟨g, 0, none⟩)) rfl (by kernel_rfl) (by kernel_rfl) (by kernel_rfl) (by decide) (fun _ _ _ h => h) (Or.inl ⟨by kernel_rfl, by intro w h; kernel_rfl⟩) (.inr s0) ?_
  go_simp
  refine wpAnyT_take (i := 3) (v := .pointer (some ⟨g, 0, none⟩)) rfl (by kernel_rfl) (by kernel_rfl) (by kernel_rfl) (by kernel_rfl) (by decide) (by kernel_rfl) (by kernel_rfl) (fun _ _ _ h => h) (Or.inl ⟨by kernel_rfl, by intro _ _; kernel_rfl⟩) s0 ?_
  go_simp
  refine wpAnyT_take (i := 4) (v := .pointer (some ⟨g, 0, none⟩)) rfl (by kernel_rfl) (by kernel_rfl) (by kernel_rfl) (by kernel_rfl) (by decide) (by kernel_rfl) (by kernel_rfl) (fun _ _ _ h => h) (Or.inl ⟨by kernel_rfl, by intro _ _; kernel_rfl⟩) s0 ?_
  go_simp
  refine wpAnyT_take (i := 5) (v := .pointer (some ⟨g, 2, none⟩)) rfl (by kernel_rfl) (by kernel_rfl) (by kernel_rfl) (by kernel_rfl) (by decide) (by kernel_rfl) (by kernel_rfl) (fun _ _ _ h => h) (Or.inl ⟨by kernel_rfl, by intro _ _; kernel_rfl⟩) s0 ?_
  go_simp
  refine wpAnyT_take (i := 6) (v := .slice (some ⟨b1, o1, none⟩) k k) rfl (by kernel_rfl) (by kernel_rfl) (by kernel_rfl) (by kernel_rfl) (by decide) (by kernel_rfl) (by kernel_rfl) (fun _ _ _ h => h) (Or.inl ⟨by kernel_rfl, by rintro w h; obtain ⟨c1, c2, c3, -⟩ := h.cells; go_simp⟩) s0 ?_
  go_simp
  refine wpAnyT_take (i := 7) (v := .int .u64 (k : Int)) rfl (by kernel_rfl) (by kernel_rfl) (by kernel_rfl) (by kernel_rfl) (by decide) (by kernel_rfl) (by kernel_rfl) (fun _ _ _ h => h) (Or.inl ⟨by kernel_rfl, by intro _ _; kernel_rfl⟩) s0 ?_
  go_simp
  refine wpAnyT_take (i := 8) (v := .slice (some ⟨b1, o1, none⟩) 0 0) rfl (by kernel_rfl) (by kernel_rfl) (by kernel_rfl) (by kernel_rfl) (by decide) (by kernel_rfl) (by kernel_rfl) (fun _ _ _ h => h) (Or.inl ⟨by kernel_rfl, by rintro w h; obtain ⟨c1, c2, c3, -⟩ := h.cells; go_simp⟩) s0 ?_
  go_simp
  refine wpAnyT_take (i := 9) (v := .pointer (some ⟨g, 0, none⟩)) rfl (by kernel_rfl) (by kernel_rfl) (by kernel_rfl) (by kernel_rfl) (by decide) (by kernel_rfl) (by kernel_rfl) (fun _ _ _ h => h) (Or.inl ⟨by kernel_rfl, by intro _ _; kernel_rfl⟩) s0 ?_
  go_simp
  refine wpAnyT_take (i := 10) (v := .pointer (some ⟨g, 0, none⟩)) rfl (by kernel_rfl) (by kernel_rfl) (by kernel_rfl) (by kernel_rfl) (by decide) (by kernel_rfl) (by kernel_rfl) (fun _ _ _ h => h) (Or.inl ⟨by kernel_rfl, by intro _ _; kernel_rfl⟩) s0 ?_
  go_simp
  refine wpAnyT_take (i := 11) (v := .pointer (some ⟨g, 3, none⟩)) rfl (by kernel_rfl) (by kernel_rfl) (by kernel_rfl) (by kernel_rfl) (by decide) (by kernel_rfl) (by kernel_rfl) (fun _ _ _ h => h) (Or.inl ⟨by kernel_rfl, by intro _ _; kernel_rfl⟩) s0 ?_
  go_simp
  refine wpAnyT_take (i := 12) (v := .slice (some ⟨b2, o2, none⟩) k sc) rfl (by kernel_rfl) (by kernel_rfl) (by kernel_rfl) (by kernel_rfl) (by decide) (by kernel_rfl) (by kernel_rfl) (fun _ _ _ h => h) (Or.inl ⟨by kernel_rfl, by rintro w h; obtain ⟨c1, c2, c3, -⟩ := h.cells; go_simp⟩) s0 ?_
  go_simp
  refine wpAnyT_take0 (i := 13) (v := .int .u64 (k : Int)) rfl (by kernel_rfl) (by kernel_rfl) (by kernel_rfl) (by decide) (fun _ _ _ h => h) (Or.inl ⟨by kernel_rfl, by intro w h; kernel_rfl⟩) (.inr s0) ?_
  go_simp
  refine wpAnyT_take0 (i := 14) (v := .slice (some ⟨b2, o2 + k, none⟩) 0 (sc - k)) rfl (by kernel_rfl) (by kernel_rfl) (by kernel_rfl) (by decide) (fun _ _ _ h => h) (Or.inl ⟨by kernel_rfl, by intro w h; go_simp; omega⟩) (.inr s0) ?_
  go_simp
  refine wpAnyT_take0 (i := 15) (v := .int .u64 x) rfl (by kernel_rfl) (by kernel_rfl) (by kernel_rfl) (by decide) (fun _ _ _ h => h) (Or.inl ⟨by kernel_rfl, by intro w h; kernel_rfl⟩) (.inr s0) ?_
  go_simp
  refine wpAnyT_take (i := 16) (v := .pointer (some ⟨g, 0, none⟩)) rfl (by kernel_rfl) (by kernel_rfl) (by kernel_rfl) (by kernel_rfl) (by decide) (by kernel_rfl) (by kernel_rfl) (fun _ _ _ h => h) (Or.inl ⟨by kernel_rfl, by intro _ _; kernel_rfl⟩) s0 ?_
  go_simp
  refine wpAnyT_take (i := 17) (v := .pointer (some ⟨g, 2, none⟩)) rfl (by kernel_rfl) (by kernel_rfl) (by kernel_rfl) (by kernel_rfl) (by decide) (by kernel_rfl) (by kernel_rfl) (fun _ _ _ h => h) (Or.inl ⟨by kernel_rfl, by intro _ _; kernel_rfl⟩) s0 ?_
  go_simp
  refine wpAnyT_last (by kernel_rfl) (by kernel_rfl) ?_
  refine wpAny_all (rs := [18]) (by kernel_rfl) (by simp) (fun j hj => ?_)
  rw [List.mem_singleton] at hj
  subst hj
  refine wpOp_step rfl (fun K hK => ?_)
  go_simp
  refine hK _ _ ?_
  clear hK K
  refine wpAny_all (rs := [19]) (by kernel_rfl) (by simp) (fun j hj => ?_)
  rw [List.mem_singleton] at hj
  subst hj
  refine wpOp_step rfl (fun K hK => ?_)
  go_simp
  refine hK _ _ ?_
  clear hK K
  refine wpAny_all (rs := [20]) (by kernel_rfl) (by simp) (fun j hj => ?_)
  rw [List.mem_singleton] at hj
  subst hj
  refine wpOp_step rfl (fun K hK => ?_)
  go_simp
  refine hK _ _ ?_
  clear hK K
  refine wpAny_all (rs := [21]) (by kernel_rfl) (by simp) (fun j hj => ?_)
  rw [List.mem_singleton] at hj
  subst hj
  refine wpOp_step rfl (fun K hK => ?_)
  go_simp
  refine hK _ _ ?_
  clear hK K
  refine wpAny_all (rs := [22]) (by kernel_rfl) (by simp) (fun j hj => ?_)
  rw [List.mem_singleton] at hj
  subst hj
  refine wpOp_step rfl (fun K hK => ?_)
  go_simp
  refine hK _ _ ?_
  clear hK K
  refine wpAny_all (rs := [23]) (by kernel_rfl) (by simp) (fun j hj => ?_)
  rw [List.mem_singleton] at hj
  subst hj
  refine wpOp_step rfl (fun K hK => ?_)
  go_simp
  refine hK _ _ ?_
  clear hK K
  refine wpAny_all (rs := [24]) (by kernel_rfl) (by simp) (fun j hj => ?_)
  rw [List.mem_singleton] at hj
  subst hj
  refine wpOp_step rfl (fun K hK => ?_)
  go_simp
  refine hK _ _ ?_
  clear hK K
  refine wpAny_done (by kernel_rfl) ?_ _
  have q1 := at_set (i := 1) (x := .int .u64 x) (at_set (i := 3) (x := .slice (some ⟨b2, o2 + k, none⟩) 0 (sc - k)) (at_set (i := 2) (x := .slice (some ⟨b1, o1, none⟩) 0 0) s0))
  have hat : (((V0.setCell ⟨g, 2, none⟩ (.slice (some ⟨b1, o1, none⟩) 0 0)).setCell ⟨g, 3, none⟩ (.slice (some ⟨b2, o2 + k, none⟩) 0 (sc - k))).setCell ⟨g, 1, none⟩ (.int .u64 x)).heap[g]? = some (Obj.cells #[.bool true, .int .u64 x, .slice (some ⟨b1, o1, none⟩) 0 0, .slice (some ⟨b2, o2 + k, none⟩) 0 (sc - k)] 84) := q1.trans (by kernel_rfl)
  have hon : OnlyG B g w (((V0.setCell ⟨g, 2, none⟩ (.slice (some ⟨b1, o1, none⟩) 0 0)).setCell ⟨g, 3, none⟩ (.slice (some ⟨b2, o2 + k, none⟩) 0 (sc - k))).setCell ⟨g, 1, none⟩ (.int .u64 x)) := ⟨((hb3.setCell (p := ⟨g, 2, none⟩) hB (.slice (some ⟨b1, o1, none⟩) 0 0)).setCell (p := ⟨g, 3, none⟩) hB (.slice (some ⟨b2, o2 + k, none⟩) 0 (sc - k))).setCell (p := ⟨g, 1, none⟩) hB (.int .u64 x), fun j hj => (Below.heap_setCell _ _ _ _ hj).trans ((Below.heap_setCell _ _ _ _ hj).trans ((Below.heap_setCell _ _ _ _ hj).trans (ho3 j)))⟩
  clear d1 d2 d3 dF s0 hb3 ho3 q1
  generalize ((V0.setCell ⟨g, 2, none⟩ (.slice (some ⟨b1, o1, none⟩) 0 0)).setCell ⟨g, 3, none⟩ (.slice (some ⟨b2, o2 + k, none⟩) 0 (sc - k))).setCell ⟨g, 1, none⟩ (.int .u64 x) = V4 at *
  go_wp2_with fail
  go_ret
  exact ⟨rfl, hat, hon⟩

set_option maxRecDepth 100000 in
set_option maxHeartbeats 8000000 in
theorem drop_eq_eq (B g : Nat) (base : Int) (b1 o1 b2 o2 k : Nat) (rs : List RV) (zs : List Int) (x : Int) (w : World) (h : LogR true g base k (some ⟨b1, o1, none⟩) k (some ⟨b2, o2, none⟩) k rs zs w) (hn : k ≤ 1000000) (h0 : 0 ≤ base) (h1 : base ≤ 9000000000000000000) (hx : x = base + (k : Nat))  (hB : B ≤ g) :
    Calls Tryz.prog 38 #[.pointer (some ⟨g, 0, none⟩), .int .u64 x] w fun e w' => e = .returned (.int .i64 0) ∧ AtG g x (.slice (some ⟨b1, o1, none⟩) 0 0) (.slice (some ⟨b2, o2, none⟩) 0 0) w' ∧ OnlyG B g w w' := by
  have hmo : Tryz.prog.follows .mixedOrders = true := by kernel_rfl
  have hlc := h.rl.2.1
  have hlc2 := h.rl.2.2.1
  have hsc := h.rz.2.1
  have hsc2 := h.rz.2.2.1
  unfold maxLen at hlc2 hsc2
  have hmay := may_ok g base k _ k _ k rs zs x w h hn h0 h1 (by omega) (by omega)
  have hsub : IntKind.wrap .u64 (x - base) = (k : Nat) := by rw [hx, IntKind.wrap_u64]; omega
  clear hx hlc2 hsc2
  go_enter Tryz.func38, Tryz.ntmps38
  go_wp2_with fail
  refine hmay.mono ?_
  rintro e w1 ⟨rfl, q, rfl⟩
  have h2 := h.later (below_drewN (Below.refl w.heap.size w) q)
  obtain ⟨c0, c1, c2, c3, -⟩ := h2.cells
  go_upto_region 5 with fail
  have s0 : AtG g base (.slice (some ⟨b1, o1, none⟩) k k) (.slice (some ⟨b2, o2, none⟩) k k) (w.drewN q).drew := h2.at_
  have hb3 : Below B w (w.drewN q).drew := (below_drewN (Below.refl B w) q).drew
  have ho3 : ∀ j : Nat, (w.drewN q).drew.heap[j]? = w.heap[j]? := fun _ => rfl
  refine wp_region_T (k := 18) (S := AtG g base (.slice (some ⟨b1, o1, none⟩) k k) (.slice (some ⟨b2, o2, none⟩) k k)) hmo ?_
  change wpAnyT _ _ _ _ _ _ _ _ _ (World.drew (w.drewN q))
  clear c0 c1 c2 c3 h2 hmay
  generalize (w.drewN q).drew = V0 at *
  have d0 := s0.cells
  obtain ⟨d1, d2, d3, dF⟩ := d0
  have n0 : (0 : Int) ≤ (k : Int) := by omega
  have n1 : (k : Int) ≤ (k : Int) := by omega
  have n2 : (k : Int) ≤ (k : Int) := by omega
  have n3 : (k : Int) ≤ (k : Int) := by omega
  have n4 : (k : Int) ≤ (k : Int) := by omega
  have n5 : (k : Int) ≤ (k : Int) := by omega
  refine wpAnyT_take (i := 0) (v := .pointer (some ⟨g, 0, none⟩)) rfl (by kernel_rfl) (by kernel_rfl) (by kernel_rfl) (by kernel_rfl) (by decide) (by kernel_rfl) (by kernel_rfl) (fun _ _ _ h => h) (Or.inl ⟨by kernel_rfl, by intro _ _; kernel_rfl⟩) s0 ?_
  go_simp
  refine wpAnyT_take0 (i := 1) (v := .pointer (some ⟨g, 0, none⟩)) rfl (by kernel_rfl) (by kernel_rfl) (by kernel_rfl) (by decide) (fun _ _ _ h => h) (Or.inl ⟨by kernel_rfl, by intro w h; kernel_rfl⟩) (.inr s0) ?_
  go_simp
  refine wpAnyT_take0 (i := 2) (v := .pointer (some ⟨g, 0, none⟩)) rfl (by kernel_rfl) (by kernel_rfl) (by kernel_rfl) (by decide) (fun _ _ _ h => h) (Or.inl ⟨by kernel_rfl, by intro w h; kernel_rfl⟩) (.inr s0) ?_
  go_simp
  refine wpAnyT_take (i := 3) (v := .pointer (some ⟨g, 0, none⟩)) rfl (by kernel_rfl) (by kernel_rfl) (by kernel_rfl) (by kernel_rfl) (by decide) (by kernel_rfl) (by kernel_rfl) (fun _ _ _ h => h) (Or.inl ⟨by kernel_rfl, by intro _ _; kernel_rfl⟩) s0 ?_
  go_simp
  refine wpAnyT_take (i := 4) (v := .pointer (some ⟨g, 0, none⟩)) rfl (by kernel_rfl) (by kernel_rfl) (by kernel_rfl) (by kernel_rfl) (by decide) (by kernel_rfl) (by kernel_rfl) (fun _ _ _ h => h) (Or.inl ⟨by kernel_rfl, by intro _ _; kernel_rfl⟩) s0 ?_
  go_simp
  refine wpAnyT_take (i := 5) (v := .pointer (some ⟨g, 2, none⟩)) rfl (by kernel_rfl) (by kernel_rfl) (by kernel_rfl) (by kernel_rfl) (by decide) (by kernel_rfl) (by kernel_rfl) (fun _ _ _ h => h) (Or.inl ⟨by kernel_rfl, by intro _ _; kernel_rfl⟩) s0 ?_
  go_simp
  refine wpAnyT_take (i := 6) (v := .slice (some ⟨b1, o1, none⟩) k k) rfl (by kernel_rfl) (by kernel_rfl) (by kernel_rfl) (by kernel_rfl) (by decide) (by kernel_rfl) (by kernel_rfl) (fun _ _ _ h => h) (Or.inl ⟨by kernel_rfl, by rintro w h; obtain ⟨c1, c2, c3, -⟩ := h.cells; go_simp⟩) s0 ?_
  go_simp
  refine wpAnyT_take (i := 7) (v := .int .u64 (k : Int)) rfl (by kernel_rfl) (by kernel_rfl) (by kernel_rfl) (by kernel_rfl) (by decide) (by kernel_rfl) (by kernel_rfl) (fun _ _ _ h => h) (Or.inl ⟨by kernel_rfl, by intro _ _; kernel_rfl⟩) s0 ?_
  go_simp
  refine wpAnyT_take (i := 8) (v := .slice (some ⟨b1, o1, none⟩) 0 0) rfl (by kernel_rfl) (by kernel_rfl) (by kernel_rfl) (by kernel_rfl) (by decide) (by kernel_rfl) (by kernel_rfl) (fun _ _ _ h => h) (Or.inl ⟨by kernel_rfl, by rintro w h; obtain ⟨c1, c2, c3, -⟩ := h.cells; go_simp⟩) s0 ?_
  go_simp
  refine wpAnyT_take (i := 9) (v := .pointer (some ⟨g, 0, none⟩)) rfl (by kernel_rfl) (by kernel_rfl) (by kernel_rfl) (by kernel_rfl) (by decide) (by kernel_rfl) (by kernel_rfl) (fun _ _ _ h => h) (Or.inl ⟨by kernel_rfl, by intro _ _; kernel_rfl⟩) s0 ?_
  go_simp
  refine wpAnyT_take (i := 10) (v := .pointer (some ⟨g, 0, none⟩)) rfl (by kernel_rfl) (by kernel_rfl) (by kernel_rfl) (by kernel_rfl) (by decide) (by kernel_rfl) (by kernel_rfl) (fun _ _ _ h => h) (Or.inl ⟨by kernel_rfl, by intro _ _; kernel_rfl⟩) s0 ?_
  go_simp
  refine wpAnyT_take (i := 11) (v := .pointer (some ⟨g, 3, none⟩)) rfl (by kernel_rfl) (by kernel_rfl) (by kernel_rfl) (by kernel_rfl) (by decide) (by kernel_rfl) (by kernel_rfl) (fun _ _ _ h => h) (Or.inl ⟨by kernel_rfl, by intro _ _; kernel_rfl⟩) s0 ?_
  go_simp
  refine wpAnyT_take (i := 12) (v := .slice (some ⟨b2, o2, none⟩) k k) rfl (by kernel_rfl) (by kernel_rfl) (by kernel_rfl) (by kernel_rfl) (by decide) (by kernel_rfl) (by kernel_rfl) (fun _ _ _ h => h) (Or.inl ⟨by kernel_rfl, by rintro w h; obtain ⟨c1, c2, c3, -⟩ := h.cells; go_simp⟩) s0 ?_
  go_simp
  refine wpAnyT_take0 (i := 13) (v := .int .u64 (k : Int)) rfl (by kernel_rfl) (by kernel_rfl) (by kernel_rfl) (by decide) (fun _ _ _ h => h) (Or.inl ⟨by kernel_rfl, by intro w h; kernel_rfl⟩) (.inr s0) ?_
  go_simp
  refine wpAnyT_take0 (i := 14) (v := .slice (some ⟨b2, o2, none⟩) 0 0) rfl (by kernel_rfl) (by kernel_rfl) (by kernel_rfl) (by decide) (fun _ _ _ h => h) (Or.inl ⟨by kernel_rfl, by intro w h; go_simp⟩) (.inr s0) ?_
  go_simp
  refine wpAnyT_take0 (i := 15) (v := .int .u64 x) rfl (by kernel_rfl) (by kernel_rfl) (by kernel_rfl) (by decide) (fun _ _ _ h => h) (Or.inl ⟨by kernel_rfl, by intro w h; kernel_rfl⟩) (.inr s0) ?_
  go_simp
  refine wpAnyT_take (i := 16) (v := .pointer (some ⟨g, 0, none⟩)) rfl (by kernel_rfl) (by kernel_rfl) (by kernel_rfl) (by kernel_rfl) (by decide) (by kernel_rfl) (by kernel_rfl) (fun _ _ _ h => h) (Or.inl ⟨by kernel_rfl, by intro _ _; kernel_rfl⟩) s0 ?_
  go_simp
  refine wpAnyT_take (i := 17) (v := .pointer (some ⟨g, 2, none⟩)) rfl (by kernel_rfl) (by kernel_rfl) (by kernel_rfl) (by kernel_rfl) (by decide) (by kernel_rfl) (by kernel_rfl) (fun _ _ _ h => h) (Or.inl ⟨by kernel_rfl, by intro _ _; kernel_rfl⟩) s0 ?_
  go_simp
  refine wpAnyT_last (by kernel_rfl) (by kernel_rfl) ?_
  refine wpAny_all (rs := [18]) (by kernel_rfl) (by simp) (fun j hj => ?_)
  rw [List.mem_singleton] at hj
  subst hj
  refine wpOp_step rfl (fun K hK => ?_)
  go_simp
  refine hK _ _ ?_
  clear hK K
  refine wpAny_all (rs := [19]) (by kernel_rfl) (by simp) (fun j hj => ?_)
  rw [List.mem_singleton] at hj
  subst hj
  refine wpOp_step rfl (fun K hK => ?_)
  go_simp
  refine hK _ _ ?_
  clear hK K
  refine wpAny_all (rs := [20]) (by kernel_rfl) (by simp) (fun j hj => ?_)
  rw [List.mem_singleton] at hj
  subst hj
  refine wpOp_step rfl (fun K hK => ?_)
  go_simp
  refine hK _ _ ?_
  clear hK K
  refine wpAny_all (rs := [21]) (by kernel_rfl) (by simp) (fun j hj => ?_)
  rw [List.mem_singleton] at hj
  subst hj
  refine wpOp_step rfl (fun K hK => ?_)
  go_simp
  refine hK _ _ ?_
  clear hK K
  refine wpAny_all (rs := [22]) (by kernel_rfl) (by simp) (fun j hj => ?_)
  rw [List.mem_singleton] at hj
  subst hj
  refine wpOp_step rfl (fun K hK => ?_)
  go_simp
  refine hK _ _ ?_
  clear hK K
  refine wpAny_all (rs := [23]) (by kernel_rfl) (by simp) (fun j hj => ?_)
  rw [List.mem_singleton] at hj
  subst hj
  refine wpOp_step rfl (fun K hK => ?_)
  go_simp
  refine hK _ _ ?_
  clear hK K
  refine wpAny_all (rs := [24]) (by kernel_rfl) (by simp) (fun j hj => ?_)
  rw [List.mem_singleton] at hj
  subst hj
  refine wpOp_step rfl (fun K hK => ?_)
  go_simp
  refine hK _ _ ?_
  clear hK K
  refine wpAny_done (by kernel_rfl) ?_ _
  have q1 := at_set (i := 1) (x := .int .u64 x) (at_set (i := 3) (x := .slice (some ⟨b2, o2, none⟩) 0 0) (at_set (i := 2) (x := .slice (some ⟨b1, o1, none⟩) 0 0) s0))
  have hat : (((V0.setCell ⟨g, 2, none⟩ (.slice (some ⟨b1, o1, none⟩) 0 0)).setCell ⟨g, 3, none⟩ (.slice (some ⟨b2, o2, none⟩) 0 0)).setCell ⟨g, 1, none⟩ (.int .u64 x)).heap[g]? = some (Obj.cells #[.bool true, .int .u64 x, .slice (some ⟨b1, o1, none⟩) 0 0, .slice (some ⟨b2, o2, none⟩) 0 0] 84) := q1.trans (by kernel_rfl)
  have hon : OnlyG B g w (((V0.setCell ⟨g, 2, none⟩ (.slice (some ⟨b1, o1, none⟩) 0 0)).setCell ⟨g, 3, none⟩ (.slice (some ⟨b2, o2, none⟩) 0 0)).setCell ⟨g, 1, none⟩ (.int .u64 x)) := ⟨((hb3.setCell (p := ⟨g, 2, none⟩) hB (.slice (some ⟨b1, o1, none⟩) 0 0)).setCell (p := ⟨g, 3, none⟩) hB (.slice (some ⟨b2, o2, none⟩) 0 0)).setCell (p := ⟨g, 1, none⟩) hB (.int .u64 x), fun j hj => (Below.heap_setCell _ _ _ _ hj).trans ((Below.heap_setCell _ _ _ _ hj).trans ((Below.heap_setCell _ _ _ _ hj).trans (ho3 j)))⟩
  clear d1 d2 d3 dF s0 hb3 ho3 q1
  generalize ((V0.setCell ⟨g, 2, none⟩ (.slice (some ⟨b1, o1, none⟩) 0 0)).setCell ⟨g, 3, none⟩ (.slice (some ⟨b2, o2, none⟩) 0 0)).setCell ⟨g, 1, none⟩ (.int .u64 x) = V4 at *
  go_wp2_with fail
  go_ret
  exact ⟨rfl, hat, hon⟩
end Go.Proofs.YtghjgajgjhbjpaaGreat.Msg
