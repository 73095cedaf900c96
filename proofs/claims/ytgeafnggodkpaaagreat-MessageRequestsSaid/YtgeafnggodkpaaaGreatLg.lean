/-
  MayOp.
-/
import Derived.Deep.RegionHeld3
import Derived.Deep.DrawnRows
import Derived.Deep.RegionLaw
import Derived.Test.YtgeafnggodkpaaaGreatLf
namespace Go.Proofs.YtgeafnggodkpaaaGreat.Msg
open Go.RowKit Go.Lib Go.Proofs.YtgeafnggodkpaaaGreat.Mem Go.Proofs.YtgeafnggodkpaaaGreat.Utf

/-- The worlds behind an operation's box. -/
def InBox (w : World) (v : OV) (W : World) : Prop := W.heap[w.heap.size]? = some v.box ∧ Below w.heap.size w W
theorem InBox.step {w W W' : World} {v : OV} (h : InBox w v W) (hb : Below W.heap.size W W') : InBox w v W' :=
  ⟨(hb.block _ (Array.getElem?_eq_some_iff.1 h.1).1).trans h.1, h.2.trans (hb.mono h.2.size)⟩
theorem InBox.drew {w W : World} {v : OV} (h : InBox w v W) : InBox w v W.drew := ⟨h.1, h.2.drew⟩
theorem InBox.new (w : World) (v : OV) : InBox w v (w.alloc v.box) := ⟨by show (w.heap.push _)[w.heap.size]? = some _; exact Array.getElem?_push_size, (Below.refl _ _).alloc (Nat.le_refl _) _⟩
theorem InBox.at_ {w W : World} {v : OV} {c : OC} (h : InBox w v W) (ho : OpAt w v c) : OpAt W v c := ho.later h.2

/-- What stands behind MayOp's first condition. -/
def restOp (v : OV) (c : OC) (attrs : Bool) : Bool :=
  if v.k = 1 then attrs else if v.k = 5 then decide (v.an = 1) else decide (v.bn ≤ 8) && !(c.parts.any fun u => !mayName u) && decide (v.cn ≤ 4000) && decide (0 ≤ v.n) && decide (v.n ≤ 1000)
/-- May an operation be? -/
def mayOpA (v : OV) (c : OC) (attrs : Bool) : Bool :=
  decide (fieldsOf v.k ≠ []) && sameOp v c (keepL (fieldsOf v.k) v) (keepC (fieldsOf v.k) c) && mayName v.name && mayName v.to && decide (v.an ≤ 50) && !(c.attrs.any fun u => !mayAttr u) && restOp v c attrs

theorem may_fact {f s n t l a r : Bool} (h : f = false ∨ s = false ∨ n = false ∨ t = false ∨ l = false ∨ a = true) : (f && s && n && t && l && !a && r) = false := by
  rcases h with rfl | rfl | rfl | rfl | rfl | rfl <;> simp

set_option maxRecDepth 100000 in
set_option maxHeartbeats 20000000 in
theorem mayOp_any (v : OV) (c : OC) (attrs : Bool) (w : World) (ho : OpAt w v c) (hA : v.k = 1 → ∀ W, OpAt W v c → Calls Tryz.prog 70 #[.slice v.ao v.an v.ac] W (GivesB attrs W)) :
    Calls Tryz.prog 13 #[v.val] w (GivesB (mayOpA v c attrs) w) := by
  have hmo : Tryz.prog.follows .mixedOrders = true := by kernel_rfl
  have s0 : InBox w v (w.alloc v.box).drew := (InBox.new w v).drew
  by_cases h0 : fieldsOf v.k = []
  · have e0 : ((⟨(fieldsOf v.k).toArray⟩ : ByteArray).toList == (⟨#[]⟩ : ByteArray).toList) = true := by rw [h0]; exact tol_yes _
    have Hr : Hid (mayOpA v c attrs = false) := Lib.hid (may_fact (.inl (by simp [h0])))
    have H0 := Lib.hid h0
    clear h0 hA
    unfold OV.val
    go_enter Tryz.func13, Tryz.ntmps13
    go_wp2_with fail
    refine wp_region_held (S := InBox w v) hmo ?_
    change wpAnyH _ _ _ _ _ _ _ _ (World.drew _)
    refine wpAnyH_take (i := 0) (v := .pointer (some ⟨w.heap.size, 0, none⟩)) rfl (by kernel_rfl) (by kernel_rfl) (by kernel_rfl) (fun _ _ _ h => h) (Or.inl ⟨by kernel_rfl, by intro _ _; kernel_rfl⟩) s0 ?_
    go_simp
    refine wpAnyH_take (i := 1) (v := .int .i64 v.k) rfl (by kernel_rfl) (by kernel_rfl) (by kernel_rfl) (fun _ _ _ h => h) (Or.inl ⟨by kernel_rfl, by rintro w h; obtain ⟨c0, c1, c2, c3, c4, c5, c6, -⟩ := box_all h.1; go_simp⟩) s0 ?_
    go_simp
    refine wpAnyH_all (rs := [2]) (by kernel_rfl) (by simp) (fun j hj => ?_)
    rw [List.mem_singleton] at hj
    subst hj
    refine wpOp_step rfl (fun K hK => ?_)
    go_simp
    refine (fields_any _ _).mono ?_
    rintro e W1 ⟨rfl, hb1⟩
    have s1 := s0.step hb1
    go_simp
    refine hK _ _ ⟨s1, ?_⟩
    clear hK K
    refine wpAnyH_take (i := 3) (v := .bool true) rfl (by kernel_rfl) (by kernel_rfl) (by kernel_rfl) (fun _ _ _ h => h) (Or.inl ⟨by kernel_rfl, by rintro w h; obtain ⟨c0, c1, c2, c3, c4, c5, c6, -⟩ := box_all h.1; go_simp; exact H0.out⟩) s1 ?_
    go_simp
    refine wpAnyH_take (i := 4) (v := .bool true) rfl (by kernel_rfl) (by kernel_rfl) (by kernel_rfl) (fun _ _ _ h => h) (Or.inl ⟨by kernel_rfl, by intro _ _; kernel_rfl⟩) s1 ?_
    go_simp
    refine wpAnyH_take (i := 5) (v := undef) rfl (by kernel_rfl) (by kernel_rfl) (by kernel_rfl) (fun _ _ _ h => h) (Or.inr ⟨by kernel_rfl, rfl⟩) s1 ?_
    go_simp
    refine wpAnyH_take (i := 6) (v := undef) rfl (by kernel_rfl) (by kernel_rfl) (by kernel_rfl) (fun _ _ _ h => h) (Or.inr ⟨by kernel_rfl, rfl⟩) s1 ?_
    go_simp
    refine wpAnyH_take (i := 7) (v := undef) rfl (by kernel_rfl) (by kernel_rfl) (by kernel_rfl) (fun _ _ _ h => h) (Or.inr ⟨by kernel_rfl, rfl⟩) s1 ?_
    go_simp
    refine wpAnyH_take (i := 8) (v := undef) rfl (by kernel_rfl) (by kernel_rfl) (by kernel_rfl) (fun _ _ _ h => h) (Or.inr ⟨by kernel_rfl, rfl⟩) s1 ?_
    go_simp
    refine wpAnyH_take (i := 9) (v := undef) rfl (by kernel_rfl) (by kernel_rfl) (by kernel_rfl) (fun _ _ _ h => h) (Or.inr ⟨by kernel_rfl, rfl⟩) s1 ?_
    go_simp
    refine wpAnyH_take (i := 10) (v := .bool true) rfl (by kernel_rfl) (by kernel_rfl) (by kernel_rfl) (fun _ _ _ h => h) (Or.inl ⟨by kernel_rfl, by intro _ _; kernel_rfl⟩) s1 ?_
    go_simp
    refine wpAnyH_take (i := 11) (v := .bool true) rfl (by kernel_rfl) (by kernel_rfl) (by kernel_rfl) (fun _ _ _ h => h) (Or.inl ⟨by kernel_rfl, by intro _ _; kernel_rfl⟩) s1 ?_
    go_simp
    refine wpAnyH_take (i := 12) (v := undef) rfl (by kernel_rfl) (by kernel_rfl) (by kernel_rfl) (fun _ _ _ h => h) (Or.inr ⟨by kernel_rfl, rfl⟩) s1 ?_
    go_simp
    refine wpAnyH_take (i := 13) (v := undef) rfl (by kernel_rfl) (by kernel_rfl) (by kernel_rfl) (fun _ _ _ h => h) (Or.inr ⟨by kernel_rfl, rfl⟩) s1 ?_
    go_simp
    refine wpAnyH_take (i := 14) (v := undef) rfl (by kernel_rfl) (by kernel_rfl) (by kernel_rfl) (fun _ _ _ h => h) (Or.inr ⟨by kernel_rfl, rfl⟩) s1 ?_
    go_simp
    refine wpAnyH_take (i := 15) (v := undef) rfl (by kernel_rfl) (by kernel_rfl) (by kernel_rfl) (fun _ _ _ h => h) (Or.inr ⟨by kernel_rfl, rfl⟩) s1 ?_
    go_simp
    refine wpAnyH_take (i := 16) (v := .bool true) rfl (by kernel_rfl) (by kernel_rfl) (by kernel_rfl) (fun _ _ _ h => h) (Or.inl ⟨by kernel_rfl, by intro _ _; kernel_rfl⟩) s1 ?_
    go_simp
    refine wpAnyH_take (i := 17) (v := .bool true) rfl (by kernel_rfl) (by kernel_rfl) (by kernel_rfl) (fun _ _ _ h => h) (Or.inl ⟨by kernel_rfl, by intro _ _; kernel_rfl⟩) s1 ?_
    go_simp
    refine wpAnyH_take (i := 18) (v := undef) rfl (by kernel_rfl) (by kernel_rfl) (by kernel_rfl) (fun _ _ _ h => h) (Or.inr ⟨by kernel_rfl, rfl⟩) s1 ?_
    go_simp
    refine wpAnyH_take (i := 19) (v := undef) rfl (by kernel_rfl) (by kernel_rfl) (by kernel_rfl) (fun _ _ _ h => h) (Or.inr ⟨by kernel_rfl, rfl⟩) s1 ?_
    go_simp
    refine wpAnyH_take (i := 20) (v := undef) rfl (by kernel_rfl) (by kernel_rfl) (by kernel_rfl) (fun _ _ _ h => h) (Or.inr ⟨by kernel_rfl, rfl⟩) s1 ?_
    go_simp
    refine wpAnyH_take (i := 21) (v := undef) rfl (by kernel_rfl) (by kernel_rfl) (by kernel_rfl) (fun _ _ _ h => h) (Or.inr ⟨by kernel_rfl, rfl⟩) s1 ?_
    go_simp
    refine wpAnyH_take (i := 22) (v := .bool true) rfl (by kernel_rfl) (by kernel_rfl) (by kernel_rfl) (fun _ _ _ h => h) (Or.inl ⟨by kernel_rfl, by intro _ _; kernel_rfl⟩) s1 ?_
    go_simp
    refine wpAnyH_take (i := 23) (v := .bool true) rfl (by kernel_rfl) (by kernel_rfl) (by kernel_rfl) (fun _ _ _ h => h) (Or.inl ⟨by kernel_rfl, by intro _ _; kernel_rfl⟩) s1 ?_
    go_simp
    refine wpAnyH_take (i := 24) (v := undef) rfl (by kernel_rfl) (by kernel_rfl) (by kernel_rfl) (fun _ _ _ h => h) (Or.inr ⟨by kernel_rfl, rfl⟩) s1 ?_
    go_simp
    refine wpAnyH_take (i := 25) (v := undef) rfl (by kernel_rfl) (by kernel_rfl) (by kernel_rfl) (fun _ _ _ h => h) (Or.inr ⟨by kernel_rfl, rfl⟩) s1 ?_
    go_simp
    refine wpAnyH_take (i := 26) (v := undef) rfl (by kernel_rfl) (by kernel_rfl) (by kernel_rfl) (fun _ _ _ h => h) (Or.inr ⟨by kernel_rfl, rfl⟩) s1 ?_
    go_simp
    refine wpAnyH_take (i := 27) (v := undef) rfl (by kernel_rfl) (by kernel_rfl) (by kernel_rfl) (fun _ _ _ h => h) (Or.inr ⟨by kernel_rfl, rfl⟩) s1 ?_
    go_simp
    refine wpAnyH_take (i := 28) (v := .bool true) rfl (by kernel_rfl) (by kernel_rfl) (by kernel_rfl) (fun _ _ _ h => h) (Or.inl ⟨by kernel_rfl, by intro _ _; kernel_rfl⟩) s1 ?_
    go_simp
    refine wpAnyH_take (i := 29) (v := .bool true) rfl (by kernel_rfl) (by kernel_rfl) (by kernel_rfl) (fun _ _ _ h => h) (Or.inl ⟨by kernel_rfl, by intro _ _; kernel_rfl⟩) s1 ?_
    go_simp
    refine wpAnyH_take (i := 30) (v := undef) rfl (by kernel_rfl) (by kernel_rfl) (by kernel_rfl) (fun _ _ _ h => h) (Or.inr ⟨by kernel_rfl, rfl⟩) s1 ?_
    go_simp
    refine wpAnyH_take (i := 31) (v := undef) rfl (by kernel_rfl) (by kernel_rfl) (by kernel_rfl) (fun _ _ _ h => h) (Or.inr ⟨by kernel_rfl, rfl⟩) s1 ?_
    go_simp
    refine wpAnyH_take (i := 32) (v := undef) rfl (by kernel_rfl) (by kernel_rfl) (by kernel_rfl) (fun _ _ _ h => h) (Or.inr ⟨by kernel_rfl, rfl⟩) s1 ?_
    go_simp
    refine wpAnyH_take (i := 33) (v := undef) rfl (by kernel_rfl) (by kernel_rfl) (by kernel_rfl) (fun _ _ _ h => h) (Or.inr ⟨by kernel_rfl, rfl⟩) s1 ?_
    go_simp
    refine wpAnyH_take (i := 34) (v := .bool true) rfl (by kernel_rfl) (by kernel_rfl) (by kernel_rfl) (fun _ _ _ h => h) (Or.inl ⟨by kernel_rfl, by intro _ _; kernel_rfl⟩) s1 ?_
    go_simp
    refine wpAnyH_done (by kernel_rfl) ?_ _
    go_wp2_with fail
    go_ret
    exact ⟨by rw [Hr.out]; rfl, s1.2⟩
  have e0 : ((⟨(fieldsOf v.k).toArray⟩ : ByteArray).toList == (⟨#[]⟩ : ByteArray).toList) = false := tol_no (fun e => h0 (by have := congrArg (fun b : ByteArray => b.data.toList) e; simpa using this))
  have H0 := Lib.hid h0
  clear h0
  by_cases h1 : sameOp v c (keepL (fieldsOf v.k) v) (keepC (fieldsOf v.k) c) = false
  · have H1 := Lib.hid h1
    have Hr : Hid (mayOpA v c attrs = false) := Lib.hid (may_fact (.inr (.inl H1.out)))
    clear h1 hA
    unfold OV.val
    go_enter Tryz.func13, Tryz.ntmps13
    go_wp2_with fail
    refine wp_region_held (S := InBox w v) hmo ?_
    change wpAnyH _ _ _ _ _ _ _ _ (World.drew _)
    refine wpAnyH_take (i := 0) (v := .pointer (some ⟨w.heap.size, 0, none⟩)) rfl (by kernel_rfl) (by kernel_rfl) (by kernel_rfl) (fun _ _ _ h => h) (Or.inl ⟨by kernel_rfl, by intro _ _; kernel_rfl⟩) s0 ?_
    go_simp
    refine wpAnyH_take (i := 1) (v := .int .i64 v.k) rfl (by kernel_rfl) (by kernel_rfl) (by kernel_rfl) (fun _ _ _ h => h) (Or.inl ⟨by kernel_rfl, by rintro w h; obtain ⟨c0, c1, c2, c3, c4, c5, c6, -⟩ := box_all h.1; go_simp⟩) s0 ?_
    go_simp
    refine wpAnyH_all (rs := [2]) (by kernel_rfl) (by simp) (fun j hj => ?_)
    rw [List.mem_singleton] at hj
    subst hj
    refine wpOp_step rfl (fun K hK => ?_)
    go_simp
    refine (fields_any _ _).mono ?_
    rintro e W1 ⟨rfl, hb1⟩
    have s1 := s0.step hb1
    go_simp
    refine hK _ _ ⟨s1, ?_⟩
    clear hK K
    refine wpAnyH_take (i := 3) (v := .bool false) rfl (by kernel_rfl) (by kernel_rfl) (by kernel_rfl) (fun _ _ _ h => h) (Or.inl ⟨by kernel_rfl, by rintro w h; obtain ⟨c0, c1, c2, c3, c4, c5, c6, -⟩ := box_all h.1; go_simp; exact H0.out⟩) s1 ?_
    go_simp
    refine wpAnyH_take (i := 4) (v := .bool false) rfl (by kernel_rfl) (by kernel_rfl) (by kernel_rfl) (fun _ _ _ h => h) (Or.inl ⟨by kernel_rfl, by intro _ _; kernel_rfl⟩) s1 ?_
    go_simp
    refine wpAnyH_take (i := 5) (v := .agg #[.int .i64 v.k, .string v.name, .string v.to, .slice v.ao v.an v.ac, .slice v.bo v.bn v.bc, .slice v.co v.cn v.cc, .int .i64 v.n]) rfl (by kernel_rfl) (by kernel_rfl) (by kernel_rfl) (fun _ _ _ h => h) (Or.inl ⟨by kernel_rfl, by rintro w h; obtain ⟨c0, c1, c2, c3, c4, c5, c6, -⟩ := box_all h.1; go_simp⟩) s1 ?_
    go_simp
    refine wpAnyH_take (i := 6) (v := .agg #[.int .i64 v.k, .string v.name, .string v.to, .slice v.ao v.an v.ac, .slice v.bo v.bn v.bc, .slice v.co v.cn v.cc, .int .i64 v.n]) rfl (by kernel_rfl) (by kernel_rfl) (by kernel_rfl) (fun _ _ _ h => h) (Or.inl ⟨by kernel_rfl, by rintro w h; obtain ⟨c0, c1, c2, c3, c4, c5, c6, -⟩ := box_all h.1; go_simp⟩) s1 ?_
    go_simp
    refine wpAnyH_all (rs := [7]) (by kernel_rfl) (by simp) (fun j hj => ?_)
    rw [List.mem_singleton] at hj
    subst hj
    refine wpOp_step rfl (fun K hK => ?_)
    go_simp
    refine (bare_any v _).mono ?_
    rintro e W2 ⟨rfl, hb2⟩
    have s2 := s1.step hb2
    have o2 := s2.at_ ho
    obtain ⟨u, hu⟩ : ∃ u, keepL (fieldsOf v.k) v = u := ⟨_, rfl⟩
    have p2 : OpAt W2 u (keepC (fieldsOf v.k) c) := hu ▸ keep_at o2 _
    have Hs2 : Hid (sameOp v c u (keepC (fieldsOf v.k) c) = false) := Lib.hid (hu ▸ H1.out)
    rw [hu]
    clear hu o2
    go_simp
    refine hK _ _ ⟨s2, ?_⟩
    clear hK K
    refine wpAnyH_all (rs := [8]) (by kernel_rfl) (by simp) (fun j hj => ?_)
    rw [List.mem_singleton] at hj
    subst hj
    refine wpOp_step rfl (fun K hK => ?_)
    go_simp
    refine (sameOp_any v u c (keepC (fieldsOf v.k) c) _ (s2.at_ ho) p2).mono ?_
    rintro e W3 ⟨rfl, hb3⟩
    rw [Hs2.out]
    have s3 := s2.step hb3
    go_simp
    refine hK _ _ ⟨s3, ?_⟩
    clear hK K
    refine wpAnyH_take (i := 9) (v := .bool true) rfl (by kernel_rfl) (by kernel_rfl) (by kernel_rfl) (fun _ _ _ h => h) (Or.inl ⟨by kernel_rfl, by rintro w h; obtain ⟨c0, c1, c2, c3, c4, c5, c6, -⟩ := box_all h.1; go_simp⟩) s3 ?_
    go_simp
    refine wpAnyH_take (i := 10) (v := .bool true) rfl (by kernel_rfl) (by kernel_rfl) (by kernel_rfl) (fun _ _ _ h => h) (Or.inl ⟨by kernel_rfl, by intro _ _; kernel_rfl⟩) s3 ?_
    go_simp
    refine wpAnyH_take (i := 11) (v := .bool true) rfl (by kernel_rfl) (by kernel_rfl) (by kernel_rfl) (fun _ _ _ h => h) (Or.inl ⟨by kernel_rfl, by intro _ _; kernel_rfl⟩) s3 ?_
    go_simp
    refine wpAnyH_take (i := 12) (v := undef) rfl (by kernel_rfl) (by kernel_rfl) (by kernel_rfl) (fun _ _ _ h => h) (Or.inr ⟨by kernel_rfl, rfl⟩) s3 ?_
    go_simp
    refine wpAnyH_take (i := 13) (v := undef) rfl (by kernel_rfl) (by kernel_rfl) (by kernel_rfl) (fun _ _ _ h => h) (Or.inr ⟨by kernel_rfl, rfl⟩) s3 ?_
    go_simp
    refine wpAnyH_take (i := 14) (v := undef) rfl (by kernel_rfl) (by kernel_rfl) (by kernel_rfl) (fun _ _ _ h => h) (Or.inr ⟨by kernel_rfl, rfl⟩) s3 ?_
    go_simp
    refine wpAnyH_take (i := 15) (v := undef) rfl (by kernel_rfl) (by kernel_rfl) (by kernel_rfl) (fun _ _ _ h => h) (Or.inr ⟨by kernel_rfl, rfl⟩) s3 ?_
    go_simp
    refine wpAnyH_take (i := 16) (v := .bool true) rfl (by kernel_rfl) (by kernel_rfl) (by kernel_rfl) (fun _ _ _ h => h) (Or.inl ⟨by kernel_rfl, by intro _ _; kernel_rfl⟩) s3 ?_
    go_simp
    refine wpAnyH_take (i := 17) (v := .bool true) rfl (by kernel_rfl) (by kernel_rfl) (by kernel_rfl) (fun _ _ _ h => h) (Or.inl ⟨by kernel_rfl, by intro _ _; kernel_rfl⟩) s3 ?_
    go_simp
    refine wpAnyH_take (i := 18) (v := undef) rfl (by kernel_rfl) (by kernel_rfl) (by kernel_rfl) (fun _ _ _ h => h) (Or.inr ⟨by kernel_rfl, rfl⟩) s3 ?_
    go_simp
    refine wpAnyH_take (i := 19) (v := undef) rfl (by kernel_rfl) (by kernel_rfl) (by kernel_rfl) (fun _ _ _ h => h) (Or.inr ⟨by kernel_rfl, rfl⟩) s3 ?_
    go_simp
    refine wpAnyH_take (i := 20) (v := undef) rfl (by kernel_rfl) (by kernel_rfl) (by kernel_rfl) (fun _ _ _ h => h) (Or.inr ⟨by kernel_rfl, rfl⟩) s3 ?_
    go_simp
    refine wpAnyH_take (i := 21) (v := undef) rfl (by kernel_rfl) (by kernel_rfl) (by kernel_rfl) (fun _ _ _ h => h) (Or.inr ⟨by kernel_rfl, rfl⟩) s3 ?_
    go_simp
    refine wpAnyH_take (i := 22) (v := .bool true) rfl (by kernel_rfl) (by kernel_rfl) (by kernel_rfl) (fun _ _ _ h => h) (Or.inl ⟨by kernel_rfl, by intro _ _; kernel_rfl⟩) s3 ?_
    go_simp
    refine wpAnyH_take (i := 23) (v := .bool true) rfl (by kernel_rfl) (by kernel_rfl) (by kernel_rfl) (fun _ _ _ h => h) (Or.inl ⟨by kernel_rfl, by intro _ _; kernel_rfl⟩) s3 ?_
    go_simp
    refine wpAnyH_take (i := 24) (v := undef) rfl (by kernel_rfl) (by kernel_rfl) (by kernel_rfl) (fun _ _ _ h => h) (Or.inr ⟨by kernel_rfl, rfl⟩) s3 ?_
    go_simp
    refine wpAnyH_take (i := 25) (v := undef) rfl (by kernel_rfl) (by kernel_rfl) (by kernel_rfl) (fun _ _ _ h => h) (Or.inr ⟨by kernel_rfl, rfl⟩) s3 ?_
    go_simp
    refine wpAnyH_take (i := 26) (v := undef) rfl (by kernel_rfl) (by kernel_rfl) (by kernel_rfl) (fun _ _ _ h => h) (Or.inr ⟨by kernel_rfl, rfl⟩) s3 ?_
    go_simp
    refine wpAnyH_take (i := 27) (v := undef) rfl (by kernel_rfl) (by kernel_rfl) (by kernel_rfl) (fun _ _ _ h => h) (Or.inr ⟨by kernel_rfl, rfl⟩) s3 ?_
    go_simp
    refine wpAnyH_take (i := 28) (v := .bool true) rfl (by kernel_rfl) (by kernel_rfl) (by kernel_rfl) (fun _ _ _ h => h) (Or.inl ⟨by kernel_rfl, by intro _ _; kernel_rfl⟩) s3 ?_
    go_simp
    refine wpAnyH_take (i := 29) (v := .bool true) rfl (by kernel_rfl) (by kernel_rfl) (by kernel_rfl) (fun _ _ _ h => h) (Or.inl ⟨by kernel_rfl, by intro _ _; kernel_rfl⟩) s3 ?_
    go_simp
    refine wpAnyH_take (i := 30) (v := undef) rfl (by kernel_rfl) (by kernel_rfl) (by kernel_rfl) (fun _ _ _ h => h) (Or.inr ⟨by kernel_rfl, rfl⟩) s3 ?_
    go_simp
    refine wpAnyH_take (i := 31) (v := undef) rfl (by kernel_rfl) (by kernel_rfl) (by kernel_rfl) (fun _ _ _ h => h) (Or.inr ⟨by kernel_rfl, rfl⟩) s3 ?_
    go_simp
    refine wpAnyH_take (i := 32) (v := undef) rfl (by kernel_rfl) (by kernel_rfl) (by kernel_rfl) (fun _ _ _ h => h) (Or.inr ⟨by kernel_rfl, rfl⟩) s3 ?_
    go_simp
    refine wpAnyH_take (i := 33) (v := undef) rfl (by kernel_rfl) (by kernel_rfl) (by kernel_rfl) (fun _ _ _ h => h) (Or.inr ⟨by kernel_rfl, rfl⟩) s3 ?_
    go_simp
    refine wpAnyH_take (i := 34) (v := .bool true) rfl (by kernel_rfl) (by kernel_rfl) (by kernel_rfl) (fun _ _ _ h => h) (Or.inl ⟨by kernel_rfl, by intro _ _; kernel_rfl⟩) s3 ?_
    go_simp
    refine wpAnyH_done (by kernel_rfl) ?_ _
    go_wp2_with fail
    go_ret
    exact ⟨by rw [Hr.out]; rfl, s3.2⟩
  replace h1 : sameOp v c (keepL (fieldsOf v.k) v) (keepC (fieldsOf v.k) c) = true := by simpa using h1
  have H1 : Hid (sameOp v c (keepL (fieldsOf v.k) v) (keepC (fieldsOf v.k) c) = true) := Lib.hid h1
  clear h1
  by_cases h2 : (!mayName v.name) = true
  · have H2 := Lib.hid h2
    have Hr : Hid (mayOpA v c attrs = false) := Lib.hid (may_fact (.inr (.inr (.inl (by simpa using H2.out)))))
    clear h2 hA
    unfold OV.val
    go_enter Tryz.func13, Tryz.ntmps13
    go_wp2_with fail
    refine wp_region_held (S := InBox w v) hmo ?_
    change wpAnyH _ _ _ _ _ _ _ _ (World.drew _)
    refine wpAnyH_take (i := 0) (v := .pointer (some ⟨w.heap.size, 0, none⟩)) rfl (by kernel_rfl) (by kernel_rfl) (by kernel_rfl) (fun _ _ _ h => h) (Or.inl ⟨by kernel_rfl, by intro _ _; kernel_rfl⟩) s0 ?_
    go_simp
    refine wpAnyH_take (i := 1) (v := .int .i64 v.k) rfl (by kernel_rfl) (by kernel_rfl) (by kernel_rfl) (fun _ _ _ h => h) (Or.inl ⟨by kernel_rfl, by rintro w h; obtain ⟨c0, c1, c2, c3, c4, c5, c6, -⟩ := box_all h.1; go_simp⟩) s0 ?_
    go_simp
    refine wpAnyH_all (rs := [2]) (by kernel_rfl) (by simp) (fun j hj => ?_)
    rw [List.mem_singleton] at hj
    subst hj
    refine wpOp_step rfl (fun K hK => ?_)
    go_simp
    refine (fields_any _ _).mono ?_
    rintro e W1 ⟨rfl, hb1⟩
    have s1 := s0.step hb1
    go_simp
    refine hK _ _ ⟨s1, ?_⟩
    clear hK K
    refine wpAnyH_take (i := 3) (v := .bool false) rfl (by kernel_rfl) (by kernel_rfl) (by kernel_rfl) (fun _ _ _ h => h) (Or.inl ⟨by kernel_rfl, by rintro w h; obtain ⟨c0, c1, c2, c3, c4, c5, c6, -⟩ := box_all h.1; go_simp; exact H0.out⟩) s1 ?_
    go_simp
    refine wpAnyH_take (i := 4) (v := .bool false) rfl (by kernel_rfl) (by kernel_rfl) (by kernel_rfl) (fun _ _ _ h => h) (Or.inl ⟨by kernel_rfl, by intro _ _; kernel_rfl⟩) s1 ?_
    go_simp
    refine wpAnyH_take (i := 5) (v := .agg #[.int .i64 v.k, .string v.name, .string v.to, .slice v.ao v.an v.ac, .slice v.bo v.bn v.bc, .slice v.co v.cn v.cc, .int .i64 v.n]) rfl (by kernel_rfl) (by kernel_rfl) (by kernel_rfl) (fun _ _ _ h => h) (Or.inl ⟨by kernel_rfl, by rintro w h; obtain ⟨c0, c1, c2, c3, c4, c5, c6, -⟩ := box_all h.1; go_simp⟩) s1 ?_
    go_simp
    refine wpAnyH_take (i := 6) (v := .agg #[.int .i64 v.k, .string v.name, .string v.to, .slice v.ao v.an v.ac, .slice v.bo v.bn v.bc, .slice v.co v.cn v.cc, .int .i64 v.n]) rfl (by kernel_rfl) (by kernel_rfl) (by kernel_rfl) (fun _ _ _ h => h) (Or.inl ⟨by kernel_rfl, by rintro w h; obtain ⟨c0, c1, c2, c3, c4, c5, c6, -⟩ := box_all h.1; go_simp⟩) s1 ?_
    go_simp
    refine wpAnyH_all (rs := [7]) (by kernel_rfl) (by simp) (fun j hj => ?_)
    rw [List.mem_singleton] at hj
    subst hj
    refine wpOp_step rfl (fun K hK => ?_)
    go_simp
    refine (bare_any v _).mono ?_
    rintro e W2 ⟨rfl, hb2⟩
    have s2 := s1.step hb2
    have o2 := s2.at_ ho
    obtain ⟨u, hu⟩ : ∃ u, keepL (fieldsOf v.k) v = u := ⟨_, rfl⟩
    have p2 : OpAt W2 u (keepC (fieldsOf v.k) c) := hu ▸ keep_at o2 _
    have Hs2 : Hid (sameOp v c u (keepC (fieldsOf v.k) c) = true) := Lib.hid (hu ▸ H1.out)
    rw [hu]
    clear hu o2
    go_simp
    refine hK _ _ ⟨s2, ?_⟩
    clear hK K
    refine wpAnyH_all (rs := [8]) (by kernel_rfl) (by simp) (fun j hj => ?_)
    rw [List.mem_singleton] at hj
    subst hj
    refine wpOp_step rfl (fun K hK => ?_)
    go_simp
    refine (sameOp_any v u c (keepC (fieldsOf v.k) c) _ (s2.at_ ho) p2).mono ?_
    rintro e W3 ⟨rfl, hb3⟩
    rw [Hs2.out]
    have s3 := s2.step hb3
    go_simp
    refine hK _ _ ⟨s3, ?_⟩
    clear hK K
    refine wpAnyH_take (i := 9) (v := .bool false) rfl (by kernel_rfl) (by kernel_rfl) (by kernel_rfl) (fun _ _ _ h => h) (Or.inl ⟨by kernel_rfl, by rintro w h; obtain ⟨c0, c1, c2, c3, c4, c5, c6, -⟩ := box_all h.1; go_simp⟩) s3 ?_
    go_simp
    refine wpAnyH_take (i := 10) (v := .bool false) rfl (by kernel_rfl) (by kernel_rfl) (by kernel_rfl) (fun _ _ _ h => h) (Or.inl ⟨by kernel_rfl, by intro _ _; kernel_rfl⟩) s3 ?_
    go_simp
    refine wpAnyH_take (i := 11) (v := .bool false) rfl (by kernel_rfl) (by kernel_rfl) (by kernel_rfl) (fun _ _ _ h => h) (Or.inl ⟨by kernel_rfl, by intro _ _; kernel_rfl⟩) s3 ?_
    go_simp
    refine wpAnyH_take (i := 12) (v := .func (.func 66) #[] #[]) rfl (by kernel_rfl) (by kernel_rfl) (by kernel_rfl) (fun _ _ _ h => h) (Or.inl ⟨by kernel_rfl, by intro _ _; kernel_rfl⟩) s3 ?_
    go_simp
    refine wpAnyH_take (i := 13) (v := .pointer (some ⟨w.heap.size, 1, none⟩)) rfl (by kernel_rfl) (by kernel_rfl) (by kernel_rfl) (fun _ _ _ h => h) (Or.inl ⟨by kernel_rfl, by intro _ _; kernel_rfl⟩) s3 ?_
    go_simp
    refine wpAnyH_take (i := 14) (v := .string v.name) rfl (by kernel_rfl) (by kernel_rfl) (by kernel_rfl) (fun _ _ _ h => h) (Or.inl ⟨by kernel_rfl, by rintro w h; obtain ⟨c0, c1, c2, c3, c4, c5, c6, -⟩ := box_all h.1; go_simp⟩) s3 ?_
    go_simp
    refine wpAnyH_all (rs := [15]) (by kernel_rfl) (by simp) (fun j hj => ?_)
    rw [List.mem_singleton] at hj
    subst hj
    refine wpOp_step rfl (fun K hK => ?_)
    go_simp
    refine (odd_any _ _).mono ?_
    rintro e W4 ⟨rfl, hb4⟩
    rw [H2.out]
    have s4 := s3.step hb4
    go_simp
    refine hK _ _ ⟨s4, ?_⟩
    clear hK K
    refine wpAnyH_take (i := 16) (v := .bool true) rfl (by kernel_rfl) (by kernel_rfl) (by kernel_rfl) (fun _ _ _ h => h) (Or.inl ⟨by kernel_rfl, by intro _ _; kernel_rfl⟩) s4 ?_
    go_simp
    refine wpAnyH_take (i := 17) (v := .bool true) rfl (by kernel_rfl) (by kernel_rfl) (by kernel_rfl) (fun _ _ _ h => h) (Or.inl ⟨by kernel_rfl, by intro _ _; kernel_rfl⟩) s4 ?_
    go_simp
    refine wpAnyH_take (i := 18) (v := undef) rfl (by kernel_rfl) (by kernel_rfl) (by kernel_rfl) (fun _ _ _ h => h) (Or.inr ⟨by kernel_rfl, rfl⟩) s4 ?_
    go_simp
    refine wpAnyH_take (i := 19) (v := undef) rfl (by kernel_rfl) (by kernel_rfl) (by kernel_rfl) (fun _ _ _ h => h) (Or.inr ⟨by kernel_rfl, rfl⟩) s4 ?_
    go_simp
    refine wpAnyH_take (i := 20) (v := undef) rfl (by kernel_rfl) (by kernel_rfl) (by kernel_rfl) (fun _ _ _ h => h) (Or.inr ⟨by kernel_rfl, rfl⟩) s4 ?_
    go_simp
    refine wpAnyH_take (i := 21) (v := undef) rfl (by kernel_rfl) (by kernel_rfl) (by kernel_rfl) (fun _ _ _ h => h) (Or.inr ⟨by kernel_rfl, rfl⟩) s4 ?_
    go_simp
    refine wpAnyH_take (i := 22) (v := .bool true) rfl (by kernel_rfl) (by kernel_rfl) (by kernel_rfl) (fun _ _ _ h => h) (Or.inl ⟨by kernel_rfl, by intro _ _; kernel_rfl⟩) s4 ?_
    go_simp
    refine wpAnyH_take (i := 23) (v := .bool true) rfl (by kernel_rfl) (by kernel_rfl) (by kernel_rfl) (fun _ _ _ h => h) (Or.inl ⟨by kernel_rfl, by intro _ _; kernel_rfl⟩) s4 ?_
    go_simp
    refine wpAnyH_take (i := 24) (v := undef) rfl (by kernel_rfl) (by kernel_rfl) (by kernel_rfl) (fun _ _ _ h => h) (Or.inr ⟨by kernel_rfl, rfl⟩) s4 ?_
    go_simp
    refine wpAnyH_take (i := 25) (v := undef) rfl (by kernel_rfl) (by kernel_rfl) (by kernel_rfl) (fun _ _ _ h => h) (Or.inr ⟨by kernel_rfl, rfl⟩) s4 ?_
    go_simp
    refine wpAnyH_take (i := 26) (v := undef) rfl (by kernel_rfl) (by kernel_rfl) (by kernel_rfl) (fun _ _ _ h => h) (Or.inr ⟨by kernel_rfl, rfl⟩) s4 ?_
    go_simp
    refine wpAnyH_take (i := 27) (v := undef) rfl (by kernel_rfl) (by kernel_rfl) (by kernel_rfl) (fun _ _ _ h => h) (Or.inr ⟨by kernel_rfl, rfl⟩) s4 ?_
    go_simp
    refine wpAnyH_take (i := 28) (v := .bool true) rfl (by kernel_rfl) (by kernel_rfl) (by kernel_rfl) (fun _ _ _ h => h) (Or.inl ⟨by kernel_rfl, by intro _ _; kernel_rfl⟩) s4 ?_
    go_simp
    refine wpAnyH_take (i := 29) (v := .bool true) rfl (by kernel_rfl) (by kernel_rfl) (by kernel_rfl) (fun _ _ _ h => h) (Or.inl ⟨by kernel_rfl, by intro _ _; kernel_rfl⟩) s4 ?_
    go_simp
    refine wpAnyH_take (i := 30) (v := undef) rfl (by kernel_rfl) (by kernel_rfl) (by kernel_rfl) (fun _ _ _ h => h) (Or.inr ⟨by kernel_rfl, rfl⟩) s4 ?_
    go_simp
    refine wpAnyH_take (i := 31) (v := undef) rfl (by kernel_rfl) (by kernel_rfl) (by kernel_rfl) (fun _ _ _ h => h) (Or.inr ⟨by kernel_rfl, rfl⟩) s4 ?_
    go_simp
    refine wpAnyH_take (i := 32) (v := undef) rfl (by kernel_rfl) (by kernel_rfl) (by kernel_rfl) (fun _ _ _ h => h) (Or.inr ⟨by kernel_rfl, rfl⟩) s4 ?_
    go_simp
    refine wpAnyH_take (i := 33) (v := undef) rfl (by kernel_rfl) (by kernel_rfl) (by kernel_rfl) (fun _ _ _ h => h) (Or.inr ⟨by kernel_rfl, rfl⟩) s4 ?_
    go_simp
    refine wpAnyH_take (i := 34) (v := .bool true) rfl (by kernel_rfl) (by kernel_rfl) (by kernel_rfl) (fun _ _ _ h => h) (Or.inl ⟨by kernel_rfl, by intro _ _; kernel_rfl⟩) s4 ?_
    go_simp
    refine wpAnyH_done (by kernel_rfl) ?_ _
    go_wp2_with fail
    go_ret
    exact ⟨by rw [Hr.out]; rfl, s4.2⟩
  replace h2 : (!mayName v.name) = false := by simpa using h2
  have H2 : Hid ((!mayName v.name) = false) := Lib.hid h2
  clear h2
  by_cases h3 : (!mayName v.to) = true
  · have H3 := Lib.hid h3
    have Hr : Hid (mayOpA v c attrs = false) := Lib.hid (may_fact (.inr (.inr (.inr (.inl (by simpa using H3.out))))))
    clear h3 hA
    unfold OV.val
    go_enter Tryz.func13, Tryz.ntmps13
    go_wp2_with fail
    refine wp_region_held (S := InBox w v) hmo ?_
    change wpAnyH _ _ _ _ _ _ _ _ (World.drew _)
    refine wpAnyH_take (i := 0) (v := .pointer (some ⟨w.heap.size, 0, none⟩)) rfl (by kernel_rfl) (by kernel_rfl) (by kernel_rfl) (fun _ _ _ h => h) (Or.inl ⟨by kernel_rfl, by intro _ _; kernel_rfl⟩) s0 ?_
    go_simp
    refine wpAnyH_take (i := 1) (v := .int .i64 v.k) rfl (by kernel_rfl) (by kernel_rfl) (by kernel_rfl) (fun _ _ _ h => h) (Or.inl ⟨by kernel_rfl, by rintro w h; obtain ⟨c0, c1, c2, c3, c4, c5, c6, -⟩ := box_all h.1; go_simp⟩) s0 ?_
    go_simp
    refine wpAnyH_all (rs := [2]) (by kernel_rfl) (by simp) (fun j hj => ?_)
    rw [List.mem_singleton] at hj
    subst hj
    refine wpOp_step rfl (fun K hK => ?_)
    go_simp
    refine (fields_any _ _).mono ?_
    rintro e W1 ⟨rfl, hb1⟩
    have s1 := s0.step hb1
    go_simp
    refine hK _ _ ⟨s1, ?_⟩
    clear hK K
    refine wpAnyH_take (i := 3) (v := .bool false) rfl (by kernel_rfl) (by kernel_rfl) (by kernel_rfl) (fun _ _ _ h => h) (Or.inl ⟨by kernel_rfl, by rintro w h; obtain ⟨c0, c1, c2, c3, c4, c5, c6, -⟩ := box_all h.1; go_simp; exact H0.out⟩) s1 ?_
    go_simp
    refine wpAnyH_take (i := 4) (v := .bool false) rfl (by kernel_rfl) (by kernel_rfl) (by kernel_rfl) (fun _ _ _ h => h) (Or.inl ⟨by kernel_rfl, by intro _ _; kernel_rfl⟩) s1 ?_
    go_simp
    refine wpAnyH_take (i := 5) (v := .agg #[.int .i64 v.k, .string v.name, .string v.to, .slice v.ao v.an v.ac, .slice v.bo v.bn v.bc, .slice v.co v.cn v.cc, .int .i64 v.n]) rfl (by kernel_rfl) (by kernel_rfl) (by kernel_rfl) (fun _ _ _ h => h) (Or.inl ⟨by kernel_rfl, by rintro w h; obtain ⟨c0, c1, c2, c3, c4, c5, c6, -⟩ := box_all h.1; go_simp⟩) s1 ?_
    go_simp
    refine wpAnyH_take (i := 6) (v := .agg #[.int .i64 v.k, .string v.name, .string v.to, .slice v.ao v.an v.ac, .slice v.bo v.bn v.bc, .slice v.co v.cn v.cc, .int .i64 v.n]) rfl (by kernel_rfl) (by kernel_rfl) (by kernel_rfl) (fun _ _ _ h => h) (Or.inl ⟨by kernel_rfl, by rintro w h; obtain ⟨c0, c1, c2, c3, c4, c5, c6, -⟩ := box_all h.1; go_simp⟩) s1 ?_
    go_simp
    refine wpAnyH_all (rs := [7]) (by kernel_rfl) (by simp) (fun j hj => ?_)
    rw [List.mem_singleton] at hj
    subst hj
    refine wpOp_step rfl (fun K hK => ?_)
    go_simp
    refine (bare_any v _).mono ?_
    rintro e W2 ⟨rfl, hb2⟩
    have s2 := s1.step hb2
    have o2 := s2.at_ ho
    obtain ⟨u, hu⟩ : ∃ u, keepL (fieldsOf v.k) v = u := ⟨_, rfl⟩
    have p2 : OpAt W2 u (keepC (fieldsOf v.k) c) := hu ▸ keep_at o2 _
    have Hs2 : Hid (sameOp v c u (keepC (fieldsOf v.k) c) = true) := Lib.hid (hu ▸ H1.out)
    rw [hu]
    clear hu o2
    go_simp
    refine hK _ _ ⟨s2, ?_⟩
    clear hK K
    refine wpAnyH_all (rs := [8]) (by kernel_rfl) (by simp) (fun j hj => ?_)
    rw [List.mem_singleton] at hj
    subst hj
    refine wpOp_step rfl (fun K hK => ?_)
    go_simp
    refine (sameOp_any v u c (keepC (fieldsOf v.k) c) _ (s2.at_ ho) p2).mono ?_
    rintro e W3 ⟨rfl, hb3⟩
    rw [Hs2.out]
    have s3 := s2.step hb3
    go_simp
    refine hK _ _ ⟨s3, ?_⟩
    clear hK K
    refine wpAnyH_take (i := 9) (v := .bool false) rfl (by kernel_rfl) (by kernel_rfl) (by kernel_rfl) (fun _ _ _ h => h) (Or.inl ⟨by kernel_rfl, by rintro w h; obtain ⟨c0, c1, c2, c3, c4, c5, c6, -⟩ := box_all h.1; go_simp⟩) s3 ?_
    go_simp
    refine wpAnyH_take (i := 10) (v := .bool false) rfl (by kernel_rfl) (by kernel_rfl) (by kernel_rfl) (fun _ _ _ h => h) (Or.inl ⟨by kernel_rfl, by intro _ _; kernel_rfl⟩) s3 ?_
    go_simp
    refine wpAnyH_take (i := 11) (v := .bool false) rfl (by kernel_rfl) (by kernel_rfl) (by kernel_rfl) (fun _ _ _ h => h) (Or.inl ⟨by kernel_rfl, by intro _ _; kernel_rfl⟩) s3 ?_
    go_simp
    refine wpAnyH_take (i := 12) (v := .func (.func 66) #[] #[]) rfl (by kernel_rfl) (by kernel_rfl) (by kernel_rfl) (fun _ _ _ h => h) (Or.inl ⟨by kernel_rfl, by intro _ _; kernel_rfl⟩) s3 ?_
    go_simp
    refine wpAnyH_take (i := 13) (v := .pointer (some ⟨w.heap.size, 1, none⟩)) rfl (by kernel_rfl) (by kernel_rfl) (by kernel_rfl) (fun _ _ _ h => h) (Or.inl ⟨by kernel_rfl, by intro _ _; kernel_rfl⟩) s3 ?_
    go_simp
    refine wpAnyH_take (i := 14) (v := .string v.name) rfl (by kernel_rfl) (by kernel_rfl) (by kernel_rfl) (fun _ _ _ h => h) (Or.inl ⟨by kernel_rfl, by rintro w h; obtain ⟨c0, c1, c2, c3, c4, c5, c6, -⟩ := box_all h.1; go_simp⟩) s3 ?_
    go_simp
    refine wpAnyH_all (rs := [15]) (by kernel_rfl) (by simp) (fun j hj => ?_)
    rw [List.mem_singleton] at hj
    subst hj
    refine wpOp_step rfl (fun K hK => ?_)
    go_simp
    refine (odd_any _ _).mono ?_
    rintro e W4 ⟨rfl, hb4⟩
    rw [H2.out]
    have s4 := s3.step hb4
    go_simp
    refine hK _ _ ⟨s4, ?_⟩
    clear hK K
    refine wpAnyH_take (i := 16) (v := .bool false) rfl (by kernel_rfl) (by kernel_rfl) (by kernel_rfl) (fun _ _ _ h => h) (Or.inl ⟨by kernel_rfl, by intro _ _; kernel_rfl⟩) s4 ?_
    go_simp
    refine wpAnyH_take (i := 17) (v := .bool false) rfl (by kernel_rfl) (by kernel_rfl) (by kernel_rfl) (fun _ _ _ h => h) (Or.inl ⟨by kernel_rfl, by intro _ _; kernel_rfl⟩) s4 ?_
    go_simp
    refine wpAnyH_take (i := 18) (v := .func (.func 66) #[] #[]) rfl (by kernel_rfl) (by kernel_rfl) (by kernel_rfl) (fun _ _ _ h => h) (Or.inl ⟨by kernel_rfl, by intro _ _; kernel_rfl⟩) s4 ?_
    go_simp
    refine wpAnyH_take (i := 19) (v := .pointer (some ⟨w.heap.size, 2, none⟩)) rfl (by kernel_rfl) (by kernel_rfl) (by kernel_rfl) (fun _ _ _ h => h) (Or.inl ⟨by kernel_rfl, by intro _ _; kernel_rfl⟩) s4 ?_
    go_simp
    refine wpAnyH_take (i := 20) (v := .string v.to) rfl (by kernel_rfl) (by kernel_rfl) (by kernel_rfl) (fun _ _ _ h => h) (Or.inl ⟨by kernel_rfl, by rintro w h; obtain ⟨c0, c1, c2, c3, c4, c5, c6, -⟩ := box_all h.1; go_simp⟩) s4 ?_
    go_simp
    refine wpAnyH_all (rs := [21]) (by kernel_rfl) (by simp) (fun j hj => ?_)
    rw [List.mem_singleton] at hj
    subst hj
    refine wpOp_step rfl (fun K hK => ?_)
    go_simp
    refine (odd_any _ _).mono ?_
    rintro e W5 ⟨rfl, hb5⟩
    rw [H3.out]
    have s5 := s4.step hb5
    go_simp
    refine hK _ _ ⟨s5, ?_⟩
    clear hK K
    refine wpAnyH_take (i := 22) (v := .bool true) rfl (by kernel_rfl) (by kernel_rfl) (by kernel_rfl) (fun _ _ _ h => h) (Or.inl ⟨by kernel_rfl, by intro _ _; kernel_rfl⟩) s5 ?_
    go_simp
    refine wpAnyH_take (i := 23) (v := .bool true) rfl (by kernel_rfl) (by kernel_rfl) (by kernel_rfl) (fun _ _ _ h => h) (Or.inl ⟨by kernel_rfl, by intro _ _; kernel_rfl⟩) s5 ?_
    go_simp
    refine wpAnyH_take (i := 24) (v := undef) rfl (by kernel_rfl) (by kernel_rfl) (by kernel_rfl) (fun _ _ _ h => h) (Or.inr ⟨by kernel_rfl, rfl⟩) s5 ?_
    go_simp
    refine wpAnyH_take (i := 25) (v := undef) rfl (by kernel_rfl) (by kernel_rfl) (by kernel_rfl) (fun _ _ _ h => h) (Or.inr ⟨by kernel_rfl, rfl⟩) s5 ?_
    go_simp
    refine wpAnyH_take (i := 26) (v := undef) rfl (by kernel_rfl) (by kernel_rfl) (by kernel_rfl) (fun _ _ _ h => h) (Or.inr ⟨by kernel_rfl, rfl⟩) s5 ?_
    go_simp
    refine wpAnyH_take (i := 27) (v := undef) rfl (by kernel_rfl) (by kernel_rfl) (by kernel_rfl) (fun _ _ _ h => h) (Or.inr ⟨by kernel_rfl, rfl⟩) s5 ?_
    go_simp
    refine wpAnyH_take (i := 28) (v := .bool true) rfl (by kernel_rfl) (by kernel_rfl) (by kernel_rfl) (fun _ _ _ h => h) (Or.inl ⟨by kernel_rfl, by intro _ _; kernel_rfl⟩) s5 ?_
    go_simp
    refine wpAnyH_take (i := 29) (v := .bool true) rfl (by kernel_rfl) (by kernel_rfl) (by kernel_rfl) (fun _ _ _ h => h) (Or.inl ⟨by kernel_rfl, by intro _ _; kernel_rfl⟩) s5 ?_
    go_simp
    refine wpAnyH_take (i := 30) (v := undef) rfl (by kernel_rfl) (by kernel_rfl) (by kernel_rfl) (fun _ _ _ h => h) (Or.inr ⟨by kernel_rfl, rfl⟩) s5 ?_
    go_simp
    refine wpAnyH_take (i := 31) (v := undef) rfl (by kernel_rfl) (by kernel_rfl) (by kernel_rfl) (fun _ _ _ h => h) (Or.inr ⟨by kernel_rfl, rfl⟩) s5 ?_
    go_simp
    refine wpAnyH_take (i := 32) (v := undef) rfl (by kernel_rfl) (by kernel_rfl) (by kernel_rfl) (fun _ _ _ h => h) (Or.inr ⟨by kernel_rfl, rfl⟩) s5 ?_
    go_simp
    refine wpAnyH_take (i := 33) (v := undef) rfl (by kernel_rfl) (by kernel_rfl) (by kernel_rfl) (fun _ _ _ h => h) (Or.inr ⟨by kernel_rfl, rfl⟩) s5 ?_
    go_simp
    refine wpAnyH_take (i := 34) (v := .bool true) rfl (by kernel_rfl) (by kernel_rfl) (by kernel_rfl) (fun _ _ _ h => h) (Or.inl ⟨by kernel_rfl, by intro _ _; kernel_rfl⟩) s5 ?_
    go_simp
    refine wpAnyH_done (by kernel_rfl) ?_ _
    go_wp2_with fail
    go_ret
    exact ⟨by rw [Hr.out]; rfl, s5.2⟩
  replace h3 : (!mayName v.to) = false := by simpa using h3
  have H3 : Hid ((!mayName v.to) = false) := Lib.hid h3
  clear h3
  by_cases h4 : decide (50 < (v.an : Int)) = true
  · have f4 := h4
    have Hr : Hid (mayOpA v c attrs = false) := Lib.hid (may_fact (.inr (.inr (.inr (.inr (.inl (decide_eq_false (by have := of_decide_eq_true f4; omega))))))))
    clear h4 hA
    unfold OV.val
    go_enter Tryz.func13, Tryz.ntmps13
    go_wp2_with fail
    refine wp_region_held (S := InBox w v) hmo ?_
    change wpAnyH _ _ _ _ _ _ _ _ (World.drew _)
    refine wpAnyH_take (i := 0) (v := .pointer (some ⟨w.heap.size, 0, none⟩)) rfl (by kernel_rfl) (by kernel_rfl) (by kernel_rfl) (fun _ _ _ h => h) (Or.inl ⟨by kernel_rfl, by intro _ _; kernel_rfl⟩) s0 ?_
    go_simp
    refine wpAnyH_take (i := 1) (v := .int .i64 v.k) rfl (by kernel_rfl) (by kernel_rfl) (by kernel_rfl) (fun _ _ _ h => h) (Or.inl ⟨by kernel_rfl, by rintro w h; obtain ⟨c0, c1, c2, c3, c4, c5, c6, -⟩ := box_all h.1; go_simp⟩) s0 ?_
    go_simp
    refine wpAnyH_all (rs := [2]) (by kernel_rfl) (by simp) (fun j hj => ?_)
    rw [List.mem_singleton] at hj
    subst hj
    refine wpOp_step rfl (fun K hK => ?_)
    go_simp
    refine (fields_any _ _).mono ?_
    rintro e W1 ⟨rfl, hb1⟩
    have s1 := s0.step hb1
    go_simp
    refine hK _ _ ⟨s1, ?_⟩
    clear hK K
    refine wpAnyH_take (i := 3) (v := .bool false) rfl (by kernel_rfl) (by kernel_rfl) (by kernel_rfl) (fun _ _ _ h => h) (Or.inl ⟨by kernel_rfl, by rintro w h; obtain ⟨c0, c1, c2, c3, c4, c5, c6, -⟩ := box_all h.1; go_simp; exact H0.out⟩) s1 ?_
    go_simp
    refine wpAnyH_take (i := 4) (v := .bool false) rfl (by kernel_rfl) (by kernel_rfl) (by kernel_rfl) (fun _ _ _ h => h) (Or.inl ⟨by kernel_rfl, by intro _ _; kernel_rfl⟩) s1 ?_
    go_simp
    refine wpAnyH_take (i := 5) (v := .agg #[.int .i64 v.k, .string v.name, .string v.to, .slice v.ao v.an v.ac, .slice v.bo v.bn v.bc, .slice v.co v.cn v.cc, .int .i64 v.n]) rfl (by kernel_rfl) (by kernel_rfl) (by kernel_rfl) (fun _ _ _ h => h) (Or.inl ⟨by kernel_rfl, by rintro w h; obtain ⟨c0, c1, c2, c3, c4, c5, c6, -⟩ := box_all h.1; go_simp⟩) s1 ?_
    go_simp
    refine wpAnyH_take (i := 6) (v := .agg #[.int .i64 v.k, .string v.name, .string v.to, .slice v.ao v.an v.ac, .slice v.bo v.bn v.bc, .slice v.co v.cn v.cc, .int .i64 v.n]) rfl (by kernel_rfl) (by kernel_rfl) (by kernel_rfl) (fun _ _ _ h => h) (Or.inl ⟨by kernel_rfl, by rintro w h; obtain ⟨c0, c1, c2, c3, c4, c5, c6, -⟩ := box_all h.1; go_simp⟩) s1 ?_
    go_simp
    refine wpAnyH_all (rs := [7]) (by kernel_rfl) (by simp) (fun j hj => ?_)
    rw [List.mem_singleton] at hj
    subst hj
    refine wpOp_step rfl (fun K hK => ?_)
    go_simp
    refine (bare_any v _).mono ?_
    rintro e W2 ⟨rfl, hb2⟩
    have s2 := s1.step hb2
    have o2 := s2.at_ ho
    obtain ⟨u, hu⟩ : ∃ u, keepL (fieldsOf v.k) v = u := ⟨_, rfl⟩
    have p2 : OpAt W2 u (keepC (fieldsOf v.k) c) := hu ▸ keep_at o2 _
    have Hs2 : Hid (sameOp v c u (keepC (fieldsOf v.k) c) = true) := Lib.hid (hu ▸ H1.out)
    rw [hu]
    clear hu o2
    go_simp
    refine hK _ _ ⟨s2, ?_⟩
    clear hK K
    refine wpAnyH_all (rs := [8]) (by kernel_rfl) (by simp) (fun j hj => ?_)
    rw [List.mem_singleton] at hj
    subst hj
    refine wpOp_step rfl (fun K hK => ?_)
    go_simp
    refine (sameOp_any v u c (keepC (fieldsOf v.k) c) _ (s2.at_ ho) p2).mono ?_
    rintro e W3 ⟨rfl, hb3⟩
    rw [Hs2.out]
    have s3 := s2.step hb3
    go_simp
    refine hK _ _ ⟨s3, ?_⟩
    clear hK K
    refine wpAnyH_take (i := 9) (v := .bool false) rfl (by kernel_rfl) (by kernel_rfl) (by kernel_rfl) (fun _ _ _ h => h) (Or.inl ⟨by kernel_rfl, by rintro w h; obtain ⟨c0, c1, c2, c3, c4, c5, c6, -⟩ := box_all h.1; go_simp⟩) s3 ?_
    go_simp
    refine wpAnyH_take (i := 10) (v := .bool false) rfl (by kernel_rfl) (by kernel_rfl) (by kernel_rfl) (fun _ _ _ h => h) (Or.inl ⟨by kernel_rfl, by intro _ _; kernel_rfl⟩) s3 ?_
    go_simp
    refine wpAnyH_take (i := 11) (v := .bool false) rfl (by kernel_rfl) (by kernel_rfl) (by kernel_rfl) (fun _ _ _ h => h) (Or.inl ⟨by kernel_rfl, by intro _ _; kernel_rfl⟩) s3 ?_
    go_simp
    refine wpAnyH_take (i := 12) (v := .func (.func 66) #[] #[]) rfl (by kernel_rfl) (by kernel_rfl) (by kernel_rfl) (fun _ _ _ h => h) (Or.inl ⟨by kernel_rfl, by intro _ _; kernel_rfl⟩) s3 ?_
    go_simp
    refine wpAnyH_take (i := 13) (v := .pointer (some ⟨w.heap.size, 1, none⟩)) rfl (by kernel_rfl) (by kernel_rfl) (by kernel_rfl) (fun _ _ _ h => h) (Or.inl ⟨by kernel_rfl, by intro _ _; kernel_rfl⟩) s3 ?_
    go_simp
    refine wpAnyH_take (i := 14) (v := .string v.name) rfl (by kernel_rfl) (by kernel_rfl) (by kernel_rfl) (fun _ _ _ h => h) (Or.inl ⟨by kernel_rfl, by rintro w h; obtain ⟨c0, c1, c2, c3, c4, c5, c6, -⟩ := box_all h.1; go_simp⟩) s3 ?_
    go_simp
    refine wpAnyH_all (rs := [15]) (by kernel_rfl) (by simp) (fun j hj => ?_)
    rw [List.mem_singleton] at hj
    subst hj
    refine wpOp_step rfl (fun K hK => ?_)
    go_simp
    refine (odd_any _ _).mono ?_
    rintro e W4 ⟨rfl, hb4⟩
    rw [H2.out]
    have s4 := s3.step hb4
    go_simp
    refine hK _ _ ⟨s4, ?_⟩
    clear hK K
    refine wpAnyH_take (i := 16) (v := .bool false) rfl (by kernel_rfl) (by kernel_rfl) (by kernel_rfl) (fun _ _ _ h => h) (Or.inl ⟨by kernel_rfl, by intro _ _; kernel_rfl⟩) s4 ?_
    go_simp
    refine wpAnyH_take (i := 17) (v := .bool false) rfl (by kernel_rfl) (by kernel_rfl) (by kernel_rfl) (fun _ _ _ h => h) (Or.inl ⟨by kernel_rfl, by intro _ _; kernel_rfl⟩) s4 ?_
    go_simp
    refine wpAnyH_take (i := 18) (v := .func (.func 66) #[] #[]) rfl (by kernel_rfl) (by kernel_rfl) (by kernel_rfl) (fun _ _ _ h => h) (Or.inl ⟨by kernel_rfl, by intro _ _; kernel_rfl⟩) s4 ?_
    go_simp
    refine wpAnyH_take (i := 19) (v := .pointer (some ⟨w.heap.size, 2, none⟩)) rfl (by kernel_rfl) (by kernel_rfl) (by kernel_rfl) (fun _ _ _ h => h) (Or.inl ⟨by kernel_rfl, by intro _ _; kernel_rfl⟩) s4 ?_
    go_simp
    refine wpAnyH_take (i := 20) (v := .string v.to) rfl (by kernel_rfl) (by kernel_rfl) (by kernel_rfl) (fun _ _ _ h => h) (Or.inl ⟨by kernel_rfl, by rintro w h; obtain ⟨c0, c1, c2, c3, c4, c5, c6, -⟩ := box_all h.1; go_simp⟩) s4 ?_
    go_simp
    refine wpAnyH_all (rs := [21]) (by kernel_rfl) (by simp) (fun j hj => ?_)
    rw [List.mem_singleton] at hj
    subst hj
    refine wpOp_step rfl (fun K hK => ?_)
    go_simp
    refine (odd_any _ _).mono ?_
    rintro e W5 ⟨rfl, hb5⟩
    rw [H3.out]
    have s5 := s4.step hb5
    go_simp
    refine hK _ _ ⟨s5, ?_⟩
    clear hK K
    refine wpAnyH_take (i := 22) (v := .bool false) rfl (by kernel_rfl) (by kernel_rfl) (by kernel_rfl) (fun _ _ _ h => h) (Or.inl ⟨by kernel_rfl, by intro _ _; kernel_rfl⟩) s5 ?_
    go_simp
    refine wpAnyH_take (i := 23) (v := .bool false) rfl (by kernel_rfl) (by kernel_rfl) (by kernel_rfl) (fun _ _ _ h => h) (Or.inl ⟨by kernel_rfl, by intro _ _; kernel_rfl⟩) s5 ?_
    go_simp
    refine wpAnyH_take (i := 24) (v := .pointer (some ⟨w.heap.size, 3, none⟩)) rfl (by kernel_rfl) (by kernel_rfl) (by kernel_rfl) (fun _ _ _ h => h) (Or.inl ⟨by kernel_rfl, by intro _ _; kernel_rfl⟩) s5 ?_
    go_simp
    refine wpAnyH_take (i := 25) (v := .slice v.ao v.an v.ac) rfl (by kernel_rfl) (by kernel_rfl) (by kernel_rfl) (fun _ _ _ h => h) (Or.inl ⟨by kernel_rfl, by rintro w h; obtain ⟨c0, c1, c2, c3, c4, c5, c6, -⟩ := box_all h.1; go_simp⟩) s5 ?_
    go_simp
    refine wpAnyH_take (i := 26) (v := .int .i64 (v.an : Int)) rfl (by kernel_rfl) (by kernel_rfl) (by kernel_rfl) (fun _ _ _ h => h) (Or.inl ⟨by kernel_rfl, by rintro w h; obtain ⟨c0, c1, c2, c3, c4, c5, c6, -⟩ := box_all h.1; go_simp⟩) s5 ?_
    go_simp
    refine wpAnyH_take (i := 27) (v := .bool true) rfl (by kernel_rfl) (by kernel_rfl) (by kernel_rfl) (fun _ _ _ h => h) (Or.inl ⟨by kernel_rfl, by rintro w h; obtain ⟨c0, c1, c2, c3, c4, c5, c6, -⟩ := box_all h.1; go_simp⟩) s5 ?_
    go_simp
    refine wpAnyH_take (i := 28) (v := .bool true) rfl (by kernel_rfl) (by kernel_rfl) (by kernel_rfl) (fun _ _ _ h => h) (Or.inl ⟨by kernel_rfl, by intro _ _; kernel_rfl⟩) s5 ?_
    go_simp
    refine wpAnyH_take (i := 29) (v := .bool true) rfl (by kernel_rfl) (by kernel_rfl) (by kernel_rfl) (fun _ _ _ h => h) (Or.inl ⟨by kernel_rfl, by intro _ _; kernel_rfl⟩) s5 ?_
    go_simp
    refine wpAnyH_take (i := 30) (v := undef) rfl (by kernel_rfl) (by kernel_rfl) (by kernel_rfl) (fun _ _ _ h => h) (Or.inr ⟨by kernel_rfl, rfl⟩) s5 ?_
    go_simp
    refine wpAnyH_take (i := 31) (v := undef) rfl (by kernel_rfl) (by kernel_rfl) (by kernel_rfl) (fun _ _ _ h => h) (Or.inr ⟨by kernel_rfl, rfl⟩) s5 ?_
    go_simp
    refine wpAnyH_take (i := 32) (v := undef) rfl (by kernel_rfl) (by kernel_rfl) (by kernel_rfl) (fun _ _ _ h => h) (Or.inr ⟨by kernel_rfl, rfl⟩) s5 ?_
    go_simp
    refine wpAnyH_take (i := 33) (v := undef) rfl (by kernel_rfl) (by kernel_rfl) (by kernel_rfl) (fun _ _ _ h => h) (Or.inr ⟨by kernel_rfl, rfl⟩) s5 ?_
    go_simp
    refine wpAnyH_take (i := 34) (v := .bool true) rfl (by kernel_rfl) (by kernel_rfl) (by kernel_rfl) (fun _ _ _ h => h) (Or.inl ⟨by kernel_rfl, by intro _ _; kernel_rfl⟩) s5 ?_
    go_simp
    refine wpAnyH_done (by kernel_rfl) ?_ _
    go_wp2_with fail
    go_ret
    exact ⟨by rw [Hr.out]; rfl, s5.2⟩
  have f4 : decide (50 < (v.an : Int)) = false := by cases e : decide (50 < (v.an : Int)) with | true => exact absurd e h4 | false => rfl
  clear h4
  by_cases h5 : (c.attrs.any fun u => !mayAttr u) = true
  · have H5 := Lib.hid h5
    have Hr : Hid (mayOpA v c attrs = false) := Lib.hid (may_fact (.inr (.inr (.inr (.inr (.inr H5.out))))))
    clear h5 hA
    unfold OV.val
    go_enter Tryz.func13, Tryz.ntmps13
    go_wp2_with fail
    refine wp_region_held (S := InBox w v) hmo ?_
    change wpAnyH _ _ _ _ _ _ _ _ (World.drew _)
    refine wpAnyH_take (i := 0) (v := .pointer (some ⟨w.heap.size, 0, none⟩)) rfl (by kernel_rfl) (by kernel_rfl) (by kernel_rfl) (fun _ _ _ h => h) (Or.inl ⟨by kernel_rfl, by intro _ _; kernel_rfl⟩) s0 ?_
    go_simp
    refine wpAnyH_take (i := 1) (v := .int .i64 v.k) rfl (by kernel_rfl) (by kernel_rfl) (by kernel_rfl) (fun _ _ _ h => h) (Or.inl ⟨by kernel_rfl, by rintro w h; obtain ⟨c0, c1, c2, c3, c4, c5, c6, -⟩ := box_all h.1; go_simp⟩) s0 ?_
    go_simp
    refine wpAnyH_all (rs := [2]) (by kernel_rfl) (by simp) (fun j hj => ?_)
    rw [List.mem_singleton] at hj
    subst hj
    refine wpOp_step rfl (fun K hK => ?_)
    go_simp
    refine (fields_any _ _).mono ?_
    rintro e W1 ⟨rfl, hb1⟩
    have s1 := s0.step hb1
    go_simp
    refine hK _ _ ⟨s1, ?_⟩
    clear hK K
    refine wpAnyH_take (i := 3) (v := .bool false) rfl (by kernel_rfl) (by kernel_rfl) (by kernel_rfl) (fun _ _ _ h => h) (Or.inl ⟨by kernel_rfl, by rintro w h; obtain ⟨c0, c1, c2, c3, c4, c5, c6, -⟩ := box_all h.1; go_simp; exact H0.out⟩) s1 ?_
    go_simp
    refine wpAnyH_take (i := 4) (v := .bool false) rfl (by kernel_rfl) (by kernel_rfl) (by kernel_rfl) (fun _ _ _ h => h) (Or.inl ⟨by kernel_rfl, by intro _ _; kernel_rfl⟩) s1 ?_
    go_simp
    refine wpAnyH_take (i := 5) (v := .agg #[.int .i64 v.k, .string v.name, .string v.to, .slice v.ao v.an v.ac, .slice v.bo v.bn v.bc, .slice v.co v.cn v.cc, .int .i64 v.n]) rfl (by kernel_rfl) (by kernel_rfl) (by kernel_rfl) (fun _ _ _ h => h) (Or.inl ⟨by kernel_rfl, by rintro w h; obtain ⟨c0, c1, c2, c3, c4, c5, c6, -⟩ := box_all h.1; go_simp⟩) s1 ?_
    go_simp
    refine wpAnyH_take (i := 6) (v := .agg #[.int .i64 v.k, .string v.name, .string v.to, .slice v.ao v.an v.ac, .slice v.bo v.bn v.bc, .slice v.co v.cn v.cc, .int .i64 v.n]) rfl (by kernel_rfl) (by kernel_rfl) (by kernel_rfl) (fun _ _ _ h => h) (Or.inl ⟨by kernel_rfl, by rintro w h; obtain ⟨c0, c1, c2, c3, c4, c5, c6, -⟩ := box_all h.1; go_simp⟩) s1 ?_
    go_simp
    refine wpAnyH_all (rs := [7]) (by kernel_rfl) (by simp) (fun j hj => ?_)
    rw [List.mem_singleton] at hj
    subst hj
    refine wpOp_step rfl (fun K hK => ?_)
    go_simp
    refine (bare_any v _).mono ?_
    rintro e W2 ⟨rfl, hb2⟩
    have s2 := s1.step hb2
    have o2 := s2.at_ ho
    obtain ⟨u, hu⟩ : ∃ u, keepL (fieldsOf v.k) v = u := ⟨_, rfl⟩
    have p2 : OpAt W2 u (keepC (fieldsOf v.k) c) := hu ▸ keep_at o2 _
    have Hs2 : Hid (sameOp v c u (keepC (fieldsOf v.k) c) = true) := Lib.hid (hu ▸ H1.out)
    rw [hu]
    clear hu o2
    go_simp
    refine hK _ _ ⟨s2, ?_⟩
    clear hK K
    refine wpAnyH_all (rs := [8]) (by kernel_rfl) (by simp) (fun j hj => ?_)
    rw [List.mem_singleton] at hj
    subst hj
    refine wpOp_step rfl (fun K hK => ?_)
    go_simp
    refine (sameOp_any v u c (keepC (fieldsOf v.k) c) _ (s2.at_ ho) p2).mono ?_
    rintro e W3 ⟨rfl, hb3⟩
    rw [Hs2.out]
    have s3 := s2.step hb3
    go_simp
    refine hK _ _ ⟨s3, ?_⟩
    clear hK K
    refine wpAnyH_take (i := 9) (v := .bool false) rfl (by kernel_rfl) (by kernel_rfl) (by kernel_rfl) (fun _ _ _ h => h) (Or.inl ⟨by kernel_rfl, by rintro w h; obtain ⟨c0, c1, c2, c3, c4, c5, c6, -⟩ := box_all h.1; go_simp⟩) s3 ?_
    go_simp
    refine wpAnyH_take (i := 10) (v := .bool false) rfl (by kernel_rfl) (by kernel_rfl) (by kernel_rfl) (fun _ _ _ h => h) (Or.inl ⟨by kernel_rfl, by intro _ _; kernel_rfl⟩) s3 ?_
    go_simp
    refine wpAnyH_take (i := 11) (v := .bool false) rfl (by kernel_rfl) (by kernel_rfl) (by kernel_rfl) (fun _ _ _ h => h) (Or.inl ⟨by kernel_rfl, by intro _ _; kernel_rfl⟩) s3 ?_
    go_simp
    refine wpAnyH_take (i := 12) (v := .func (.func 66) #[] #[]) rfl (by kernel_rfl) (by kernel_rfl) (by kernel_rfl) (fun _ _ _ h => h) (Or.inl ⟨by kernel_rfl, by intro _ _; kernel_rfl⟩) s3 ?_
    go_simp
    refine wpAnyH_take (i := 13) (v := .pointer (some ⟨w.heap.size, 1, none⟩)) rfl (by kernel_rfl) (by kernel_rfl) (by kernel_rfl) (fun _ _ _ h => h) (Or.inl ⟨by kernel_rfl, by intro _ _; kernel_rfl⟩) s3 ?_
    go_simp
    refine wpAnyH_take (i := 14) (v := .string v.name) rfl (by kernel_rfl) (by kernel_rfl) (by kernel_rfl) (fun _ _ _ h => h) (Or.inl ⟨by kernel_rfl, by rintro w h; obtain ⟨c0, c1, c2, c3, c4, c5, c6, -⟩ := box_all h.1; go_simp⟩) s3 ?_
    go_simp
    refine wpAnyH_all (rs := [15]) (by kernel_rfl) (by simp) (fun j hj => ?_)
    rw [List.mem_singleton] at hj
    subst hj
    refine wpOp_step rfl (fun K hK => ?_)
    go_simp
    refine (odd_any _ _).mono ?_
    rintro e W4 ⟨rfl, hb4⟩
    rw [H2.out]
    have s4 := s3.step hb4
    go_simp
    refine hK _ _ ⟨s4, ?_⟩
    clear hK K
    refine wpAnyH_take (i := 16) (v := .bool false) rfl (by kernel_rfl) (by kernel_rfl) (by kernel_rfl) (fun _ _ _ h => h) (Or.inl ⟨by kernel_rfl, by intro _ _; kernel_rfl⟩) s4 ?_
    go_simp
    refine wpAnyH_take (i := 17) (v := .bool false) rfl (by kernel_rfl) (by kernel_rfl) (by kernel_rfl) (fun _ _ _ h => h) (Or.inl ⟨by kernel_rfl, by intro _ _; kernel_rfl⟩) s4 ?_
    go_simp
    refine wpAnyH_take (i := 18) (v := .func (.func 66) #[] #[]) rfl (by kernel_rfl) (by kernel_rfl) (by kernel_rfl) (fun _ _ _ h => h) (Or.inl ⟨by kernel_rfl, by intro _ _; kernel_rfl⟩) s4 ?_
    go_simp
    refine wpAnyH_take (i := 19) (v := .pointer (some ⟨w.heap.size, 2, none⟩)) rfl (by kernel_rfl) (by kernel_rfl) (by kernel_rfl) (fun _ _ _ h => h) (Or.inl ⟨by kernel_rfl, by intro _ _; kernel_rfl⟩) s4 ?_
    go_simp
    refine wpAnyH_take (i := 20) (v := .string v.to) rfl (by kernel_rfl) (by kernel_rfl) (by kernel_rfl) (fun _ _ _ h => h) (Or.inl ⟨by kernel_rfl, by rintro w h; obtain ⟨c0, c1, c2, c3, c4, c5, c6, -⟩ := box_all h.1; go_simp⟩) s4 ?_
    go_simp
    refine wpAnyH_all (rs := [21]) (by kernel_rfl) (by simp) (fun j hj => ?_)
    rw [List.mem_singleton] at hj
    subst hj
    refine wpOp_step rfl (fun K hK => ?_)
    go_simp
    refine (odd_any _ _).mono ?_
    rintro e W5 ⟨rfl, hb5⟩
    rw [H3.out]
    have s5 := s4.step hb5
    go_simp
    refine hK _ _ ⟨s5, ?_⟩
    clear hK K
    refine wpAnyH_take (i := 22) (v := .bool false) rfl (by kernel_rfl) (by kernel_rfl) (by kernel_rfl) (fun _ _ _ h => h) (Or.inl ⟨by kernel_rfl, by intro _ _; kernel_rfl⟩) s5 ?_
    go_simp
    refine wpAnyH_take (i := 23) (v := .bool false) rfl (by kernel_rfl) (by kernel_rfl) (by kernel_rfl) (fun _ _ _ h => h) (Or.inl ⟨by kernel_rfl, by intro _ _; kernel_rfl⟩) s5 ?_
    go_simp
    refine wpAnyH_take (i := 24) (v := .pointer (some ⟨w.heap.size, 3, none⟩)) rfl (by kernel_rfl) (by kernel_rfl) (by kernel_rfl) (fun _ _ _ h => h) (Or.inl ⟨by kernel_rfl, by intro _ _; kernel_rfl⟩) s5 ?_
    go_simp
    refine wpAnyH_take (i := 25) (v := .slice v.ao v.an v.ac) rfl (by kernel_rfl) (by kernel_rfl) (by kernel_rfl) (fun _ _ _ h => h) (Or.inl ⟨by kernel_rfl, by rintro w h; obtain ⟨c0, c1, c2, c3, c4, c5, c6, -⟩ := box_all h.1; go_simp⟩) s5 ?_
    go_simp
    refine wpAnyH_take (i := 26) (v := .int .i64 (v.an : Int)) rfl (by kernel_rfl) (by kernel_rfl) (by kernel_rfl) (fun _ _ _ h => h) (Or.inl ⟨by kernel_rfl, by rintro w h; obtain ⟨c0, c1, c2, c3, c4, c5, c6, -⟩ := box_all h.1; go_simp⟩) s5 ?_
    go_simp
    refine wpAnyH_take (i := 27) (v := .bool false) rfl (by kernel_rfl) (by kernel_rfl) (by kernel_rfl) (fun _ _ _ h => h) (Or.inl ⟨by kernel_rfl, by rintro w h; obtain ⟨c0, c1, c2, c3, c4, c5, c6, -⟩ := box_all h.1; go_simp⟩) s5 ?_
    go_simp
    refine wpAnyH_take (i := 28) (v := .bool false) rfl (by kernel_rfl) (by kernel_rfl) (by kernel_rfl) (fun _ _ _ h => h) (Or.inl ⟨by kernel_rfl, by intro _ _; kernel_rfl⟩) s5 ?_
    go_simp
    refine wpAnyH_take (i := 29) (v := .bool false) rfl (by kernel_rfl) (by kernel_rfl) (by kernel_rfl) (fun _ _ _ h => h) (Or.inl ⟨by kernel_rfl, by intro _ _; kernel_rfl⟩) s5 ?_
    go_simp
    refine wpAnyH_take (i := 30) (v := .pointer (some ⟨w.heap.size, 3, none⟩)) rfl (by kernel_rfl) (by kernel_rfl) (by kernel_rfl) (fun _ _ _ h => h) (Or.inl ⟨by kernel_rfl, by intro _ _; kernel_rfl⟩) s5 ?_
    go_simp
    refine wpAnyH_take (i := 31) (v := .slice v.ao v.an v.ac) rfl (by kernel_rfl) (by kernel_rfl) (by kernel_rfl) (fun _ _ _ h => h) (Or.inl ⟨by kernel_rfl, by rintro w h; obtain ⟨c0, c1, c2, c3, c4, c5, c6, -⟩ := box_all h.1; go_simp⟩) s5 ?_
    go_simp
    refine wpAnyH_take (i := 32) (v := .func (.func 64) #[] #[]) rfl (by kernel_rfl) (by kernel_rfl) (by kernel_rfl) (fun _ _ _ h => h) (Or.inl ⟨by kernel_rfl, by intro _ _; kernel_rfl⟩) s5 ?_
    go_simp
    refine wpAnyH_all (rs := [33]) (by kernel_rfl) (by simp) (fun j hj => ?_)
    rw [List.mem_singleton] at hj
    subst hj
    refine wpOp_step rfl (fun K hK => ?_)
    go_simp
    refine (contains_att _ _ _ c.attrs _ (s5.at_ ho).a).mono ?_
    rintro e W6 ⟨rfl, hb6⟩
    rw [H5.out]
    have s6 := s5.step hb6
    go_simp
    refine hK _ _ ⟨s6, ?_⟩
    clear hK K
    refine wpAnyH_take (i := 34) (v := .bool true) rfl (by kernel_rfl) (by kernel_rfl) (by kernel_rfl) (fun _ _ _ h => h) (Or.inl ⟨by kernel_rfl, by intro _ _; kernel_rfl⟩) s6 ?_
    go_simp
    refine wpAnyH_done (by kernel_rfl) ?_ _
    go_wp2_with fail
    go_ret
    exact ⟨by rw [Hr.out]; rfl, s6.2⟩
  replace h5 : (c.attrs.any fun u => !mayAttr u) = false := by simpa using h5
  have H5 : Hid ((c.attrs.any fun u => !mayAttr u) = false) := Lib.hid h5
  clear h5
  have Hr : Hid (mayOpA v c attrs = restOp v c attrs) := Lib.hid (by have := of_decide_eq_false f4; have h2 := H2.out; have h3 := H3.out; simp only [Bool.not_eq_false'] at h2 h3; unfold mayOpA; rw [H1.out, h2, h3, H5.out, decide_eq_true H0.out, decide_eq_true (by omega)]; simp)
  unfold OV.val
  go_enter Tryz.func13, Tryz.ntmps13
  go_wp2_with fail
  refine wp_region_held (S := InBox w v) hmo ?_
  change wpAnyH _ _ _ _ _ _ _ _ (World.drew _)
  refine wpAnyH_take (i := 0) (v := .pointer (some ⟨w.heap.size, 0, none⟩)) rfl (by kernel_rfl) (by kernel_rfl) (by kernel_rfl) (fun _ _ _ h => h) (Or.inl ⟨by kernel_rfl, by intro _ _; kernel_rfl⟩) s0 ?_
  go_simp
  refine wpAnyH_take (i := 1) (v := .int .i64 v.k) rfl (by kernel_rfl) (by kernel_rfl) (by kernel_rfl) (fun _ _ _ h => h) (Or.inl ⟨by kernel_rfl, by rintro w h; obtain ⟨c0, c1, c2, c3, c4, c5, c6, -⟩ := box_all h.1; go_simp⟩) s0 ?_
  go_simp
  refine wpAnyH_all (rs := [2]) (by kernel_rfl) (by simp) (fun j hj => ?_)
  rw [List.mem_singleton] at hj
  subst hj
  refine wpOp_step rfl (fun K hK => ?_)
  go_simp
  refine (fields_any _ _).mono ?_
  rintro e W1 ⟨rfl, hb1⟩
  have s1 := s0.step hb1
  go_simp
  refine hK _ _ ⟨s1, ?_⟩
  clear hK K
  refine wpAnyH_take (i := 3) (v := .bool false) rfl (by kernel_rfl) (by kernel_rfl) (by kernel_rfl) (fun _ _ _ h => h) (Or.inl ⟨by kernel_rfl, by rintro w h; obtain ⟨c0, c1, c2, c3, c4, c5, c6, -⟩ := box_all h.1; go_simp; exact H0.out⟩) s1 ?_
  go_simp
  refine wpAnyH_take (i := 4) (v := .bool false) rfl (by kernel_rfl) (by kernel_rfl) (by kernel_rfl) (fun _ _ _ h => h) (Or.inl ⟨by kernel_rfl, by intro _ _; kernel_rfl⟩) s1 ?_
  go_simp
  refine wpAnyH_take (i := 5) (v := .agg #[.int .i64 v.k, .string v.name, .string v.to, .slice v.ao v.an v.ac, .slice v.bo v.bn v.bc, .slice v.co v.cn v.cc, .int .i64 v.n]) rfl (by kernel_rfl) (by kernel_rfl) (by kernel_rfl) (fun _ _ _ h => h) (Or.inl ⟨by kernel_rfl, by rintro w h; obtain ⟨c0, c1, c2, c3, c4, c5, c6, -⟩ := box_all h.1; go_simp⟩) s1 ?_
  go_simp
  refine wpAnyH_take (i := 6) (v := .agg #[.int .i64 v.k, .string v.name, .string v.to, .slice v.ao v.an v.ac, .slice v.bo v.bn v.bc, .slice v.co v.cn v.cc, .int .i64 v.n]) rfl (by kernel_rfl) (by kernel_rfl) (by kernel_rfl) (fun _ _ _ h => h) (Or.inl ⟨by kernel_rfl, by rintro w h; obtain ⟨c0, c1, c2, c3, c4, c5, c6, -⟩ := box_all h.1; go_simp⟩) s1 ?_
  go_simp
  refine wpAnyH_all (rs := [7]) (by kernel_rfl) (by simp) (fun j hj => ?_)
  rw [List.mem_singleton] at hj
  subst hj
  refine wpOp_step rfl (fun K hK => ?_)
  go_simp
  refine (bare_any v _).mono ?_
  rintro e W2 ⟨rfl, hb2⟩
  have s2 := s1.step hb2
  have o2 := s2.at_ ho
  obtain ⟨u, hu⟩ : ∃ u, keepL (fieldsOf v.k) v = u := ⟨_, rfl⟩
  have p2 : OpAt W2 u (keepC (fieldsOf v.k) c) := hu ▸ keep_at o2 _
  have Hs2 : Hid (sameOp v c u (keepC (fieldsOf v.k) c) = true) := Lib.hid (hu ▸ H1.out)
  rw [hu]
  clear hu o2
  go_simp
  refine hK _ _ ⟨s2, ?_⟩
  clear hK K
  refine wpAnyH_all (rs := [8]) (by kernel_rfl) (by simp) (fun j hj => ?_)
  rw [List.mem_singleton] at hj
  subst hj
  refine wpOp_step rfl (fun K hK => ?_)
  go_simp
  refine (sameOp_any v u c (keepC (fieldsOf v.k) c) _ (s2.at_ ho) p2).mono ?_
  rintro e W3 ⟨rfl, hb3⟩
  rw [Hs2.out]
  have s3 := s2.step hb3
  go_simp
  refine hK _ _ ⟨s3, ?_⟩
  clear hK K
  refine wpAnyH_take (i := 9) (v := .bool false) rfl (by kernel_rfl) (by kernel_rfl) (by kernel_rfl) (fun _ _ _ h => h) (Or.inl ⟨by kernel_rfl, by rintro w h; obtain ⟨c0, c1, c2, c3, c4, c5, c6, -⟩ := box_all h.1; go_simp⟩) s3 ?_
  go_simp
  refine wpAnyH_take (i := 10) (v := .bool false) rfl (by kernel_rfl) (by kernel_rfl) (by kernel_rfl) (fun _ _ _ h => h) (Or.inl ⟨by kernel_rfl, by intro _ _; kernel_rfl⟩) s3 ?_
  go_simp
  refine wpAnyH_take (i := 11) (v := .bool false) rfl (by kernel_rfl) (by kernel_rfl) (by kernel_rfl) (fun _ _ _ h => h) (Or.inl ⟨by kernel_rfl, by intro _ _; kernel_rfl⟩) s3 ?_
  go_simp
  refine wpAnyH_take (i := 12) (v := .func (.func 66) #[] #[]) rfl (by kernel_rfl) (by kernel_rfl) (by kernel_rfl) (fun _ _ _ h => h) (Or.inl ⟨by kernel_rfl, by intro _ _; kernel_rfl⟩) s3 ?_
  go_simp
  refine wpAnyH_take (i := 13) (v := .pointer (some ⟨w.heap.size, 1, none⟩)) rfl (by kernel_rfl) (by kernel_rfl) (by kernel_rfl) (fun _ _ _ h => h) (Or.inl ⟨by kernel_rfl, by intro _ _; kernel_rfl⟩) s3 ?_
  go_simp
  refine wpAnyH_take (i := 14) (v := .string v.name) rfl (by kernel_rfl) (by kernel_rfl) (by kernel_rfl) (fun _ _ _ h => h) (Or.inl ⟨by kernel_rfl, by rintro w h; obtain ⟨c0, c1, c2, c3, c4, c5, c6, -⟩ := box_all h.1; go_simp⟩) s3 ?_
  go_simp
  refine wpAnyH_all (rs := [15]) (by kernel_rfl) (by simp) (fun j hj => ?_)
  rw [List.mem_singleton] at hj
  subst hj
  refine wpOp_step rfl (fun K hK => ?_)
  go_simp
  refine (odd_any _ _).mono ?_
  rintro e W4 ⟨rfl, hb4⟩
  rw [H2.out]
  have s4 := s3.step hb4
  go_simp
  refine hK _ _ ⟨s4, ?_⟩
  clear hK K
  refine wpAnyH_take (i := 16) (v := .bool false) rfl (by kernel_rfl) (by kernel_rfl) (by kernel_rfl) (fun _ _ _ h => h) (Or.inl ⟨by kernel_rfl, by intro _ _; kernel_rfl⟩) s4 ?_
  go_simp
  refine wpAnyH_take (i := 17) (v := .bool false) rfl (by kernel_rfl) (by kernel_rfl) (by kernel_rfl) (fun _ _ _ h => h) (Or.inl ⟨by kernel_rfl, by intro _ _; kernel_rfl⟩) s4 ?_
  go_simp
  refine wpAnyH_take (i := 18) (v := .func (.func 66) #[] #[]) rfl (by kernel_rfl) (by kernel_rfl) (by kernel_rfl) (fun _ _ _ h => h) (Or.inl ⟨by kernel_rfl, by intro _ _; kernel_rfl⟩) s4 ?_
  go_simp
  refine wpAnyH_take (i := 19) (v := .pointer (some ⟨w.heap.size, 2, none⟩)) rfl (by kernel_rfl) (by kernel_rfl) (by kernel_rfl) (fun _ _ _ h => h) (Or.inl ⟨by kernel_rfl, by intro _ _; kernel_rfl⟩) s4 ?_
  go_simp
  refine wpAnyH_take (i := 20) (v := .string v.to) rfl (by kernel_rfl) (by kernel_rfl) (by kernel_rfl) (fun _ _ _ h => h) (Or.inl ⟨by kernel_rfl, by rintro w h; obtain ⟨c0, c1, c2, c3, c4, c5, c6, -⟩ := box_all h.1; go_simp⟩) s4 ?_
  go_simp
  refine wpAnyH_all (rs := [21]) (by kernel_rfl) (by simp) (fun j hj => ?_)
  rw [List.mem_singleton] at hj
  subst hj
  refine wpOp_step rfl (fun K hK => ?_)
  go_simp
  refine (odd_any _ _).mono ?_
  rintro e W5 ⟨rfl, hb5⟩
  rw [H3.out]
  have s5 := s4.step hb5
  go_simp
  refine hK _ _ ⟨s5, ?_⟩
  clear hK K
  refine wpAnyH_take (i := 22) (v := .bool false) rfl (by kernel_rfl) (by kernel_rfl) (by kernel_rfl) (fun _ _ _ h => h) (Or.inl ⟨by kernel_rfl, by intro _ _; kernel_rfl⟩) s5 ?_
  go_simp
  refine wpAnyH_take (i := 23) (v := .bool false) rfl (by kernel_rfl) (by kernel_rfl) (by kernel_rfl) (fun _ _ _ h => h) (Or.inl ⟨by kernel_rfl, by intro _ _; kernel_rfl⟩) s5 ?_
  go_simp
  refine wpAnyH_take (i := 24) (v := .pointer (some ⟨w.heap.size, 3, none⟩)) rfl (by kernel_rfl) (by kernel_rfl) (by kernel_rfl) (fun _ _ _ h => h) (Or.inl ⟨by kernel_rfl, by intro _ _; kernel_rfl⟩) s5 ?_
  go_simp
  refine wpAnyH_take (i := 25) (v := .slice v.ao v.an v.ac) rfl (by kernel_rfl) (by kernel_rfl) (by kernel_rfl) (fun _ _ _ h => h) (Or.inl ⟨by kernel_rfl, by rintro w h; obtain ⟨c0, c1, c2, c3, c4, c5, c6, -⟩ := box_all h.1; go_simp⟩) s5 ?_
  go_simp
  refine wpAnyH_take (i := 26) (v := .int .i64 (v.an : Int)) rfl (by kernel_rfl) (by kernel_rfl) (by kernel_rfl) (fun _ _ _ h => h) (Or.inl ⟨by kernel_rfl, by rintro w h; obtain ⟨c0, c1, c2, c3, c4, c5, c6, -⟩ := box_all h.1; go_simp⟩) s5 ?_
  go_simp
  refine wpAnyH_take (i := 27) (v := .bool false) rfl (by kernel_rfl) (by kernel_rfl) (by kernel_rfl) (fun _ _ _ h => h) (Or.inl ⟨by kernel_rfl, by rintro w h; obtain ⟨c0, c1, c2, c3, c4, c5, c6, -⟩ := box_all h.1; go_simp⟩) s5 ?_
  go_simp
  refine wpAnyH_take (i := 28) (v := .bool false) rfl (by kernel_rfl) (by kernel_rfl) (by kernel_rfl) (fun _ _ _ h => h) (Or.inl ⟨by kernel_rfl, by intro _ _; kernel_rfl⟩) s5 ?_
  go_simp
  refine wpAnyH_take (i := 29) (v := .bool false) rfl (by kernel_rfl) (by kernel_rfl) (by kernel_rfl) (fun _ _ _ h => h) (Or.inl ⟨by kernel_rfl, by intro _ _; kernel_rfl⟩) s5 ?_
  go_simp
  refine wpAnyH_take (i := 30) (v := .pointer (some ⟨w.heap.size, 3, none⟩)) rfl (by kernel_rfl) (by kernel_rfl) (by kernel_rfl) (fun _ _ _ h => h) (Or.inl ⟨by kernel_rfl, by intro _ _; kernel_rfl⟩) s5 ?_
  go_simp
  refine wpAnyH_take (i := 31) (v := .slice v.ao v.an v.ac) rfl (by kernel_rfl) (by kernel_rfl) (by kernel_rfl) (fun _ _ _ h => h) (Or.inl ⟨by kernel_rfl, by rintro w h; obtain ⟨c0, c1, c2, c3, c4, c5, c6, -⟩ := box_all h.1; go_simp⟩) s5 ?_
  go_simp
  refine wpAnyH_take (i := 32) (v := .func (.func 64) #[] #[]) rfl (by kernel_rfl) (by kernel_rfl) (by kernel_rfl) (fun _ _ _ h => h) (Or.inl ⟨by kernel_rfl, by intro _ _; kernel_rfl⟩) s5 ?_
  go_simp
  refine wpAnyH_all (rs := [33]) (by kernel_rfl) (by simp) (fun j hj => ?_)
  rw [List.mem_singleton] at hj
  subst hj
  refine wpOp_step rfl (fun K hK => ?_)
  go_simp
  refine (contains_att _ _ _ c.attrs _ (s5.at_ ho).a).mono ?_
  rintro e W6 ⟨rfl, hb6⟩
  rw [H5.out]
  have s6 := s5.step hb6
  go_simp
  refine hK _ _ ⟨s6, ?_⟩
  clear hK K
  refine wpAnyH_take (i := 34) (v := .bool false) rfl (by kernel_rfl) (by kernel_rfl) (by kernel_rfl) (fun _ _ _ h => h) (Or.inl ⟨by kernel_rfl, by intro _ _; kernel_rfl⟩) s6 ?_
  go_simp
  refine wpAnyH_done (by kernel_rfl) ?_ _
  obtain ⟨c0, c1, c2, c3, c4, c5, c6, -⟩ := box_all s6.1
  by_cases hk1 : v.k = 1
  · have f1 : (v.k == 1) = true := by simp [hk1]
    have Hs : Hid (mayOpA v c attrs = attrs) := Lib.hid (by rw [Hr.out]; simp [restOp, hk1])
    have hc := hA hk1 _ (s6.at_ ho)
    clear hk1 hA
    go_wp2_with fail
    refine hc.mono ?_
    rintro e W7 ⟨rfl, hb7⟩
    have s7 := s6.step hb7
    go_wp2_with fail
    go_ret
    exact ⟨by rw [Hs.out]; rfl, s7.2⟩
  · have f1 : (v.k == 1) = false := by simp [hk1]
    by_cases hk5 : v.k = 5
    · have f2 : (v.k == 5) = true := by simp [hk5]
      have Hs : Hid (mayOpA v c attrs = ((v.an : Int) == 1)) := Lib.hid (by rw [Hr.out]; unfold restOp; rw [if_neg hk1, if_pos hk5, Bool.eq_iff_iff]; simp; omega)
      clear hk1 hk5 hA
      go_wp2_with fail
      go_ret
      exact ⟨by rw [Hs.out]; rfl, s6.2⟩
    · have f2 : (v.k == 5) = false := by simp [hk5]
      have Hs : Hid (mayOpA v c attrs = (decide (v.bn ≤ 8) && !(c.parts.any fun u => !mayName u) && decide (v.cn ≤ 4000) && decide (0 ≤ v.n) && decide (v.n ≤ 1000))) := Lib.hid (by rw [Hr.out]; unfold restOp; rw [if_neg hk1, if_neg hk5])
      clear hk1 hk5 hA Hr
      by_cases hb : v.bn ≤ 8
      · have f3 : decide ((v.bn : Int) ≤ 8) = true := decide_eq_true (by omega)
        go_wp2_with fail
        refine (contains_txt _ _ _ c.parts _ (s6.at_ ho).b).mono ?_
        rintro e W7 ⟨rfl, hb7⟩
        have s7 := s6.step hb7
        clear c0 c1 c2 c3 c4 c5 c6
        obtain ⟨c0, c1, c2, c3, c4, c5, c6, -⟩ := box_all s7.1
        by_cases hp : (c.parts.any fun u => !mayName u) = true
        · have Hs2 : Hid (mayOpA v c attrs = false) := Lib.hid (by rw [Hs.out, hp]; simp)
          rw [hp]
          clear Hs hp hb
          go_wp2_with fail
          go_ret
          exact ⟨by rw [Hs2.out]; rfl, s7.2⟩
        · have hp2 : (c.parts.any fun u => !mayName u) = false := by simpa using hp
          have Hs2 : Hid (mayOpA v c attrs = (decide (v.cn ≤ 4000) && decide (0 ≤ v.n) && decide (v.n ≤ 1000))) := Lib.hid (by rw [Hs.out, hp2, decide_eq_true hb]; simp)
          rw [hp2]
          clear Hs hp hp2 hb
          by_cases hc : v.cn ≤ 4000
          · have f4 : decide ((v.cn : Int) ≤ 4000) = true := decide_eq_true (by omega)
            by_cases h0 : 0 ≤ v.n
            · have f5 : decide (0 ≤ v.n) = true := decide_eq_true h0
              have Hs3 : Hid (mayOpA v c attrs = decide (v.n ≤ 1000)) := Lib.hid (by rw [Hs2.out, decide_eq_true hc, f5]; simp)
              clear Hs2 hc h0
              go_wp2_with fail
              go_ret
              exact ⟨by rw [Hs3.out]; rfl, s7.2⟩
            · have f5 : decide (0 ≤ v.n) = false := decide_eq_false h0
              have Hs3 : Hid (mayOpA v c attrs = false) := Lib.hid (by rw [Hs2.out, f5]; simp)
              clear Hs2 hc h0
              go_wp2_with fail
              go_ret
              exact ⟨by rw [Hs3.out]; rfl, s7.2⟩
          · have f4 : decide ((v.cn : Int) ≤ 4000) = false := decide_eq_false (by omega)
            have Hs3 : Hid (mayOpA v c attrs = false) := Lib.hid (by rw [Hs2.out, decide_eq_false hc]; simp)
            clear Hs2 hc
            go_wp2_with fail
            go_ret
            exact ⟨by rw [Hs3.out]; rfl, s7.2⟩
      · have f3 : decide ((v.bn : Int) ≤ 8) = false := decide_eq_false (by omega)
        have Hs2 : Hid (mayOpA v c attrs = false) := Lib.hid (by rw [Hs.out, decide_eq_false hb]; simp)
        clear Hs hb
        go_wp2_with fail
        go_ret
        exact ⟨by rw [Hs2.out]; rfl, s6.2⟩
end Go.Proofs.YtgeafnggodkpaaaGreat.Msg
