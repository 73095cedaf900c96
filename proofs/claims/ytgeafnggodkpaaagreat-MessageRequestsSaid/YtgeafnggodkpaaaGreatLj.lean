/-
  copyOp.
-/
import Derived.Test.YtgeafnggodkpaaaGreatLi
import Derived.Test.YtgeafnggodkpaaaGreatLh
import Derived.Test.YtgeafnggodkpaaaGreatLg
namespace Go.Proofs.YtgeafnggodkpaaaGreat.Msg
open Go.RowKit Go.Lib Go.Proofs.YtgeafnggodkpaaaGreat.Mem

/-- An operation that holds the same, in slices laid anew. -/
structure CopyOf (w : World) (v u : OV) : Prop where
  ek : u.k = v.k
  ename : u.name = v.name
  eto : u.to = v.to
  en : u.n = v.n
  ean : u.an = v.an
  ebn : u.bn = v.bn
  ecn : u.cn = v.cn
  fa : ∀ a, u.ao = some a → w.heap.size ≤ a.block
  fb : ∀ a, u.bo = some a → w.heap.size ≤ a.block
  fc : ∀ a, u.co = some a → w.heap.size ≤ a.block
  na : v.ao = none → u.ao = none ∧ u.ac = 0
  nb : v.bo = none → u.bo = none ∧ u.bc = 0
  nc : v.co = none → u.co = none ∧ u.cc = 0
def GivesU (v : OV) (c : OC) (w : World) (e : Ending) (w' : World) : Prop := ∃ u : OV, e = .returned u.val ∧ CopyOf w v u ∧ OpAt w' u c ∧ Below w.heap.size w w'
/-- The worlds behind an operation's box and a result's. -/
def InTwo (w : World) (v : OV) (W : World) : Prop := InBox w v W ∧ W.heap[w.heap.size + 1]? = some zeroV.box
theorem InTwo.step {w W W' : World} {v : OV} (h : InTwo w v W) (hb : Below W.heap.size W W') : InTwo w v W' :=
  ⟨h.1.step hb, (hb.block _ (Array.getElem?_eq_some_iff.1 h.2).1).trans h.2⟩

theorem rd_set {W : World} {size : Nat} {ao : Option Addr} {n cap : Nat} {xs : List Value} (h : Rd W size ao n cap xs) (p : Addr) (x : Value) (hd : ∀ a, ao = some a → a.block ≠ p.block) : Rd (W.setCell p x) size ao n cap xs := by
  obtain ⟨h1, h2, h3, h4, h5⟩ := h
  refine ⟨h1, h2, h3, h4, fun h0 a ha => ?_⟩
  obtain ⟨s, l, c⟩ := h5 h0 a ha
  exact ⟨s, by simpa using l, fun j u hu => (World.cell?_of_block (a := ⟨a.block, a.off + j, none⟩) (Below.heap_setCell W p x _ (hd a ha))).trans (c j u hu)⟩
theorem OpAt.set {W : World} {u : OV} {c : OC} (h : OpAt W u c) (p : Addr) (x : Value) (fa : ∀ a, u.ao = some a → a.block ≠ p.block) (fb : ∀ a, u.bo = some a → a.block ≠ p.block) (fc : ∀ a, u.co = some a → a.block ≠ p.block) : OpAt (W.setCell p x) u c :=
  ⟨rd_set h.a p x fa, rd_set h.b p x fb, rd_set h.c p x fc, h.la, h.lb, h.lc⟩
/-- A box that is written anew, whole. -/
def setAll (W : World) (b : Nat) (u : OV) : World := ((((((W.setCell ⟨b, 0, none⟩ (.int .i64 u.k)).setCell ⟨b, 1, none⟩ (.string u.name)).setCell ⟨b, 2, none⟩ (.string u.to)).setCell ⟨b, 3, none⟩ (.slice u.ao u.an u.ac)).setCell ⟨b, 4, none⟩ (.slice u.bo u.bn u.bc)).setCell ⟨b, 5, none⟩ (.slice u.co u.cn u.cc)).setCell ⟨b, 6, none⟩ (.int .i64 u.n)
theorem setAll_at {W : World} {b : Nat} {v u : OV} (h : W.heap[b]? = some v.box) : (setAll W b u).heap[b]? = some u.box :=
  by
  unfold OV.box at h
  have h0 := at_set (i := 0) (x := .int .i64 u.k) h
  have h1 := at_set (i := 1) (x := .string u.name) h0
  have h2 := at_set (i := 2) (x := .string u.to) h1
  have h3 := at_set (i := 3) (x := .slice u.ao u.an u.ac) h2
  have h4 := at_set (i := 4) (x := .slice u.bo u.bn u.bc) h3
  have h5 := at_set (i := 5) (x := .slice u.co u.cn u.cc) h4
  have h6 := at_set (i := 6) (x := .int .i64 u.n) h5
  unfold setAll
  refine h6.trans ?_
  kernel_rfl
theorem setAll_op {W : World} {b : Nat} {u y : OV} {c : OC} (h : OpAt W y c) (fa : ∀ a, y.ao = some a → a.block ≠ b) (fb : ∀ a, y.bo = some a → a.block ≠ b) (fc : ∀ a, y.co = some a → a.block ≠ b) : OpAt (setAll W b u) y c :=
  ((((((h.set ⟨b, 0, none⟩ _ fa fb fc).set ⟨b, 1, none⟩ _ fa fb fc).set ⟨b, 2, none⟩ _ fa fb fc).set ⟨b, 3, none⟩ _ fa fb fc).set ⟨b, 4, none⟩ _ fa fb fc).set ⟨b, 5, none⟩ _ fa fb fc).set ⟨b, 6, none⟩ _ fa fb fc
theorem setAll_below {B : Nat} {w W : World} {b : Nat} {u : OV} (h : Below B w W) (hb : B ≤ b) : Below B w (setAll W b u) :=
  ((((((h.setCell (p := ⟨b, 0, none⟩) hb _).setCell (p := ⟨b, 1, none⟩) hb _).setCell (p := ⟨b, 2, none⟩) hb _).setCell (p := ⟨b, 3, none⟩) hb _).setCell (p := ⟨b, 4, none⟩) hb _).setCell (p := ⟨b, 5, none⟩) hb _).setCell (p := ⟨b, 6, none⟩) hb _

set_option maxRecDepth 100000 in
set_option maxHeartbeats 20000000 in
theorem copyOp_any (v : OV) (c : OC) (w : World) (ho : OpAt w v c) : Calls Tryz.prog 84 #[v.val] w (GivesU v c w) := by
  have hmo : Tryz.prog.follows .mixedOrders = true := by kernel_rfl
  have s0 : InTwo w v ((w.alloc v.box).alloc zeroV.box).drew := by
    obtain ⟨h1, h2⟩ := two_boxes w v.box zeroV.box
    exact ⟨⟨h1, (below_two w _ _).drew⟩, h2⟩
  unfold OV.val
  go_enter Tryz.func84, Tryz.ntmps84
  go_wp2_with fail
  refine wp_region_T (k := 10) (S := InTwo w v) hmo ?_
  change wpAnyT _ _ _ _ _ _ _ _ _ (World.drew _)
  refine wpAnyT_take (i := 0) (v := .pointer (some ⟨w.heap.size, 3, none⟩)) rfl (by kernel_rfl) (by kernel_rfl) (by kernel_rfl) (by kernel_rfl) (by decide) (by kernel_rfl) (by kernel_rfl) (fun _ _ _ h => h) (Or.inl ⟨by kernel_rfl, by intro _ _; kernel_rfl⟩) s0 ?_
  go_simp
  refine wpAnyT_take (i := 1) (v := .slice v.ao v.an v.ac) rfl (by kernel_rfl) (by kernel_rfl) (by kernel_rfl) (by kernel_rfl) (by decide) (by kernel_rfl) (by kernel_rfl) (fun _ _ _ h => h) (Or.inl ⟨by kernel_rfl, by rintro w h; obtain ⟨c0, c1, c2, c3, c4, c5, c6, -⟩ := box_all h.1.1; go_simp⟩) s0 ?_
  go_simp
  refine wpAnyT_take (i := 3) (v := .pointer (some ⟨w.heap.size, 4, none⟩)) rfl (by kernel_rfl) (by kernel_rfl) (by kernel_rfl) (by kernel_rfl) (by decide) (by kernel_rfl) (by kernel_rfl) (fun _ _ _ h => h) (Or.inl ⟨by kernel_rfl, by intro _ _; kernel_rfl⟩) s0 ?_
  go_simp
  refine wpAnyT_take (i := 4) (v := .slice v.bo v.bn v.bc) rfl (by kernel_rfl) (by kernel_rfl) (by kernel_rfl) (by kernel_rfl) (by decide) (by kernel_rfl) (by kernel_rfl) (fun _ _ _ h => h) (Or.inl ⟨by kernel_rfl, by rintro w h; obtain ⟨c0, c1, c2, c3, c4, c5, c6, -⟩ := box_all h.1.1; go_simp⟩) s0 ?_
  go_simp
  refine wpAnyT_take (i := 6) (v := .pointer (some ⟨w.heap.size, 5, none⟩)) rfl (by kernel_rfl) (by kernel_rfl) (by kernel_rfl) (by kernel_rfl) (by decide) (by kernel_rfl) (by kernel_rfl) (fun _ _ _ h => h) (Or.inl ⟨by kernel_rfl, by intro _ _; kernel_rfl⟩) s0 ?_
  go_simp
  refine wpAnyT_take (i := 7) (v := .slice v.co v.cn v.cc) rfl (by kernel_rfl) (by kernel_rfl) (by kernel_rfl) (by kernel_rfl) (by decide) (by kernel_rfl) (by kernel_rfl) (fun _ _ _ h => h) (Or.inl ⟨by kernel_rfl, by rintro w h; obtain ⟨c0, c1, c2, c3, c4, c5, c6, -⟩ := box_all h.1.1; go_simp⟩) s0 ?_
  go_simp
  refine wpAnyT_all (rs := [2]) (by kernel_rfl) (by simp) (fun j hj => ?_)
  rw [List.mem_singleton] at hj
  subst hj
  refine wpOp_step rfl (fun K hK => ?_)
  go_simp
  have o0 := ho.later s0.1.2
  refine (clone_att _ _ _ c.attrs _ o0.a o0.la).mono ?_
  rintro e W1 ⟨a1, k1, rfl, r1, hb1, fr1, nl1⟩
  have s1 := s0.step hb1
  have l0 := s0.1.2.size
  go_simp
  refine hK _ _ ⟨.inr s1, ?_⟩
  clear hK K
  refine wpAnyT_take (i := 9) (v := .pointer (some ⟨w.heap.size, 3, none⟩)) rfl (by kernel_rfl) (by kernel_rfl) (by kernel_rfl) (by kernel_rfl) (by decide) (by kernel_rfl) (by kernel_rfl) (fun _ _ _ h => h) (Or.inl ⟨by kernel_rfl, by intro _ _; kernel_rfl⟩) s1 ?_
  go_simp
  refine wpAnyT_all (rs := [5]) (by kernel_rfl) (by simp) (fun j hj => ?_)
  rw [List.mem_singleton] at hj
  subst hj
  refine wpOp_step rfl (fun K hK => ?_)
  go_simp
  have o1 := ho.later s1.1.2
  refine (clone_txt _ _ _ c.parts _ o1.b o1.lb).mono ?_
  rintro e W2 ⟨a2, k2, rfl, r2, hb2, fr2, nl2⟩
  have s2 := s1.step hb2
  have l1 := s1.1.2.size
  go_simp
  refine hK _ _ ⟨.inr s2, ?_⟩
  clear hK K
  refine wpAnyT_all (rs := [8]) (by kernel_rfl) (by simp) (fun j hj => ?_)
  rw [List.mem_singleton] at hj
  subst hj
  refine wpOp_step rfl (fun K hK => ?_)
  go_simp
  have o2 := ho.later s2.1.2
  refine (clone_byt _ _ _ c.cursor _ o2.c o2.lc).mono ?_
  rintro e W3 ⟨a3, k3, rfl, r3, hb3, fr3, nl3⟩
  have s3 := s2.step hb3
  have l2 := s2.1.2.size
  go_simp
  refine hK _ _ ⟨.inr s3, ?_⟩
  clear hK K
  obtain ⟨b0, b1, b2, b3, b4, b5, b6, b7⟩ := box_all s3.1.1
  refine wpAnyT_last (by kernel_rfl) (by kernel_rfl) ?_
  refine wpAny_all (rs := [10]) (by kernel_rfl) (by simp) (fun j hj => ?_)
  rw [List.mem_singleton] at hj
  subst hj
  refine wpOp_step rfl (fun K hK => ?_)
  go_simp
  refine hK _ _ ?_
  clear hK K
  refine wpAny_all (rs := [11]) (by kernel_rfl) (by simp) (fun j hj => ?_)
  rw [List.mem_singleton] at hj
  subst hj
  refine wpOp_step rfl (fun K hK => ?_)
  go_simp
  refine hK _ _ ?_
  clear hK K
  refine wpAny_all (rs := [12]) (by kernel_rfl) (by simp) (fun j hj => ?_)
  rw [List.mem_singleton] at hj
  subst hj
  refine wpOp_step rfl (fun K hK => ?_)
  go_simp
  refine hK _ _ ?_
  clear hK K
  refine wpAny_all (rs := [13]) (by kernel_rfl) (by simp) (fun j hj => ?_)
  rw [List.mem_singleton] at hj
  subst hj
  refine wpOp_step rfl (fun K hK => ?_)
  go_simp
  refine hK _ _ ?_
  clear hK K
  refine wpAny_all (rs := [14]) (by kernel_rfl) (by simp) (fun j hj => ?_)
  rw [List.mem_singleton] at hj
  subst hj
  refine wpOp_step rfl (fun K hK => ?_)
  go_simp
  refine hK _ _ ?_
  clear hK K
  refine wpAny_done (by kernel_rfl) ?_ _
  have hW := at_set (i := 5) (x := .slice a3 v.cn k3) (at_set (i := 4) (x := .slice a2 v.bn k2) (at_set (i := 3) (x := .slice a1 v.an k1) s3.1.1))
  obtain ⟨u, hu⟩ : ∃ u : OV, u = ⟨v.k, v.name, v.to, a1, v.an, k1, a2, v.bn, k2, a3, v.cn, k3, v.n⟩ := ⟨_, rfl⟩
  have hU : (((W3.setCell ⟨w.heap.size, 3, none⟩ (.slice a1 v.an k1)).setCell ⟨w.heap.size, 4, none⟩ (.slice a2 v.bn k2)).setCell ⟨w.heap.size, 5, none⟩ (.slice a3 v.cn k3)).heap[w.heap.size]? = some u.box := by rw [hu]; exact hW
  have hZ : (((W3.setCell ⟨w.heap.size, 3, none⟩ (.slice a1 v.an k1)).setCell ⟨w.heap.size, 4, none⟩ (.slice a2 v.bn k2)).setCell ⟨w.heap.size, 5, none⟩ (.slice a3 v.cn k3)).heap[w.heap.size + 1]? = some zeroV.box := at_other (at_other (at_other s3.2 (by omega)) (by omega)) (by omega)
  have hlow : ∀ i, w.heap.size ≤ (⟨w.heap.size, i, none⟩ : Addr).block := fun i => Nat.le_refl _
  have hB := ((s3.1.2.setCell (hlow 3) (.slice a1 v.an k1)).setCell (hlow 4) (.slice a2 v.bn k2)).setCell (hlow 5) (.slice a3 v.cn k3)
  have hC : CopyOf w v u := by
    subst hu
    exact ⟨rfl, rfl, rfl, rfl, rfl, rfl, rfl, fun a ha => Nat.le_trans l0 (fr1 a ha), fun a ha => Nat.le_trans l1 (fr2 a ha), fun a ha => Nat.le_trans l2 (fr3 a ha), nl1, nl2, nl3⟩
  have hz : ((w.alloc v.box).alloc zeroV.box).drew.heap.size = w.heap.size + 1 + 1 := by simp
  have lz : w.heap.size + 1 + 1 ≤ W1.heap.size := Nat.le_trans (Nat.le_of_eq hz.symm) hb1.size
  have lz2 := hb2.size
  have ga : ∀ i, i ≤ 1 → ∀ a, u.ao = some a → a.block ≠ w.heap.size + i := fun i hi a ha => by subst hu; have h1 := fr1 a ha; have h2 := Nat.le_trans (Nat.le_of_eq hz.symm) h1; omega
  have gb : ∀ i, i ≤ 1 → ∀ a, u.bo = some a → a.block ≠ w.heap.size + i := fun i hi a ha => by subst hu; have h1 := fr2 a ha; omega
  have gc : ∀ i, i ≤ 1 → ∀ a, u.co = some a → a.block ≠ w.heap.size + i := fun i hi a ha => by subst hu; have h1 := fr3 a ha; omega
  have hO : OpAt W3 u c := by
    subst hu
    exact ⟨(r1.later hb2).later hb3, r2.later hb3, r3, ho.la, ho.lb, ho.lc⟩
  have hO4 := ((hO.set ⟨w.heap.size, 3, none⟩ (.slice a1 v.an k1) (ga 0 (by omega)) (gb 0 (by omega)) (gc 0 (by omega))).set ⟨w.heap.size, 4, none⟩ (.slice a2 v.bn k2) (ga 0 (by omega)) (gb 0 (by omega)) (gc 0 (by omega))).set ⟨w.heap.size, 5, none⟩ (.slice a3 v.cn k3) (ga 0 (by omega)) (gb 0 (by omega)) (gc 0 (by omega))
  obtain ⟨d0, d1, d2, d3, d4, d5, d6, -⟩ := box_all hU
  obtain ⟨e0, e1, e2, e3, e4, e5, e6, e7⟩ := box_all hZ
  have HC := Lib.hid hC
  clear hu hC b0 b1 b2 b3 b4 b5 b6 b7 hU hW hlow
  generalize ((W3.setCell ⟨w.heap.size, 3, none⟩ (.slice a1 v.an k1)).setCell ⟨w.heap.size, 4, none⟩ (.slice a2 v.bn k2)).setCell ⟨w.heap.size, 5, none⟩ (.slice a3 v.cn k3) = W4 at *
  go_wp2_with fail
  have hF : (setAll W4 (w.heap.size + 1) u).heap[w.heap.size + 1]? = some u.box := setAll_at hZ
  refine bodyPost_ret (w := setAll W4 (w.heap.size + 1) u) (results_op (i := 2) rfl rfl hF) rfl ⟨u, rfl, HC.out, setAll_op hO4 (ga 1 (Nat.le_refl _)) (gb 1 (Nat.le_refl _)) (gc 1 (Nat.le_refl _)), setAll_below hB (by omega)⟩
end Go.Proofs.YtgeafnggodkpaaaGreat.Msg
