/-
  A part of the proof: what this text holds is told at each of its declarations.
-/
import Derived.Test.YtgeafnggodkpaaaGreatZabg
import Derived.Test.YtgeafnggodkpaaaGreatZabc
namespace Go.Proofs.YtgeafnggodkpaaaGreat.Msg
open Go.RowKit Go.Lib Go.Proofs.YtgeafnggodkpaaaGreat.Mem Go.Proofs.YtgeafnggodkpaaaGreat.Tlv

/-- Rows stay, and all that is old. -/
structure KeepB (B : Nat) (W W' : World) : Prop where
  kr : KeepR W W'
  low : ∀ k, k < B → k < W.heap.size → W'.heap[k]? = W.heap[k]?
theorem KeepB.of_below {B : Nat} {a b : World} (h : Below a.heap.size a b) : KeepB B a b := ⟨KeepR.of_below h, fun k _ h2 => h.block k h2⟩
theorem TyB.kpb {B : Nat} {a b : World} {ao : Option Addr} {cap : Nat} (hy : TyB B a ao cap) (hk : KeepB B a b) : TyB B b ao cap := fun h0 x hx => by
  rcases hy h0 x hx with h1 | ⟨c, fr, h1⟩
  · exact .inl h1
  · exact .inr ⟨c, fr, hk.kr.rows _ _ _ _ (.inl rfl) h1⟩
theorem rd_kpb {B : Nat} {a b : World} {ao : Option Addr} {n cap : Nat} {xs : List Value} (h : Rd a 1 ao n cap xs) (hy : TyB B a ao cap) (hk : KeepB B a b) : Rd b 1 ao n cap xs := by
  obtain ⟨h1, h2, h3, h4, h5⟩ := h
  refine ⟨h1, h2, h3, h4, fun h0 x hx => ?_⟩
  obtain ⟨s1, l, c⟩ := h5 h0 x hx
  have he : b.heap[x.block]? = a.heap[x.block]? := by
    rcases hy h0 x hx with h6 | ⟨c', fr, h6⟩
    · exact hk.low _ h6 l
    · exact (hk.kr.rows _ _ _ _ (.inl rfl) h6).trans h6.symm
  exact ⟨s1, Nat.lt_of_lt_of_le l hk.kr.size, fun j u hu => (World.cell?_of_block (a := ⟨x.block, x.off + j, none⟩) he).trans (c j u hu)⟩
/-- An operation's slices point into rows; its cursor may lie in what is old. -/
structure OpTyB (B : Nat) (W : World) (v : OV) : Prop where
  a : TyX 53 W v.ao v.ac
  b : TyX 9 W v.bo v.bc
  c : TyB B W v.co v.cc
theorem OpTyB.kpb {B : Nat} {a b : World} {v : OV} (h : OpTyB B a v) (hk : KeepB B a b) : OpTyB B b v := ⟨h.a.kpr (.inr (.inr rfl)) hk.kr, h.b.kpr (.inr (.inl rfl)) hk.kr, TyB.kpb h.c hk⟩
theorem OpAt.kpb {B : Nat} {a b : World} {v : OV} {c : OC} (h : OpAt a v c) (hy : OpTyB B a v) (hk : KeepB B a b) : OpAt b v c :=
  ⟨rd_kpr (.inr (.inr rfl)) h.a hy.a hk.kr, rd_kpr (.inr (.inl rfl)) h.b hy.b hk.kr, rd_kpb h.c hy.c hk, h.la, h.lb, h.lc⟩
/-- An operation is being read by the document's reader. -/
structure OfGo (B g ob : Nat) (w : World) (b : List UInt8) (v : OV) (c : OC) (ls : List UInt8) (s : RS) (wr : World) : Prop where
  bel : Below w.heap.size w wr
  box : InO ob v wr
  rd : RfS B g s wr
  at_ : OpAt wr v c
  ty : OpTyB B wr v
  part : Part b v c ls s
theorem kpb_box {B ob i : Nat} {v : OV} {w1 : World} {x : Value} (hb : InO ob v w1) (hB : B ≤ ob) : KeepB B w1 (w1.setCell ⟨ob, i, none⟩ x) := ⟨kpr_box hb, fun k h1 _ => Below.heap_setCell _ _ _ _ (by show k ≠ ob; omega)⟩
theorem OfGo.next {B g ob : Nat} {w : World} {b : List UInt8} {v v' : OV} {c c' : OC} {ls ls' : List UInt8} {s s' : RS} {wr w1 : World} {i : Nat} {x : Value} (h : OfGo B g ob w b v c ls s wr) (hg : wr.grownBy w1 (some g)) (hr : RfS B g s' w1) (hgw : w.heap.size ≤ g) (how : w.heap.size ≤ ob) (hgo : g ≠ ob) (hBo : B ≤ ob)
    (hbox : (match v.box with | .cells cs t fr => Obj.cells (cs.setIfInBounds i x) t fr | o => o) = v'.box) (ha : OpAt w1 v' c') (ht : OpTyB B w1 v') (hp : Part b v' c' ls' s') : OfGo B g ob w b v' c' ls' s' (w1.setCell ⟨ob, i, none⟩ x) := by
  have hb1 : InO ob v w1 := h.box.grown hg (fun e => hgo (Option.some.inj e).symm)
  have hk := kpb_box (i := i) (x := x) hb1 hBo
  refine ⟨(h.bel.trans (below_of_grown hg hgw h.rd.lt)).setCell how x, ?_, hr.grown (grown_set _ _ _ _) hb1 (fun c fr h => by cases h) hgo hBo, ha.kpb ht hk, ht.kpb hk, hp⟩
  have h2 := at_set (i := i) (x := x) hb1
  unfold InO
  rw [← hbox]
  exact h2
theorem OfGo.later {B g ob : Nat} {w : World} {b : List UInt8} {v : OV} {c : OC} {ls : List UInt8} {s : RS} {wr w1 : World} (h : OfGo B g ob w b v c ls s wr) (hb : Below wr.heap.size wr w1) : OfGo B g ob w b v c ls s w1 :=
  ⟨h.bel.trans (hb.mono h.bel.size), h.box.step hb, h.rd.later hb, h.at_.later hb, h.ty.kpb (KeepB.of_below hb), h.part⟩

/-- Parts are being laid: the operation's box, and the next part's bytes. -/
structure PaAt (ob : Nat) (V : OV) (b1 o1 : Nat) (u : El) (W : World) : Prop where
  box : InO ob V W
  cell : W.cell? ⟨b1, o1, none⟩ = some (.slice u.ao u.it.2.length u.cap)
  rd : Rd W 1 u.ao u.it.2.length u.cap (byV u.it.2)
theorem PaAt.step {ob : Nat} {V : OV} {b1 o1 : Nat} {u : El} {W W' : World} (h : PaAt ob V b1 o1 u W) (hb : Below W.heap.size W W') : PaAt ob V b1 o1 u W' := ⟨h.box.step hb, cell_after hb h.cell, h.rd.later hb⟩
theorem PaAt.low {B ob : Nat} {V : OV} {b1 o1 : Nat} {u : El} {W W' : World} (h : PaAt ob V b1 o1 u W) (hb : Below B W W') (h1 : ob < B) (h2 : b1 < B) (h3 : 0 < u.cap → ∀ a, u.ao = some a → a.block < B) : PaAt ob V b1 o1 u W' := ⟨(hb.block _ h1).trans h.box, (hb.cell (p := ⟨b1, o1, none⟩) h2).trans h.cell, h.rd.below hb h3⟩

end Go.Proofs.YtgeafnggodkpaaaGreat.Msg
namespace Go.Proofs.YtgeafnggodkpaaaGreat.Msg
open Go.RowKit Go.Lib Go.Proofs.YtgeafnggodkpaaaGreat.Mem Go.Proofs.YtgeafnggodkpaaaGreat.Tlv

set_option maxRecDepth 100000 in
set_option maxHeartbeats 8000000 in
theorem rEntOf_any (B : Nat) (b : List UInt8) (ao : Option Addr) (n cap : Nat) (w : World) (hr : Rd w 1 ao n cap (byV b)) (hB : B ≤ w.heap.size) (hty : TyB B w ao cap) (hn : n ≤ 100000000) :
    Calls Tryz.prog 94 #[.slice ao n cap] w (GivesEo (.bool true) (.bool false) b w) := by
  have hbn : b.length = n := by have := hr.1; rw [byV_len] at this; omega
  have hb0 : Below w.heap.size w (w.alloc zeroE.box) := (Below.refl _ _).alloc (Nat.le_refl _) _
  have k0 : (w.alloc zeroE.box).heap[w.heap.size]? = some zeroE.box := by show (w.heap.push _)[w.heap.size]? = some _; exact Array.getElem?_push_size
  have hz0 : (w.alloc zeroE.box).heap.size = w.heap.size + 1 := by simp
  have hr0 := hr.later hb0
  have ht0 := hty.later hb0
  unfold zeroE EV.box EV.cells at hb0 k0 hz0 hr0 ht0
  dsimp only at hb0 k0 hz0 hr0 ht0
  clear hr hty
  go_enter Tryz.func94, Tryz.ntmps94
  go_upto_region 1 with fail
  generalize hg : w.alloc _ = W0 at *
  have k0f : W0.heap[w.heap.size]? = some zeroE.box := k0
  clear hg k0
  subst hbn
  have hBW0 : B ≤ W0.heap.size := Nat.le_trans hB hb0.size
  have hR := rf_new hr0 hBW0 ht0
  have hbR : Below W0.heap.size W0 (W0.alloc (.cells #[.slice ao b.length cap, .bool false] 94)) := (Below.refl _ _).alloc (Nat.le_refl _) _
  go_upto_region 2 with fail
  generalize hg : W0.alloc _ = W1 at *
  have hz1 : W1.heap.size = W0.heap.size + 1 := by rw [← hg]; simp
  clear hg
  go_upto_region 3 with (refine wpList_store_new rfl rfl rfl rfl (by kernel_rfl) rfl (by kernel_rfl) ?_; go_simp)
  generalize hg : W1.alloc _ = W2
  have e2 : W1.alloc zeroE.box = W2 := hg
  have hb2 : Below W1.heap.size W1 W2 := by rw [← e2]; exact (Below.refl _ _).alloc (Nat.le_refl _) _
  have kb : W2.heap[W1.heap.size]? = some zeroE.box := by rw [← e2]; show (W1.heap.push _)[W1.heap.size]? = some _; exact Array.getElem?_push_size
  have hR2 := hR.later hb2
  have hbel2 : Below W0.heap.size W0 W2 := hbR.trans (hb2.mono (by omega))
  clear hg e2 hb2 hR hbR hr0 ht0
  rw [hz0] at hR2
  rw [hz1, hz0] at kb
  clear hz1
  have T1 := took_bytes ⟨b, false⟩ 1 (by decide)
  generalize hgq : w.heap.size + 1 = g at *
  generalize hobq : g + 1 = ob at *
  have hg0 : W0.heap.size ≤ g := by omega
  have hob : W0.heap.size ≤ ob := by omega
  have hgo : g ≠ ob := by omega
  have hrw : w.heap.size < W0.heap.size := by omega
  clear hgq hobq
  have hBo : B ≤ ob := Nat.le_trans hBW0 hob
  have htx := rftext_any B g ⟨b, false⟩ 1 W2 hR2 (by dsimp only; omega)
  generalize RS.bytes ⟨b, false⟩ 1 = nm at *
  obtain ⟨y, s1⟩ := nm
  dsimp only at T1 htx
  go_wp2_with fail
  refine htx.mono ?_
  rintro e W3 ⟨rfl, hR3, hg3⟩
  have hb3 : Below W0.heap.size W0 W3 := hbel2.trans (below_of_grown hg3 hg0 hR2.lt)
  have q3 : W3.heap[ob]? = some zeroE.box := (hg3.block _ (Array.getElem?_eq_some_iff.1 kb).1 (fun e => hgo (Option.some.inj e).symm)).trans kb
  clear htx hbel2 kb hR2 hg3
  obtain ⟨d0, d1, d2⟩ := ebox_all q3
  unfold zeroE at d0 d1
  dsimp only at d0 d1
  go_upto_region 4 with fail
  have q4 : (W3.setCell ⟨ob, 0, none⟩ (.string ⟨y.toArray⟩)).heap[ob]? = some (EV.box ⟨⟨y.toArray⟩, none, 0, 0⟩) := (at_set q3).trans (by kernel_rfl)
  have hR4 : RfS B g s1 (W3.setCell ⟨ob, 0, none⟩ (.string ⟨y.toArray⟩)) := hR3.grown (grown_set _ _ _ _) q3 (fun c fr h => by cases h) hgo hBo
  have hb4 := hb3.setCell (p := ⟨ob, 0, none⟩) hob (.string ⟨y.toArray⟩)
  generalize W3.setCell _ _ = W4 at *
  clear d0 d1 d2 q3 hR3 hb3
  have l1 := T1.le
  dsimp only at l1
  go_wp2_with fail
  refine (rTakeAttrs_any B g s1 2 W4 (by decide) hR4 (by omega)).mono ?_
  rintro e W5 ⟨a5, n5, c5, xs, s2, rfl, hrd5, hn5, hty5, hR5, hg5, T2'⟩
  have T2 := took_weaken T2' (may' := fun ys => mayAttrs ys = true ∧ (attB ys).length ≤ 4194304) (good' := fun ys => (attB ys).length ≤ 4194304) (fun z h => ⟨mayAttrs_len h.1, h.2⟩) (fun _ h => h)
  have hb5 : Below W0.heap.size W0 W5 := hb4.trans (below_of_grown hg5 hg0 hR4.lt)
  have q5 : W5.heap[ob]? = some (EV.box ⟨⟨y.toArray⟩, none, 0, 0⟩) := (hg5.block _ (Array.getElem?_eq_some_iff.1 q4).1 (fun e => hgo (Option.some.inj e).symm)).trans q4
  clear T2' hb4 q4 hR4 hg5
  obtain ⟨d0, d1, d2⟩ := ebox_all q5
  dsimp only at d0 d1
  go_upto_region 5 with fail
  have q6 : (W5.setCell ⟨ob, 1, none⟩ (.slice a5 n5 c5)).heap[ob]? = some (EV.box ⟨⟨y.toArray⟩, a5, n5, c5⟩) := (at_set q5).trans (by kernel_rfl)
  have hR6 : RfS B g s2 (W5.setCell ⟨ob, 1, none⟩ (.slice a5 n5 c5)) := hR5.grown (grown_set _ _ _ _) q5 (fun c fr h => by cases h) hgo hBo
  have hb6 := hb5.setCell (p := ⟨ob, 1, none⟩) hob (.slice a5 n5 c5)
  have hk6 : KeepR W5 (W5.setCell ⟨ob, 1, none⟩ (.slice a5 n5 c5)) := kpr_ent q5 (Nat.le_of_eq (World.size_setCell _ _ _).symm) (fun k hk => Below.heap_setCell _ _ _ _ hk)
  have hE : EAt (W5.setCell ⟨ob, 1, none⟩ (.slice a5 n5 c5)) ⟨⟨y.toArray⟩, a5, n5, c5⟩ xs := ⟨rd_kpr (.inr (.inr rfl)) hrd5 hty5 hk6, by dsimp only; omega⟩
  have hT : TyX 53 (W5.setCell ⟨ob, 1, none⟩ (.slice a5 n5 c5)) a5 c5 := hty5.kpr (.inr (.inr rfl)) hk6
  generalize W5.setCell _ _ = W6 at *
  clear d0 d1 d2 q5 hR5 hb5 hk6 hrd5 hty5
  have hrz : W6.heap[w.heap.size]? = some zeroE.box := (hb6.block _ (by omega)).trans k0f
  have hbel := hb0.trans (hb6.mono (by omega))
  go_wp2_with fail
  refine (rfdone_any B g s2 W6 hR6).mono ?_
  rintro e w9 ⟨rfl, rfl⟩
  by_cases he : s2.bad = false ∧ s2.l = []
  · have f0 : decide (s2.bad = false ∧ s2.l = []) = true := decide_eq_true he
    have hdone := ent_done T1 T2 (v0 := ⟨⟨y.toArray⟩, a5, n5, c5⟩) rfl he.1 he.2
    have HD := Lib.hid hdone
    have hme := rMayEntry_any ⟨⟨y.toArray⟩, a5, n5, c5⟩ xs W6 hE
    have HN : mayEntry ⟨⟨y.toArray⟩, a5, n5, c5⟩ xs = false → NoEnt b := fun h => ent_none T1 T2 (v0 := ⟨⟨y.toArray⟩, a5, n5, c5⟩) rfl (.inr h)
    have HNo := Lib.hid HN
    clear hdone he HN T1 T2
    unfold EV.val EV.cells at hme
    go_wp2_with (refine wpList_load_row q6 rfl rfl rfl (by kernel_rfl) (by kernel_rfl) ?_; go_simp)
    refine hme.mono ?_
    rintro e W7 ⟨rfl, hb7⟩
    have hrz7 := (hb7.block _ (Array.getElem?_eq_some_iff.1 hrz).1).trans hrz
    have q7 := (hb7.block _ (Array.getElem?_eq_some_iff.1 q6).1).trans q6
    have hbel7 := hbel.trans (hb7.mono hbel.size)
    have hE7 := hE.later hb7
    have hT7 : TyX 53 W7 a5 c5 := hT.kpr (.inr (.inr rfl)) (KeepR.of_below hb7)
    clear hme hE hT hrz q6 hbel hb7
    cases hm : mayEntry ⟨⟨y.toArray⟩, a5, n5, c5⟩ xs with
    | false =>
      have hno := HNo.out hm
      have f1 : (W7.setRow w.heap.size zeroE.cells).heap[w.heap.size]? = some (.cells zeroE.cells 119) := setRow_at' hrz7
      have f2 := below_setRow hbel7 (Nat.le_refl _) zeroE.cells
      clear hm
      go_wp2_with (refine wpList_store_row hrz7 rfl rfl rfl rfl (by kernel_rfl) rfl (by kernel_rfl) ?_; go_simp)
      exact bodyPost_ret (w := W7.setRow w.heap.size zeroE.cells) (results_row2 (i := 2) (j := 3) (t := 119) rfl rfl rfl (by kernel_rfl) (by kernel_rfl) f1) rfl ⟨f2, .inr ⟨rfl, hno⟩⟩
    | true =>
      have HM := Lib.hid hm
      have f1 : (W7.setRow w.heap.size (EV.cells ⟨⟨y.toArray⟩, a5, n5, c5⟩)).heap[w.heap.size]? = some (.cells (EV.cells ⟨⟨y.toArray⟩, a5, n5, c5⟩) 119) := setRow_at' hrz7
      have f2 := below_setRow hbel7 (Nat.le_refl _) (EV.cells ⟨⟨y.toArray⟩, a5, n5, c5⟩)
      have hkr := kpr_ent hrz7 (below_setRow (Below.refl w.heap.size W7) (Nat.le_refl _) (EV.cells ⟨⟨y.toArray⟩, a5, n5, c5⟩)).size (fun k hk => setRow_other W7 w.heap.size k (EV.cells ⟨⟨y.toArray⟩, a5, n5, c5⟩) hk)
      have hEF : EAt (W7.setRow w.heap.size (EV.cells ⟨⟨y.toArray⟩, a5, n5, c5⟩)) ⟨⟨y.toArray⟩, a5, n5, c5⟩ xs := ⟨rd_kpr (.inr (.inr rfl)) hE7.a hT7 hkr, hE7.la⟩
      have hTF : TyX 53 (W7.setRow w.heap.size (EV.cells ⟨⟨y.toArray⟩, a5, n5, c5⟩)) a5 c5 := hT7.kpr (.inr (.inr rfl)) hkr
      clear hm
      go_wp2_with (first | (refine wpList_load_row q7 rfl rfl rfl (by kernel_rfl) (by kernel_rfl) ?_; go_simp) | (refine wpList_store_row hrz7 rfl rfl rfl rfl (by kernel_rfl) rfl (by kernel_rfl) ?_; go_simp))
      exact bodyPost_ret (w := W7.setRow w.heap.size (EV.cells ⟨⟨y.toArray⟩, a5, n5, c5⟩)) (results_row2 (i := 2) (j := 3) (t := 119) rfl rfl rfl (by kernel_rfl) (by kernel_rfl) f1) rfl ⟨f2, .inl ⟨_, xs, rfl, hEF, hTF, HM.out, HD.out⟩⟩
  · have f0 : decide (s2.bad = false ∧ s2.l = []) = false := decide_eq_false he
    have hno := ent_none T1 T2 (v0 := ⟨⟨y.toArray⟩, a5, n5, c5⟩) rfl (.inl (by
      cases hb : s2.bad with
      | true => exact .inl rfl
      | false => exact .inr (List.length_pos_iff.2 (fun h => he ⟨hb, h⟩))))
    have f1 : (W6.setRow w.heap.size zeroE.cells).heap[w.heap.size]? = some (.cells zeroE.cells 119) := setRow_at' hrz
    have f2 := below_setRow hbel (Nat.le_refl _) zeroE.cells
    clear he
    go_wp2_with (refine wpList_store_row hrz rfl rfl rfl rfl (by kernel_rfl) rfl (by kernel_rfl) ?_; go_simp)
    exact bodyPost_ret (w := W6.setRow w.heap.size zeroE.cells) (results_row2 (i := 2) (j := 3) (t := 119) rfl rfl rfl (by kernel_rfl) (by kernel_rfl) f1) rfl ⟨f2, .inr ⟨rfl, hno⟩⟩
end Go.Proofs.YtgeafnggodkpaaaGreat.Msg
