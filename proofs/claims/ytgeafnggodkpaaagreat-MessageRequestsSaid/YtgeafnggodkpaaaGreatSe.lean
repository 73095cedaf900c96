/-
  MessageOps walked.
-/
import Derived.Test.YtgeafnggodkpaaaGreatSd
import Derived.Test.YtgeafnggodkpaaaGreatRq
import Derived.Test.YtgeafnggodkpaaaGreatPh
namespace Go.Proofs.YtgeafnggodkpaaaGreat.Msg
open Go.RowKit Go.Lib Go.Proofs.YtgeafnggodkpaaaGreat.Mem Go.Proofs.YtgeafnggodkpaaaGreat.Tlv

/-- An operation's bytes, or the error. -/
def GivesOB (v : OV) (c : OC) (w : World) (e : Ending) (w' : World) : Prop := ∃ (l : List UInt8) (ax : Option Addr) (cx : Nat) (ex : Int), e = .returned (.tuple #[.slice ax l.length cx, .int .i64 ex]) ∧ Rd w' 1 ax l.length cx (byV l) ∧ Below w.heap.size w w' ∧ (mayOp v c = true → l = opL v c ∧ ex = 0) ∧ (mayOp v c = false → l = [] ∧ ex = 2)
set_option maxRecDepth 100000 in
set_option maxHeartbeats 2000000 in
theorem opBytesE_any (v : OV) (c : OC) (w : World) (ho : OpAt w v c) : Calls Tryz.prog 9 #[v.val] w (GivesOB v c w) := by
  have hb0 : Below w.heap.size w (w.alloc v.box) := (Below.refl _ _).alloc (Nat.le_refl _) _
  have k0 : (w.alloc v.box).heap[w.heap.size]? = some v.box := by show (w.heap.push _)[w.heap.size]? = some _; exact Array.getElem?_push_size
  unfold OV.box at hb0 k0
  unfold OV.val
  go_enter Tryz.func9, Tryz.ntmps9
  go_upto_region 1 with fail
  generalize hg : w.alloc _ = W0 at *
  have k0f : W0.heap[w.heap.size]? = some v.box := k0
  clear hg k0
  have hop := opC_all W0 v c (ho.later hb0)
  have hmay := hop.may W0 (ho.later hb0)
  unfold OV.val at hmay
  go_wp2_with (refine wpList_load_row k0f rfl rfl rfl (by kernel_rfl) (by kernel_rfl) ?_; go_simp)
  refine hmay.mono ?_
  rintro e W1 ⟨rfl, hb1⟩
  have k1f : W1.heap[w.heap.size]? = some v.box := (hb1.block _ (Array.getElem?_eq_some_iff.1 k0f).1).trans k0f
  have hbb := hb0.trans (hb1.mono hb0.size)
  clear hmay
  cases hm : mayOp v c with
  | false =>
    have HM := Lib.hid hm
    clear hm hop
    go_wp2_with fail
    go_ret2
    exact ⟨[], none, 0, 2, rfl, Rd.nil _ _, hbb, fun h => (by rw [HM.out] at h; cases h), fun _ => ⟨rfl, rfl⟩⟩
  | true =>
    have hby := hop.byts hm W1 (ho.later hbb)
    have HM := Lib.hid hm
    rw [opBy_yes hm] at hby
    clear hm hop
    unfold OV.val at hby
    go_wp2_with (refine wpList_load_row k1f rfl rfl rfl (by kernel_rfl) (by kernel_rfl) ?_; go_simp)
    refine hby.mono ?_
    rintro e W2 ⟨ao, cap, rfl, hr2, hb2, hf2⟩
    go_wp2_with fail
    go_ret2
    exact ⟨_, ao, cap, 0, rfl, hr2, hbb.trans (hb2.mono hbb.size), fun _ => ⟨rfl, rfl⟩, fun h => (by rw [HM.out] at h; cases h)⟩

/-- The four operations, as the law goes on. -/
structure OpsAt (w : World) (v v' Y Z : OV) (c c' cY cZ : OC) (yb zb : Nat) (ax : Option Addr) (cx : Nat) (lx : List UInt8) (W : World) : Prop where
  bel : Below w.heap.size w W
  b0 : W.heap[w.heap.size]? = some v.box
  b1 : W.heap[w.heap.size + 1]? = some v'.box
  b2 : W.heap[yb]? = some Y.box
  b3 : W.heap[zb]? = some Z.box
  o0 : OpAt W v c
  o1 : OpAt W v' c'
  o2 : OpAt W Y cY
  o3 : OpAt W Z cZ
  rx : Rd W 1 ax lx.length cx (byV lx)
theorem OpsAt.step {w : World} {v v' Y Z : OV} {c c' cY cZ : OC} {yb zb : Nat} {ax : Option Addr} {cx : Nat} {lx : List UInt8} {W W' : World} (h : OpsAt w v v' Y Z c c' cY cZ yb zb ax cx lx W) (hb : Below W.heap.size W W') : OpsAt w v v' Y Z c c' cY cZ yb zb ax cx lx W' :=
  ⟨h.bel.trans (hb.mono h.bel.size), (hb.block _ (Array.getElem?_eq_some_iff.1 h.b0).1).trans h.b0, (hb.block _ (Array.getElem?_eq_some_iff.1 h.b1).1).trans h.b1, (hb.block _ (Array.getElem?_eq_some_iff.1 h.b2).1).trans h.b2, (hb.block _ (Array.getElem?_eq_some_iff.1 h.b3).1).trans h.b3, h.o0.later hb, h.o1.later hb, h.o2.later hb, h.o3.later hb, h.rx.later hb⟩
theorem sameOp_refl (v : OV) (c : OC) : sameOp v c v c = true := same_yes ⟨rfl, rfl, rfl, rfl, rfl, rfl, rfl⟩
/-- What the program's answer comes to, and the document's. -/
theorem ans_prog {T : World → OV → Prop} {b : List UInt8} {w w' : World} {e : Ending} (h : GivesOp T (.int .i64 0) (.int .i64 4) b w e w') : ∃ (f : Int) (Y : OV) (cY : OC), e = .returned (.tuple #[Y.val, .int .i64 f]) ∧ OpAt w' Y cY ∧ Below w.heap.size w w' ∧ ((f = 0 ∧ mayOp Y cY = true ∧ opL Y cY = b) ∨ (f = 4 ∧ Y = zeroV ∧ cY = ⟨[], [], []⟩ ∧ NoOp b)) := by
  obtain ⟨hb, ⟨Y, cY, rfl, oY, -, mY, lY⟩ | ⟨rfl, n1⟩⟩ := h
  · exact ⟨0, Y, cY, rfl, oY, hb, .inl ⟨rfl, mY, lY⟩⟩
  · exact ⟨4, zeroV, ⟨[], [], []⟩, rfl, ⟨Rd.nil _ _, Rd.nil _ _, Rd.nil _ _, Nat.zero_le _, Nat.zero_le _, Nat.zero_le _⟩, hb, .inr ⟨rfl, rfl, rfl, n1⟩⟩
theorem ans_ref {T : World → OV → Prop} {b : List UInt8} {w w' : World} {e : Ending} (h : GivesOp T (.bool true) (.bool false) b w e w') : ∃ (ok : Bool) (Y : OV) (cY : OC), e = .returned (.tuple #[Y.val, .bool ok]) ∧ OpAt w' Y cY ∧ Below w.heap.size w w' ∧ ((ok = true ∧ mayOp Y cY = true ∧ opL Y cY = b) ∨ (ok = false ∧ Y = zeroV ∧ cY = ⟨[], [], []⟩ ∧ NoOp b)) := by
  obtain ⟨hb, ⟨Y, cY, rfl, oY, -, mY, lY⟩ | ⟨rfl, n1⟩⟩ := h
  · exact ⟨true, Y, cY, rfl, oY, hb, .inl ⟨rfl, mY, lY⟩⟩
  · exact ⟨false, zeroV, ⟨[], [], []⟩, rfl, ⟨Rd.nil _ _, Rd.nil _ _, Rd.nil _ _, Nat.zero_le _, Nat.zero_le _, Nat.zero_le _⟩, hb, .inr ⟨rfl, rfl, rfl, n1⟩⟩
theorem two_ans {W1 W2 : World} {b : List UInt8} {f : Int} {ok : Bool} {Y Z : OV} {cY cZ : OC} (oY : OpAt W1 Y cY) (oZ : OpAt W2 Z cZ) (h1 : (f = 0 ∧ mayOp Y cY = true ∧ opL Y cY = b) ∨ (f = 4 ∧ Y = zeroV ∧ cY = ⟨[], [], []⟩ ∧ NoOp b)) (h2 : (ok = true ∧ mayOp Z cZ = true ∧ opL Z cZ = b) ∨ (ok = false ∧ Z = zeroV ∧ cZ = ⟨[], [], []⟩ ∧ NoOp b)) :
    sameOp Y cY Z cZ = true ∧ ((ok = true ∧ f = 0) ∨ (ok = false ∧ f = 4)) := by
  rcases h1 with ⟨rfl, mY, lY⟩ | ⟨rfl, rfl, rfl, n1⟩
  · rcases h2 with ⟨rfl, mZ, lZ⟩ | ⟨rfl, rfl, rfl, n2⟩
    · exact ⟨op_inj oY oZ mY mZ (lY.trans lZ.symm), .inl ⟨rfl, rfl⟩⟩
    · exact absurd lY (n2 _ _ _ oY mY)
  · rcases h2 with ⟨rfl, mZ, lZ⟩ | ⟨rfl, rfl, rfl, n2⟩
    · exact absurd lZ (n1 _ _ _ oZ mZ)
    · exact ⟨sameOp_refl _ _, .inr ⟨rfl, rfl⟩⟩

set_option maxRecDepth 100000 in
set_option maxHeartbeats 40000000 in
theorem messageOps_any (v v' : OV) (c c' : OC) (ao : Option Addr) (n cap : Nat) (b : List UInt8) (w : World) (ho : OpRd w v c) (ho' : OpRd w v' c') (hr : Rd w 1 ao n cap (byV b)) :
    Calls Tryz.prog 3 #[v.val, v'.val, .slice ao n cap] w (GivesB true w) := by
  have hmo : Tryz.prog.follows .mixedOrders = true := by kernel_rfl
  have hb0 : Below w.heap.size w ((w.alloc v.box).alloc v'.box) := below_two w _ _
  obtain ⟨k1, k2⟩ := two_boxes w v.box v'.box
  unfold OV.box at hb0 k1 k2
  unfold OV.val
  go_enter Tryz.func3, Tryz.ntmps3
  go_upto_region 1 with fail
  generalize hg : World.alloc _ _ = W0 at *
  have q1 : W0.heap[w.heap.size]? = some v.box := k1
  have q2 : W0.heap[w.heap.size + 1]? = some v'.box := k2
  clear hg k1 k2
  have hbig0 := big_any v c W0 (ho.later hb0)
  unfold OV.val at hbig0
  go_wp2_with (refine wpList_load_row q1 rfl rfl rfl (by kernel_rfl) (by kernel_rfl) ?_; go_simp)
  refine hbig0.mono ?_
  rintro e W1 ⟨b1, rfl, hB1, hb1⟩
  have hb1' := hb0.trans (hb1.mono hb0.size)
  have HB1 := Lib.hid hB1
  clear hbig0 hB1
  cases b1 with
  | true =>
    go_wp2_with fail
    refine (known_any W1).mono ?_
    rintro e W2 ⟨rfl, hb2⟩
    go_wp2_with fail
    go_ret
    exact ⟨rfl, hb1'.trans (hb2.mono hb1'.size)⟩
  | false =>
    have q2' := (hb1.block _ (Array.getElem?_eq_some_iff.1 q2).1).trans q2
    have q1' := (hb1.block _ (Array.getElem?_eq_some_iff.1 q1).1).trans q1
    have hbig1 := big_any v' c' W1 (ho'.later hb1')
    unfold OV.val at hbig1
    go_wp2_with (refine wpList_load_row q2' rfl rfl rfl (by kernel_rfl) (by kernel_rfl) ?_; go_simp)
    refine hbig1.mono ?_
    rintro e W2 ⟨b2, rfl, hB2, hb2⟩
    have hb2' := hb1'.trans (hb2.mono hb1'.size)
    have HB2 := Lib.hid hB2
    clear hbig1 hB2
    cases b2 with
    | true =>
      go_wp2_with fail
      refine (known_any W2).mono ?_
      rintro e W3 ⟨rfl, hb3⟩
      go_wp2_with fail
      go_ret
      exact ⟨rfl, hb2'.trans (hb3.mono hb2'.size)⟩
    | false =>
      by_cases hn : 20000 < n
      · have f0 : decide ((20000 : Int) < (n : Int)) = true := decide_eq_true (by omega)
        go_wp2_with fail
        refine (known_any W2).mono ?_
        rintro e W3 ⟨rfl, hb3⟩
        go_wp2_with fail
        go_ret
        exact ⟨rfl, hb2'.trans (hb3.mono hb2'.size)⟩
      · have f0 : decide ((20000 : Int) < (n : Int)) = false := decide_eq_false (by omega)
        have o0 := ((HB1.out (by first | rfl | trivial)).later hb1).later hb2
        have o1 := (HB2.out (by first | rfl | trivial)).later hb2
        have p1 := (hb2.block _ (Array.getElem?_eq_some_iff.1 q1').1).trans q1'
        have p2 := (hb2.block _ (Array.getElem?_eq_some_iff.1 q2').1).trans q2'
        have Hn := Lib.hid hn
        clear HB1 HB2 hb1 hb2 hb1' q1 q2 q1' q2' hb0 hn
        have hOB := opBytesE_any v c W2 o0
        unfold OV.val at hOB
        go_wp2_with (refine wpList_load_row p1 rfl rfl rfl (by kernel_rfl) (by kernel_rfl) ?_; go_simp)
        refine hOB.mono ?_
        rintro e W3 ⟨lx, ax, cx, ex, rfl, hrx, hb3, hx1, hx2⟩
        have hb3' := hb2'.trans (hb3.mono hb2'.size)
        have o0' := o0.later hb3
        have o1' := o1.later hb3
        have p1' := (hb3.block _ (Array.getElem?_eq_some_iff.1 p1).1).trans p1
        have p2' := (hb3.block _ (Array.getElem?_eq_some_iff.1 p2).1).trans p2
        have Hx := Lib.hid (And.intro hx1 hx2)
        clear hOB o0 o1 p1 p2 hx1 hx2 hb3 f0
        go_wp2_with fail
        refine (opOf_any b ao n cap W3 (hr.later hb3') (by have := Hn.out; omega)).mono ?_
        rintro e W4 hA
        obtain ⟨f, Y, cY, rfl, oY, hb4, hY⟩ := ans_prog hA
        have HY := Lib.hid hY
        clear hA hY
        unfold OV.val
        go_upto_region 5 with (refine wpList_store_new rfl rfl rfl rfl (by kernel_rfl) rfl (by kernel_rfl) ?_; go_simp)
        generalize hg : W4.alloc _ = W5
        have e5 : W4.alloc Y.box = W5 := hg
        have hb5 : Below W4.heap.size W4 W5 := by rw [← e5]; exact (Below.refl _ _).alloc (Nat.le_refl _) _
        have kY : W5.heap[W4.heap.size]? = some Y.box := by rw [← e5]; show (W4.heap.push _)[W4.heap.size]? = some _; exact Array.getElem?_push_size
        have hb35 : Below W3.heap.size W3 W5 := hb4.trans (hb5.mono hb4.size)
        have bel5 := hb3'.trans (hb35.mono hb3'.size)
        have o05 := o0'.later hb35
        have o15 := o1'.later hb35
        have p15 := (hb35.block _ (Array.getElem?_eq_some_iff.1 p1').1).trans p1'
        have p25 := (hb35.block _ (Array.getElem?_eq_some_iff.1 p2').1).trans p2'
        have hrx5 := hrx.later hb35
        have oY5 := oY.later hb5
        clear hg e5 hb35 hb4 hb5 hb3' hb2' o0' o1' p1' p2' hrx oY
        generalize W4.heap.size = yb at *
        have hBw : w.heap.size ≤ W5.heap.size := bel5.size
        have hty5 : TyB w.heap.size W5 ao cap := fun h0 a ha => .inl (hr.lt h0 a ha)
        go_wp2_with fail
        refine (rOpOf_any w.heap.size b ao n cap W5 (hr.later bel5) hBw hty5 (by have := Hn.out; omega)).mono ?_
        rintro e W6 hA
        obtain ⟨ok, Z, cZ, rfl, oZ, hb6, hZ⟩ := ans_ref hA
        have HZ := Lib.hid hZ
        clear hA hZ
        unfold OV.val
        go_upto_region 6 with (refine wpList_store_new rfl rfl rfl rfl (by kernel_rfl) rfl (by kernel_rfl) ?_; go_simp)
        generalize hg : W6.alloc _ = W7
        have e7 : W6.alloc Z.box = W7 := hg
        have hb7 : Below W6.heap.size W6 W7 := by rw [← e7]; exact (Below.refl _ _).alloc (Nat.le_refl _) _
        have kZ : W7.heap[W6.heap.size]? = some Z.box := by rw [← e7]; show (W6.heap.push _)[W6.heap.size]? = some _; exact Array.getElem?_push_size
        have hb57 : Below W5.heap.size W5 W7 := hb6.trans (hb7.mono hb6.size)
        have hS7 : OpsAt w v v' Y Z c c' cY cZ yb W6.heap.size ax cx lx W7 := ⟨bel5.trans (hb57.mono bel5.size), (hb57.block _ (Array.getElem?_eq_some_iff.1 p15).1).trans p15, (hb57.block _ (Array.getElem?_eq_some_iff.1 p25).1).trans p25, (hb57.block _ (Array.getElem?_eq_some_iff.1 kY).1).trans kY, kZ, o05.later hb57, o15.later hb57, oY5.later hb57, oZ.later hb7, hrx5.later hb57⟩
        have HF := Lib.hid (two_ans oY5 oZ HY.out HZ.out)
        clear hg e7 hb7 kZ hb57 kY bel5 o05 o15 p15 p25 hrx5 oY5 oZ hb6 hBw hty5 HY HZ
        generalize W6.heap.size = zb at *
        have hmay := rMayOp_any v c W7 hS7.o0
        unfold OV.val at hmay
        have r0 := hS7.b0
        go_wp2_with (refine wpList_load_row r0 rfl rfl rfl (by kernel_rfl) (by kernel_rfl) ?_; go_simp)
        refine hmay.mono ?_
        rintro e W8 ⟨rfl, hb8⟩
        have hS8 := hS7.step hb8
        clear hmay r0 hS7 hb8
        obtain ⟨m, hm⟩ : ∃ m, mayOp v c = m := ⟨_, rfl⟩
        obtain ⟨q, hq⟩ : ∃ q, sameOp v c v' c' = q := ⟨_, rfl⟩
        have HM := Lib.hid hm
        have HQ := Lib.hid hq
        rw [hm]
        obtain ⟨hsame, hfo⟩ := HF.out
        have HS := Lib.hid hsame
        clear hm hq hsame
        obtain ⟨HX1, HX2⟩ := Hx.out
        have Hx1 := Lib.hid HX1
        have Hx2 := Lib.hid HX2
        clear HX1 HX2 Hx HF
        have s0 : OpsAt w v v' Y Z c c' cY cZ yb zb ax cx lx W8.drew := hS8.step (Below.refl _ _).drew
        clear hS8
        go_upto_region 7 with fail
        rcases hfo with ⟨rfl, rfl⟩ | ⟨rfl, rfl⟩
        · refine wp_region_held (S := OpsAt w v v' Y Z c c' cY cZ yb zb ax cx lx) hmo ?_
          change wpAnyH _ _ _ _ _ _ _ _ (World.drew W8)
          generalize World.drew W8 = X0 at *
          refine wpAnyH_take (i := 0) (v := .agg #[.int .i64 v.k, .string v.name, .string v.to, .slice v.ao v.an v.ac, .slice v.bo v.bn v.bc, .slice v.co v.cn v.cc, .int .i64 v.n]) rfl (by kernel_rfl) (by kernel_rfl) (by kernel_rfl) (fun _ _ _ h => h) (Or.inl ⟨by kernel_rfl, by rintro w2 h; obtain ⟨c0, c1, c2, c3, c4, c5, c6, -⟩ := box_all h.b0; obtain ⟨d0, d1, d2, d3, d4, d5, d6, -⟩ := box_all h.b1; obtain ⟨e0, e1, e2, e3, e4, e5, e6, -⟩ := box_all h.b2; obtain ⟨f0, f1, f2, f3, f4, f5, f6, -⟩ := box_all h.b3; go_simp⟩) s0 ?_
          go_simp
          refine wpAnyH_take (i := 2) (v := .bool m) rfl (by kernel_rfl) (by kernel_rfl) (by kernel_rfl) (fun _ _ _ h => h) (Or.inl ⟨by kernel_rfl, by intro _ _; kernel_rfl⟩) s0 ?_
          go_simp
          refine wpAnyH_all (rs := [1]) (by kernel_rfl) (by simp) (fun j hj => ?_)
          rw [List.mem_singleton] at hj
          subst hj
          refine wpOp_step rfl (fun K hK => ?_)
          go_simp
          have hc := (opC_all X0 v c s0.o0).may X0 s0.o0
          unfold OV.val at hc
          rw [HM.out] at hc
          refine hc.mono ?_
          rintro e X1 ⟨rfl, hb0⟩
          have s1 := s0.step hb0
          clear hc
          go_simp
          refine hK _ _ ⟨s1, ?_⟩
          clear hK K
          refine wpAnyH_take (i := 3) (v := .bool false) rfl (by kernel_rfl) (by kernel_rfl) (by kernel_rfl) (fun _ _ _ h => h) (Or.inl ⟨by kernel_rfl, by rintro w2 h; obtain ⟨c0, c1, c2, c3, c4, c5, c6, -⟩ := box_all h.b0; obtain ⟨d0, d1, d2, d3, d4, d5, d6, -⟩ := box_all h.b1; obtain ⟨e0, e1, e2, e3, e4, e5, e6, -⟩ := box_all h.b2; obtain ⟨f0, f1, f2, f3, f4, f5, f6, -⟩ := box_all h.b3; cases m <;> go_simp⟩) s1 ?_
          go_simp
          refine wpAnyH_take (i := 4) (v := .bool false) rfl (by kernel_rfl) (by kernel_rfl) (by kernel_rfl) (fun _ _ _ h => h) (Or.inl ⟨by kernel_rfl, by intro _ _; kernel_rfl⟩) s1 ?_
          go_simp
          refine wpAnyH_take (i := 5) (v := .agg #[.int .i64 v.k, .string v.name, .string v.to, .slice v.ao v.an v.ac, .slice v.bo v.bn v.bc, .slice v.co v.cn v.cc, .int .i64 v.n]) rfl (by kernel_rfl) (by kernel_rfl) (by kernel_rfl) (fun _ _ _ h => h) (Or.inl ⟨by kernel_rfl, by rintro w2 h; obtain ⟨c0, c1, c2, c3, c4, c5, c6, -⟩ := box_all h.b0; obtain ⟨d0, d1, d2, d3, d4, d5, d6, -⟩ := box_all h.b1; obtain ⟨e0, e1, e2, e3, e4, e5, e6, -⟩ := box_all h.b2; obtain ⟨f0, f1, f2, f3, f4, f5, f6, -⟩ := box_all h.b3; go_simp⟩) s1 ?_
          go_simp
          refine wpAnyH_take (i := 6) (v := .agg #[.int .i64 v'.k, .string v'.name, .string v'.to, .slice v'.ao v'.an v'.ac, .slice v'.bo v'.bn v'.bc, .slice v'.co v'.cn v'.cc, .int .i64 v'.n]) rfl (by kernel_rfl) (by kernel_rfl) (by kernel_rfl) (fun _ _ _ h => h) (Or.inl ⟨by kernel_rfl, by rintro w2 h; obtain ⟨c0, c1, c2, c3, c4, c5, c6, -⟩ := box_all h.b0; obtain ⟨d0, d1, d2, d3, d4, d5, d6, -⟩ := box_all h.b1; obtain ⟨e0, e1, e2, e3, e4, e5, e6, -⟩ := box_all h.b2; obtain ⟨f0, f1, f2, f3, f4, f5, f6, -⟩ := box_all h.b3; go_simp⟩) s1 ?_
          go_simp
          refine wpAnyH_take (i := 8) (v := .agg #[.int .i64 v.k, .string v.name, .string v.to, .slice v.ao v.an v.ac, .slice v.bo v.bn v.bc, .slice v.co v.cn v.cc, .int .i64 v.n]) rfl (by kernel_rfl) (by kernel_rfl) (by kernel_rfl) (fun _ _ _ h => h) (Or.inl ⟨by kernel_rfl, by rintro w2 h; obtain ⟨c0, c1, c2, c3, c4, c5, c6, -⟩ := box_all h.b0; obtain ⟨d0, d1, d2, d3, d4, d5, d6, -⟩ := box_all h.b1; obtain ⟨e0, e1, e2, e3, e4, e5, e6, -⟩ := box_all h.b2; obtain ⟨f0, f1, f2, f3, f4, f5, f6, -⟩ := box_all h.b3; go_simp⟩) s1 ?_
          go_simp
          refine wpAnyH_take (i := 9) (v := .agg #[.int .i64 v'.k, .string v'.name, .string v'.to, .slice v'.ao v'.an v'.ac, .slice v'.bo v'.bn v'.bc, .slice v'.co v'.cn v'.cc, .int .i64 v'.n]) rfl (by kernel_rfl) (by kernel_rfl) (by kernel_rfl) (fun _ _ _ h => h) (Or.inl ⟨by kernel_rfl, by rintro w2 h; obtain ⟨c0, c1, c2, c3, c4, c5, c6, -⟩ := box_all h.b0; obtain ⟨d0, d1, d2, d3, d4, d5, d6, -⟩ := box_all h.b1; obtain ⟨e0, e1, e2, e3, e4, e5, e6, -⟩ := box_all h.b2; obtain ⟨f0, f1, f2, f3, f4, f5, f6, -⟩ := box_all h.b3; go_simp⟩) s1 ?_
          go_simp
          refine wpAnyH_all (rs := [7]) (by kernel_rfl) (by simp) (fun j hj => ?_)
          rw [List.mem_singleton] at hj
          subst hj
          refine wpOp_step rfl (fun K hK => ?_)
          go_simp
          have hc := sameOp_any v v' c c' X1 s1.o0 s1.o1
          unfold OV.val at hc
          rw [HQ.out] at hc
          refine hc.mono ?_
          rintro e X2 ⟨rfl, hb1⟩
          have s2 := s1.step hb1
          clear hc
          go_simp
          refine hK _ _ ⟨s2, ?_⟩
          clear hK K
          refine wpAnyH_all (rs := [10]) (by kernel_rfl) (by simp) (fun j hj => ?_)
          rw [List.mem_singleton] at hj
          subst hj
          refine wpOp_step rfl (fun K hK => ?_)
          go_simp
          have hc := rSameOp_any v v' c c' X2 s2.o0 s2.o1
          unfold OV.val at hc
          rw [HQ.out] at hc
          refine hc.mono ?_
          rintro e X3 ⟨rfl, hb2⟩
          have s3 := s2.step hb2
          clear hc
          go_simp
          refine hK _ _ ⟨s3, ?_⟩
          clear hK K
          refine wpAnyH_take (i := 11) (v := .bool false) rfl (by kernel_rfl) (by kernel_rfl) (by kernel_rfl) (fun _ _ _ h => h) (Or.inl ⟨by kernel_rfl, by rintro w2 h; obtain ⟨c0, c1, c2, c3, c4, c5, c6, -⟩ := box_all h.b0; obtain ⟨d0, d1, d2, d3, d4, d5, d6, -⟩ := box_all h.b1; obtain ⟨e0, e1, e2, e3, e4, e5, e6, -⟩ := box_all h.b2; obtain ⟨f0, f1, f2, f3, f4, f5, f6, -⟩ := box_all h.b3; cases q <;> go_simp⟩) s3 ?_
          go_simp
          refine wpAnyH_take (i := 12) (v := .bool false) rfl (by kernel_rfl) (by kernel_rfl) (by kernel_rfl) (fun _ _ _ h => h) (Or.inl ⟨by kernel_rfl, by intro _ _; kernel_rfl⟩) s3 ?_
          go_simp
          refine wpAnyH_take (i := 13) (v := .bool false) rfl (by kernel_rfl) (by kernel_rfl) (by kernel_rfl) (fun _ _ _ h => h) (Or.inl ⟨by kernel_rfl, by intro _ _; kernel_rfl⟩) s3 ?_
          go_simp
          refine wpAnyH_take (i := 14) (v := .agg #[.int .i64 v.k, .string v.name, .string v.to, .slice v.ao v.an v.ac, .slice v.bo v.bn v.bc, .slice v.co v.cn v.cc, .int .i64 v.n]) rfl (by kernel_rfl) (by kernel_rfl) (by kernel_rfl) (fun _ _ _ h => h) (Or.inl ⟨by kernel_rfl, by rintro w2 h; obtain ⟨c0, c1, c2, c3, c4, c5, c6, -⟩ := box_all h.b0; obtain ⟨d0, d1, d2, d3, d4, d5, d6, -⟩ := box_all h.b1; obtain ⟨e0, e1, e2, e3, e4, e5, e6, -⟩ := box_all h.b2; obtain ⟨f0, f1, f2, f3, f4, f5, f6, -⟩ := box_all h.b3; go_simp⟩) s3 ?_
          go_simp
          refine wpAnyH_take (i := 15) (v := .agg #[.int .i64 v.k, .string v.name, .string v.to, .slice v.ao v.an v.ac, .slice v.bo v.bn v.bc, .slice v.co v.cn v.cc, .int .i64 v.n]) rfl (by kernel_rfl) (by kernel_rfl) (by kernel_rfl) (fun _ _ _ h => h) (Or.inl ⟨by kernel_rfl, by rintro w2 h; obtain ⟨c0, c1, c2, c3, c4, c5, c6, -⟩ := box_all h.b0; obtain ⟨d0, d1, d2, d3, d4, d5, d6, -⟩ := box_all h.b1; obtain ⟨e0, e1, e2, e3, e4, e5, e6, -⟩ := box_all h.b2; obtain ⟨f0, f1, f2, f3, f4, f5, f6, -⟩ := box_all h.b3; go_simp⟩) s3 ?_
          go_simp
          refine wpAnyH_all (rs := [16]) (by kernel_rfl) (by simp) (fun j hj => ?_)
          rw [List.mem_singleton] at hj
          subst hj
          refine wpOp_step rfl (fun K hK => ?_)
          go_simp
          have hc := sameOp_any v v c c X3 s3.o0 s3.o0
          unfold OV.val at hc
          rw [sameOp_refl] at hc
          refine hc.mono ?_
          rintro e X4 ⟨rfl, hb3⟩
          have s4 := s3.step hb3
          clear hc
          go_simp
          refine hK _ _ ⟨s4, ?_⟩
          clear hK K
          refine wpAnyH_take (i := 17) (v := .bool false) rfl (by kernel_rfl) (by kernel_rfl) (by kernel_rfl) (fun _ _ _ h => h) (Or.inl ⟨by kernel_rfl, by rintro w2 h; obtain ⟨c0, c1, c2, c3, c4, c5, c6, -⟩ := box_all h.b0; obtain ⟨d0, d1, d2, d3, d4, d5, d6, -⟩ := box_all h.b1; obtain ⟨e0, e1, e2, e3, e4, e5, e6, -⟩ := box_all h.b2; obtain ⟨f0, f1, f2, f3, f4, f5, f6, -⟩ := box_all h.b3; go_simp⟩) s4 ?_
          go_simp
          refine wpAnyH_take (i := 18) (v := .bool false) rfl (by kernel_rfl) (by kernel_rfl) (by kernel_rfl) (fun _ _ _ h => h) (Or.inl ⟨by kernel_rfl, by intro _ _; kernel_rfl⟩) s4 ?_
          go_simp
          refine wpAnyH_take (i := 19) (v := .bool false) rfl (by kernel_rfl) (by kernel_rfl) (by kernel_rfl) (fun _ _ _ h => h) (Or.inl ⟨by kernel_rfl, by intro _ _; kernel_rfl⟩) s4 ?_
          go_simp
          refine wpAnyH_take (i := 20) (v := .agg #[.int .i64 Y.k, .string Y.name, .string Y.to, .slice Y.ao Y.an Y.ac, .slice Y.bo Y.bn Y.bc, .slice Y.co Y.cn Y.cc, .int .i64 Y.n]) rfl (by kernel_rfl) (by kernel_rfl) (by kernel_rfl) (fun _ _ _ h => h) (Or.inl ⟨by kernel_rfl, by rintro w2 h; obtain ⟨c0, c1, c2, c3, c4, c5, c6, -⟩ := box_all h.b0; obtain ⟨d0, d1, d2, d3, d4, d5, d6, -⟩ := box_all h.b1; obtain ⟨e0, e1, e2, e3, e4, e5, e6, -⟩ := box_all h.b2; obtain ⟨f0, f1, f2, f3, f4, f5, f6, -⟩ := box_all h.b3; go_simp⟩) s4 ?_
          go_simp
          refine wpAnyH_take (i := 21) (v := .agg #[.int .i64 Z.k, .string Z.name, .string Z.to, .slice Z.ao Z.an Z.ac, .slice Z.bo Z.bn Z.bc, .slice Z.co Z.cn Z.cc, .int .i64 Z.n]) rfl (by kernel_rfl) (by kernel_rfl) (by kernel_rfl) (fun _ _ _ h => h) (Or.inl ⟨by kernel_rfl, by rintro w2 h; obtain ⟨c0, c1, c2, c3, c4, c5, c6, -⟩ := box_all h.b0; obtain ⟨d0, d1, d2, d3, d4, d5, d6, -⟩ := box_all h.b1; obtain ⟨e0, e1, e2, e3, e4, e5, e6, -⟩ := box_all h.b2; obtain ⟨f0, f1, f2, f3, f4, f5, f6, -⟩ := box_all h.b3; go_simp⟩) s4 ?_
          go_simp
          refine wpAnyH_all (rs := [22]) (by kernel_rfl) (by simp) (fun j hj => ?_)
          rw [List.mem_singleton] at hj
          subst hj
          refine wpOp_step rfl (fun K hK => ?_)
          go_simp
          have hc := rSameOp_any Y Z cY cZ X4 s4.o2 s4.o3
          unfold OV.val at hc
          rw [HS.out] at hc
          refine hc.mono ?_
          rintro e X5 ⟨rfl, hb4⟩
          have s5 := s4.step hb4
          clear hc
          go_simp
          refine hK _ _ ⟨s5, ?_⟩
          clear hK K
          refine wpAnyH_take (i := 23) (v := .bool false) rfl (by kernel_rfl) (by kernel_rfl) (by kernel_rfl) (fun _ _ _ h => h) (Or.inl ⟨by kernel_rfl, by rintro w2 h; obtain ⟨c0, c1, c2, c3, c4, c5, c6, -⟩ := box_all h.b0; obtain ⟨d0, d1, d2, d3, d4, d5, d6, -⟩ := box_all h.b1; obtain ⟨e0, e1, e2, e3, e4, e5, e6, -⟩ := box_all h.b2; obtain ⟨f0, f1, f2, f3, f4, f5, f6, -⟩ := box_all h.b3; go_simp⟩) s5 ?_
          go_simp
          refine wpAnyH_take (i := 24) (v := .bool false) rfl (by kernel_rfl) (by kernel_rfl) (by kernel_rfl) (fun _ _ _ h => h) (Or.inl ⟨by kernel_rfl, by intro _ _; kernel_rfl⟩) s5 ?_
          go_simp
          refine wpAnyH_take (i := 25) (v := .bool false) rfl (by kernel_rfl) (by kernel_rfl) (by kernel_rfl) (fun _ _ _ h => h) (Or.inl ⟨by kernel_rfl, by intro _ _; kernel_rfl⟩) s5 ?_
          go_simp
          refine wpAnyH_take (i := 26) (v := .int .i64 0) rfl (by kernel_rfl) (by kernel_rfl) (by kernel_rfl) (fun _ _ _ h => h) (Or.inl ⟨by kernel_rfl, by intro _ _; kernel_rfl⟩) s5 ?_
          go_simp
          refine wpAnyH_take (i := 29) (v := .bool true) rfl (by kernel_rfl) (by kernel_rfl) (by kernel_rfl) (fun _ _ _ h => h) (Or.inl ⟨by kernel_rfl, by intro _ _; kernel_rfl⟩) s5 ?_
          go_simp
          refine wpAnyH_all (rs := [27]) (by kernel_rfl) (by simp) (fun j hj => ?_)
          rw [List.mem_singleton] at hj
          subst hj
          refine wpOp_step rfl (fun K hK => ?_)
          go_simp
          refine (num_any 0 X5).mono ?_
          rintro e X6 ⟨rfl, hw5⟩
          have s6 : OpsAt w v v' Y Z c c' cY cZ yb zb ax cx lx X6 := by rw [← hw5]; exact s5
          clear hw5
          go_simp
          refine hK _ _ ⟨s6, ?_⟩
          clear hK K
          refine wpAnyH_take (i := 28) (v := .bool true) rfl (by kernel_rfl) (by kernel_rfl) (by kernel_rfl) (fun _ _ _ h => h) (Or.inl ⟨by kernel_rfl, by rintro w2 h; obtain ⟨c0, c1, c2, c3, c4, c5, c6, -⟩ := box_all h.b0; obtain ⟨d0, d1, d2, d3, d4, d5, d6, -⟩ := box_all h.b1; obtain ⟨e0, e1, e2, e3, e4, e5, e6, -⟩ := box_all h.b2; obtain ⟨f0, f1, f2, f3, f4, f5, f6, -⟩ := box_all h.b3; go_simp⟩) s6 ?_
          go_simp
          refine wpAnyH_take (i := 30) (v := .bool false) rfl (by kernel_rfl) (by kernel_rfl) (by kernel_rfl) (fun _ _ _ h => h) (Or.inl ⟨by kernel_rfl, by rintro w2 h; obtain ⟨c0, c1, c2, c3, c4, c5, c6, -⟩ := box_all h.b0; obtain ⟨d0, d1, d2, d3, d4, d5, d6, -⟩ := box_all h.b1; obtain ⟨e0, e1, e2, e3, e4, e5, e6, -⟩ := box_all h.b2; obtain ⟨f0, f1, f2, f3, f4, f5, f6, -⟩ := box_all h.b3; go_simp⟩) s6 ?_
          go_simp
          refine wpAnyH_take (i := 31) (v := .bool false) rfl (by kernel_rfl) (by kernel_rfl) (by kernel_rfl) (fun _ _ _ h => h) (Or.inl ⟨by kernel_rfl, by intro _ _; kernel_rfl⟩) s6 ?_
          go_simp
          refine wpAnyH_take (i := 32) (v := .bool false) rfl (by kernel_rfl) (by kernel_rfl) (by kernel_rfl) (fun _ _ _ h => h) (Or.inl ⟨by kernel_rfl, by intro _ _; kernel_rfl⟩) s6 ?_
          go_simp
          refine wpAnyH_take (i := 33) (v := .bool true) rfl (by kernel_rfl) (by kernel_rfl) (by kernel_rfl) (fun _ _ _ h => h) (Or.inl ⟨by kernel_rfl, by intro _ _; kernel_rfl⟩) s6 ?_
          go_simp
          refine wpAnyH_take (i := 34) (v := .bool false) rfl (by kernel_rfl) (by kernel_rfl) (by kernel_rfl) (fun _ _ _ h => h) (Or.inl ⟨by kernel_rfl, by rintro w2 h; obtain ⟨c0, c1, c2, c3, c4, c5, c6, -⟩ := box_all h.b0; obtain ⟨d0, d1, d2, d3, d4, d5, d6, -⟩ := box_all h.b1; obtain ⟨e0, e1, e2, e3, e4, e5, e6, -⟩ := box_all h.b2; obtain ⟨f0, f1, f2, f3, f4, f5, f6, -⟩ := box_all h.b3; go_simp⟩) s6 ?_
          go_simp
          refine wpAnyH_take (i := 35) (v := .bool false) rfl (by kernel_rfl) (by kernel_rfl) (by kernel_rfl) (fun _ _ _ h => h) (Or.inl ⟨by kernel_rfl, by intro _ _; kernel_rfl⟩) s6 ?_
          go_simp
          refine wpAnyH_take (i := 36) (v := undef) rfl (by kernel_rfl) (by kernel_rfl) (by kernel_rfl) (fun _ _ _ h => h) (Or.inr ⟨by kernel_rfl, rfl⟩) s6 ?_
          go_simp
          refine wpAnyH_take (i := 37) (v := undef) rfl (by kernel_rfl) (by kernel_rfl) (by kernel_rfl) (fun _ _ _ h => h) (Or.inr ⟨by kernel_rfl, rfl⟩) s6 ?_
          go_simp
          refine wpAnyH_take (i := 38) (v := undef) rfl (by kernel_rfl) (by kernel_rfl) (by kernel_rfl) (fun _ _ _ h => h) (Or.inr ⟨by kernel_rfl, rfl⟩) s6 ?_
          go_simp
          refine wpAnyH_take (i := 39) (v := .bool false) rfl (by kernel_rfl) (by kernel_rfl) (by kernel_rfl) (fun _ _ _ h => h) (Or.inl ⟨by kernel_rfl, by intro _ _; kernel_rfl⟩) s6 ?_
          go_simp
          refine wpAnyH_take (i := 40) (v := .bool false) rfl (by kernel_rfl) (by kernel_rfl) (by kernel_rfl) (fun _ _ _ h => h) (Or.inl ⟨by kernel_rfl, by intro _ _; kernel_rfl⟩) s6 ?_
          go_simp
          refine wpAnyH_done (by kernel_rfl) ?_ _
          have hX : Below w.heap.size w X6 := s6.bel
          cases m with
          | false =>
            obtain ⟨hl, hx⟩ := Hx2.out HM.out
            subst hl hx
            go_wp2_with fail
            refine (num_any 2 X6).mono ?_
            rintro e XA ⟨rfl, hwA⟩
            subst hwA
            go_wp2_with fail
            refine (known_any X6).mono ?_
            rintro e XB ⟨rfl, hbB⟩
            go_wp2_with fail
            go_ret
            exact ⟨rfl, hX.trans (hbB.mono hX.size)⟩
          | true =>
            obtain ⟨hl, hx⟩ := Hx1.out HM.out
            subst hl hx
            have q0 : OpsAt w v v' Y Z c c' cY cZ yb zb ax cx (opL v c) X6.drew := s6.step (Below.refl _ _).drew
            clear s0 s1 s2 s3 s4 s5 s6
            go_upto_region 11 with fail
            refine wp_region_held (S := OpsAt w v v' Y Z c c' cY cZ yb zb ax cx (opL v c)) hmo ?_
            change wpAnyH _ _ _ _ _ _ _ _ (World.drew X6)
            generalize World.drew X6 = U0 at *
            refine wpAnyH_take (i := 0) (v := .slice ax (opL v c).length cx) rfl (by kernel_rfl) (by kernel_rfl) (by kernel_rfl) (fun _ _ _ h => h) (Or.inl ⟨by kernel_rfl, by intro _ _; kernel_rfl⟩) q0 ?_
            go_simp
            refine wpAnyH_take (i := 1) (v := .string ⟨(opL v c).toArray⟩) rfl (by kernel_rfl) (by kernel_rfl) (by kernel_rfl) (fun _ _ _ h => h) (Or.inl ⟨by kernel_rfl, by rintro w2 h; obtain ⟨c0, c1, c2, c3, c4, c5, c6, -⟩ := box_all h.b0; obtain ⟨d0, d1, d2, d3, d4, d5, d6, -⟩ := box_all h.b1; obtain ⟨e0, e1, e2, e3, e4, e5, e6, -⟩ := box_all h.b2; obtain ⟨f0, f1, f2, f3, f4, f5, f6, -⟩ := box_all h.b3; have hs := run_strD ax _ cx _ w2 h.rx; go_simp⟩) q0 ?_
            go_simp
            refine wpAnyH_take (i := 2) (v := .agg #[.int .i64 v.k, .string v.name, .string v.to, .slice v.ao v.an v.ac, .slice v.bo v.bn v.bc, .slice v.co v.cn v.cc, .int .i64 v.n]) rfl (by kernel_rfl) (by kernel_rfl) (by kernel_rfl) (fun _ _ _ h => h) (Or.inl ⟨by kernel_rfl, by rintro w2 h; obtain ⟨c0, c1, c2, c3, c4, c5, c6, -⟩ := box_all h.b0; obtain ⟨d0, d1, d2, d3, d4, d5, d6, -⟩ := box_all h.b1; obtain ⟨e0, e1, e2, e3, e4, e5, e6, -⟩ := box_all h.b2; obtain ⟨f0, f1, f2, f3, f4, f5, f6, -⟩ := box_all h.b3; go_simp⟩) q0 ?_
            go_simp
            refine wpAnyH_all (rs := [3]) (by kernel_rfl) (by simp) (fun j hj => ?_)
            rw [List.mem_singleton] at hj
            subst hj
            refine wpOp_step rfl (fun K hK => ?_)
            go_simp
            have hc := rOpBytes_any v c U0 q0.o0 HM.out
            unfold OV.val at hc
            refine hc.mono ?_
            rintro e U1 ⟨v3, rfl, hown3, hu0⟩
            have q1 := q0.step hu0
            obtain ⟨a3, c3, rfl, hrd3⟩ := Rd.of_own hown3
            clear hc hown3
            go_simp
            refine hK _ _ ⟨q1, ?_⟩
            clear hK K
            refine wpAnyH_all (rs := [4]) (by kernel_rfl) (by simp) (fun j hj => ?_)
            rw [List.mem_singleton] at hj
            subst hj
            refine wpOp_step rfl (fun K hK => ?_)
            have hs := run_strD a3 _ c3 _ U1 hrd3
            obtain ⟨U2, hU2⟩ : ∃ U, U1 = U := ⟨_, rfl⟩
            have q2 : OpsAt w v v' Y Z c c' cY cZ yb zb ax cx (opL v c) U2 := by rw [← hU2]; exact q1
            rw [hU2] at hs ⊢
            clear hU2
            go_simp
            refine hK _ _ ⟨q2, ?_⟩
            clear hK K
            refine wpAnyH_take (i := 5) (v := .bool true) rfl (by kernel_rfl) (by kernel_rfl) (by kernel_rfl) (fun _ _ _ h => h) (Or.inl ⟨by kernel_rfl, by rintro w2 h; obtain ⟨c0, c1, c2, c3, c4, c5, c6, -⟩ := box_all h.b0; obtain ⟨d0, d1, d2, d3, d4, d5, d6, -⟩ := box_all h.b1; obtain ⟨e0, e1, e2, e3, e4, e5, e6, -⟩ := box_all h.b2; obtain ⟨f0, f1, f2, f3, f4, f5, f6, -⟩ := box_all h.b3; have hq2 := tol_yes ⟨(opL v c).toArray⟩; go_simp⟩) q2 ?_
            go_simp
            refine wpAnyH_take (i := 6) (v := .bool true) rfl (by kernel_rfl) (by kernel_rfl) (by kernel_rfl) (fun _ _ _ h => h) (Or.inl ⟨by kernel_rfl, by intro _ _; kernel_rfl⟩) q2 ?_
            go_simp
            refine wpAnyH_take (i := 7) (v := .int .i64 0) rfl (by kernel_rfl) (by kernel_rfl) (by kernel_rfl) (fun _ _ _ h => h) (Or.inl ⟨by kernel_rfl, by intro _ _; kernel_rfl⟩) q2 ?_
            go_simp
            refine wpAnyH_all (rs := [8]) (by kernel_rfl) (by simp) (fun j hj => ?_)
            rw [List.mem_singleton] at hj
            subst hj
            refine wpOp_step rfl (fun K hK => ?_)
            go_simp
            refine (num_any 0 U2).mono ?_
            rintro e U3 ⟨rfl, hw2⟩
            have q3 : OpsAt w v v' Y Z c c' cY cZ yb zb ax cx (opL v c) U3 := by rw [← hw2]; exact q2
            clear hw2
            go_simp
            refine hK _ _ ⟨q3, ?_⟩
            clear hK K
            refine wpAnyH_take (i := 9) (v := .bool true) rfl (by kernel_rfl) (by kernel_rfl) (by kernel_rfl) (fun _ _ _ h => h) (Or.inl ⟨by kernel_rfl, by rintro w2 h; obtain ⟨c0, c1, c2, c3, c4, c5, c6, -⟩ := box_all h.b0; obtain ⟨d0, d1, d2, d3, d4, d5, d6, -⟩ := box_all h.b1; obtain ⟨e0, e1, e2, e3, e4, e5, e6, -⟩ := box_all h.b2; obtain ⟨f0, f1, f2, f3, f4, f5, f6, -⟩ := box_all h.b3; go_simp⟩) q3 ?_
            go_simp
            refine wpAnyH_take (i := 10) (v := .bool true) rfl (by kernel_rfl) (by kernel_rfl) (by kernel_rfl) (fun _ _ _ h => h) (Or.inl ⟨by kernel_rfl, by intro _ _; kernel_rfl⟩) q3 ?_
            go_simp
            refine wpAnyH_take (i := 11) (v := .bool true) rfl (by kernel_rfl) (by kernel_rfl) (by kernel_rfl) (fun _ _ _ h => h) (Or.inl ⟨by kernel_rfl, by intro _ _; kernel_rfl⟩) q3 ?_
            go_simp
            refine wpAnyH_all (rs := [12]) (by kernel_rfl) (by simp) (fun j hj => ?_)
            rw [List.mem_singleton] at hj
            subst hj
            refine wpOp_step rfl (fun K hK => ?_)
            go_simp
            refine (known_any U3).mono ?_
            rintro e U4 ⟨rfl, hu3⟩
            have q4 := q3.step hu3
            go_simp
            refine hK _ _ ⟨q4, ?_⟩
            clear hK K
            refine wpAnyH_take (i := 13) (v := .bool true) rfl (by kernel_rfl) (by kernel_rfl) (by kernel_rfl) (fun _ _ _ h => h) (Or.inl ⟨by kernel_rfl, by intro _ _; kernel_rfl⟩) q4 ?_
            go_simp
            refine wpAnyH_take (i := 14) (v := .bool true) rfl (by kernel_rfl) (by kernel_rfl) (by kernel_rfl) (fun _ _ _ h => h) (Or.inl ⟨by kernel_rfl, by intro _ _; kernel_rfl⟩) q4 ?_
            go_simp
            refine wpAnyH_done (by kernel_rfl) ?_ _
            go_wp2_with fail
            go_ret
            exact ⟨rfl, q4.bel⟩
        · refine wp_region_held (S := OpsAt w v v' Y Z c c' cY cZ yb zb ax cx lx) hmo ?_
          change wpAnyH _ _ _ _ _ _ _ _ (World.drew W8)
          generalize World.drew W8 = X0 at *
          refine wpAnyH_take (i := 0) (v := .agg #[.int .i64 v.k, .string v.name, .string v.to, .slice v.ao v.an v.ac, .slice v.bo v.bn v.bc, .slice v.co v.cn v.cc, .int .i64 v.n]) rfl (by kernel_rfl) (by kernel_rfl) (by kernel_rfl) (fun _ _ _ h => h) (Or.inl ⟨by kernel_rfl, by rintro w2 h; obtain ⟨c0, c1, c2, c3, c4, c5, c6, -⟩ := box_all h.b0; obtain ⟨d0, d1, d2, d3, d4, d5, d6, -⟩ := box_all h.b1; obtain ⟨e0, e1, e2, e3, e4, e5, e6, -⟩ := box_all h.b2; obtain ⟨f0, f1, f2, f3, f4, f5, f6, -⟩ := box_all h.b3; go_simp⟩) s0 ?_
          go_simp
          refine wpAnyH_take (i := 2) (v := .bool m) rfl (by kernel_rfl) (by kernel_rfl) (by kernel_rfl) (fun _ _ _ h => h) (Or.inl ⟨by kernel_rfl, by intro _ _; kernel_rfl⟩) s0 ?_
          go_simp
          refine wpAnyH_all (rs := [1]) (by kernel_rfl) (by simp) (fun j hj => ?_)
          rw [List.mem_singleton] at hj
          subst hj
          refine wpOp_step rfl (fun K hK => ?_)
          go_simp
          have hc := (opC_all X0 v c s0.o0).may X0 s0.o0
          unfold OV.val at hc
          rw [HM.out] at hc
          refine hc.mono ?_
          rintro e X1 ⟨rfl, hb0⟩
          have s1 := s0.step hb0
          clear hc
          go_simp
          refine hK _ _ ⟨s1, ?_⟩
          clear hK K
          refine wpAnyH_take (i := 3) (v := .bool false) rfl (by kernel_rfl) (by kernel_rfl) (by kernel_rfl) (fun _ _ _ h => h) (Or.inl ⟨by kernel_rfl, by rintro w2 h; obtain ⟨c0, c1, c2, c3, c4, c5, c6, -⟩ := box_all h.b0; obtain ⟨d0, d1, d2, d3, d4, d5, d6, -⟩ := box_all h.b1; obtain ⟨e0, e1, e2, e3, e4, e5, e6, -⟩ := box_all h.b2; obtain ⟨f0, f1, f2, f3, f4, f5, f6, -⟩ := box_all h.b3; cases m <;> go_simp⟩) s1 ?_
          go_simp
          refine wpAnyH_take (i := 4) (v := .bool false) rfl (by kernel_rfl) (by kernel_rfl) (by kernel_rfl) (fun _ _ _ h => h) (Or.inl ⟨by kernel_rfl, by intro _ _; kernel_rfl⟩) s1 ?_
          go_simp
          refine wpAnyH_take (i := 5) (v := .agg #[.int .i64 v.k, .string v.name, .string v.to, .slice v.ao v.an v.ac, .slice v.bo v.bn v.bc, .slice v.co v.cn v.cc, .int .i64 v.n]) rfl (by kernel_rfl) (by kernel_rfl) (by kernel_rfl) (fun _ _ _ h => h) (Or.inl ⟨by kernel_rfl, by rintro w2 h; obtain ⟨c0, c1, c2, c3, c4, c5, c6, -⟩ := box_all h.b0; obtain ⟨d0, d1, d2, d3, d4, d5, d6, -⟩ := box_all h.b1; obtain ⟨e0, e1, e2, e3, e4, e5, e6, -⟩ := box_all h.b2; obtain ⟨f0, f1, f2, f3, f4, f5, f6, -⟩ := box_all h.b3; go_simp⟩) s1 ?_
          go_simp
          refine wpAnyH_take (i := 6) (v := .agg #[.int .i64 v'.k, .string v'.name, .string v'.to, .slice v'.ao v'.an v'.ac, .slice v'.bo v'.bn v'.bc, .slice v'.co v'.cn v'.cc, .int .i64 v'.n]) rfl (by kernel_rfl) (by kernel_rfl) (by kernel_rfl) (fun _ _ _ h => h) (Or.inl ⟨by kernel_rfl, by rintro w2 h; obtain ⟨c0, c1, c2, c3, c4, c5, c6, -⟩ := box_all h.b0; obtain ⟨d0, d1, d2, d3, d4, d5, d6, -⟩ := box_all h.b1; obtain ⟨e0, e1, e2, e3, e4, e5, e6, -⟩ := box_all h.b2; obtain ⟨f0, f1, f2, f3, f4, f5, f6, -⟩ := box_all h.b3; go_simp⟩) s1 ?_
          go_simp
          refine wpAnyH_take (i := 8) (v := .agg #[.int .i64 v.k, .string v.name, .string v.to, .slice v.ao v.an v.ac, .slice v.bo v.bn v.bc, .slice v.co v.cn v.cc, .int .i64 v.n]) rfl (by kernel_rfl) (by kernel_rfl) (by kernel_rfl) (fun _ _ _ h => h) (Or.inl ⟨by kernel_rfl, by rintro w2 h; obtain ⟨c0, c1, c2, c3, c4, c5, c6, -⟩ := box_all h.b0; obtain ⟨d0, d1, d2, d3, d4, d5, d6, -⟩ := box_all h.b1; obtain ⟨e0, e1, e2, e3, e4, e5, e6, -⟩ := box_all h.b2; obtain ⟨f0, f1, f2, f3, f4, f5, f6, -⟩ := box_all h.b3; go_simp⟩) s1 ?_
          go_simp
          refine wpAnyH_take (i := 9) (v := .agg #[.int .i64 v'.k, .string v'.name, .string v'.to, .slice v'.ao v'.an v'.ac, .slice v'.bo v'.bn v'.bc, .slice v'.co v'.cn v'.cc, .int .i64 v'.n]) rfl (by kernel_rfl) (by kernel_rfl) (by kernel_rfl) (fun _ _ _ h => h) (Or.inl ⟨by kernel_rfl, by rintro w2 h; obtain ⟨c0, c1, c2, c3, c4, c5, c6, -⟩ := box_all h.b0; obtain ⟨d0, d1, d2, d3, d4, d5, d6, -⟩ := box_all h.b1; obtain ⟨e0, e1, e2, e3, e4, e5, e6, -⟩ := box_all h.b2; obtain ⟨f0, f1, f2, f3, f4, f5, f6, -⟩ := box_all h.b3; go_simp⟩) s1 ?_
          go_simp
          refine wpAnyH_all (rs := [7]) (by kernel_rfl) (by simp) (fun j hj => ?_)
          rw [List.mem_singleton] at hj
          subst hj
          refine wpOp_step rfl (fun K hK => ?_)
          go_simp
          have hc := sameOp_any v v' c c' X1 s1.o0 s1.o1
          unfold OV.val at hc
          rw [HQ.out] at hc
          refine hc.mono ?_
          rintro e X2 ⟨rfl, hb1⟩
          have s2 := s1.step hb1
          clear hc
          go_simp
          refine hK _ _ ⟨s2, ?_⟩
          clear hK K
          refine wpAnyH_all (rs := [10]) (by kernel_rfl) (by simp) (fun j hj => ?_)
          rw [List.mem_singleton] at hj
          subst hj
          refine wpOp_step rfl (fun K hK => ?_)
          go_simp
          have hc := rSameOp_any v v' c c' X2 s2.o0 s2.o1
          unfold OV.val at hc
          rw [HQ.out] at hc
          refine hc.mono ?_
          rintro e X3 ⟨rfl, hb2⟩
          have s3 := s2.step hb2
          clear hc
          go_simp
          refine hK _ _ ⟨s3, ?_⟩
          clear hK K
          refine wpAnyH_take (i := 11) (v := .bool false) rfl (by kernel_rfl) (by kernel_rfl) (by kernel_rfl) (fun _ _ _ h => h) (Or.inl ⟨by kernel_rfl, by rintro w2 h; obtain ⟨c0, c1, c2, c3, c4, c5, c6, -⟩ := box_all h.b0; obtain ⟨d0, d1, d2, d3, d4, d5, d6, -⟩ := box_all h.b1; obtain ⟨e0, e1, e2, e3, e4, e5, e6, -⟩ := box_all h.b2; obtain ⟨f0, f1, f2, f3, f4, f5, f6, -⟩ := box_all h.b3; cases q <;> go_simp⟩) s3 ?_
          go_simp
          refine wpAnyH_take (i := 12) (v := .bool false) rfl (by kernel_rfl) (by kernel_rfl) (by kernel_rfl) (fun _ _ _ h => h) (Or.inl ⟨by kernel_rfl, by intro _ _; kernel_rfl⟩) s3 ?_
          go_simp
          refine wpAnyH_take (i := 13) (v := .bool false) rfl (by kernel_rfl) (by kernel_rfl) (by kernel_rfl) (fun _ _ _ h => h) (Or.inl ⟨by kernel_rfl, by intro _ _; kernel_rfl⟩) s3 ?_
          go_simp
          refine wpAnyH_take (i := 14) (v := .agg #[.int .i64 v.k, .string v.name, .string v.to, .slice v.ao v.an v.ac, .slice v.bo v.bn v.bc, .slice v.co v.cn v.cc, .int .i64 v.n]) rfl (by kernel_rfl) (by kernel_rfl) (by kernel_rfl) (fun _ _ _ h => h) (Or.inl ⟨by kernel_rfl, by rintro w2 h; obtain ⟨c0, c1, c2, c3, c4, c5, c6, -⟩ := box_all h.b0; obtain ⟨d0, d1, d2, d3, d4, d5, d6, -⟩ := box_all h.b1; obtain ⟨e0, e1, e2, e3, e4, e5, e6, -⟩ := box_all h.b2; obtain ⟨f0, f1, f2, f3, f4, f5, f6, -⟩ := box_all h.b3; go_simp⟩) s3 ?_
          go_simp
          refine wpAnyH_take (i := 15) (v := .agg #[.int .i64 v.k, .string v.name, .string v.to, .slice v.ao v.an v.ac, .slice v.bo v.bn v.bc, .slice v.co v.cn v.cc, .int .i64 v.n]) rfl (by kernel_rfl) (by kernel_rfl) (by kernel_rfl) (fun _ _ _ h => h) (Or.inl ⟨by kernel_rfl, by rintro w2 h; obtain ⟨c0, c1, c2, c3, c4, c5, c6, -⟩ := box_all h.b0; obtain ⟨d0, d1, d2, d3, d4, d5, d6, -⟩ := box_all h.b1; obtain ⟨e0, e1, e2, e3, e4, e5, e6, -⟩ := box_all h.b2; obtain ⟨f0, f1, f2, f3, f4, f5, f6, -⟩ := box_all h.b3; go_simp⟩) s3 ?_
          go_simp
          refine wpAnyH_all (rs := [16]) (by kernel_rfl) (by simp) (fun j hj => ?_)
          rw [List.mem_singleton] at hj
          subst hj
          refine wpOp_step rfl (fun K hK => ?_)
          go_simp
          have hc := sameOp_any v v c c X3 s3.o0 s3.o0
          unfold OV.val at hc
          rw [sameOp_refl] at hc
          refine hc.mono ?_
          rintro e X4 ⟨rfl, hb3⟩
          have s4 := s3.step hb3
          clear hc
          go_simp
          refine hK _ _ ⟨s4, ?_⟩
          clear hK K
          refine wpAnyH_take (i := 17) (v := .bool false) rfl (by kernel_rfl) (by kernel_rfl) (by kernel_rfl) (fun _ _ _ h => h) (Or.inl ⟨by kernel_rfl, by rintro w2 h; obtain ⟨c0, c1, c2, c3, c4, c5, c6, -⟩ := box_all h.b0; obtain ⟨d0, d1, d2, d3, d4, d5, d6, -⟩ := box_all h.b1; obtain ⟨e0, e1, e2, e3, e4, e5, e6, -⟩ := box_all h.b2; obtain ⟨f0, f1, f2, f3, f4, f5, f6, -⟩ := box_all h.b3; go_simp⟩) s4 ?_
          go_simp
          refine wpAnyH_take (i := 18) (v := .bool false) rfl (by kernel_rfl) (by kernel_rfl) (by kernel_rfl) (fun _ _ _ h => h) (Or.inl ⟨by kernel_rfl, by intro _ _; kernel_rfl⟩) s4 ?_
          go_simp
          refine wpAnyH_take (i := 19) (v := .bool false) rfl (by kernel_rfl) (by kernel_rfl) (by kernel_rfl) (fun _ _ _ h => h) (Or.inl ⟨by kernel_rfl, by intro _ _; kernel_rfl⟩) s4 ?_
          go_simp
          refine wpAnyH_take (i := 20) (v := .agg #[.int .i64 Y.k, .string Y.name, .string Y.to, .slice Y.ao Y.an Y.ac, .slice Y.bo Y.bn Y.bc, .slice Y.co Y.cn Y.cc, .int .i64 Y.n]) rfl (by kernel_rfl) (by kernel_rfl) (by kernel_rfl) (fun _ _ _ h => h) (Or.inl ⟨by kernel_rfl, by rintro w2 h; obtain ⟨c0, c1, c2, c3, c4, c5, c6, -⟩ := box_all h.b0; obtain ⟨d0, d1, d2, d3, d4, d5, d6, -⟩ := box_all h.b1; obtain ⟨e0, e1, e2, e3, e4, e5, e6, -⟩ := box_all h.b2; obtain ⟨f0, f1, f2, f3, f4, f5, f6, -⟩ := box_all h.b3; go_simp⟩) s4 ?_
          go_simp
          refine wpAnyH_take (i := 21) (v := .agg #[.int .i64 Z.k, .string Z.name, .string Z.to, .slice Z.ao Z.an Z.ac, .slice Z.bo Z.bn Z.bc, .slice Z.co Z.cn Z.cc, .int .i64 Z.n]) rfl (by kernel_rfl) (by kernel_rfl) (by kernel_rfl) (fun _ _ _ h => h) (Or.inl ⟨by kernel_rfl, by rintro w2 h; obtain ⟨c0, c1, c2, c3, c4, c5, c6, -⟩ := box_all h.b0; obtain ⟨d0, d1, d2, d3, d4, d5, d6, -⟩ := box_all h.b1; obtain ⟨e0, e1, e2, e3, e4, e5, e6, -⟩ := box_all h.b2; obtain ⟨f0, f1, f2, f3, f4, f5, f6, -⟩ := box_all h.b3; go_simp⟩) s4 ?_
          go_simp
          refine wpAnyH_all (rs := [22]) (by kernel_rfl) (by simp) (fun j hj => ?_)
          rw [List.mem_singleton] at hj
          subst hj
          refine wpOp_step rfl (fun K hK => ?_)
          go_simp
          have hc := rSameOp_any Y Z cY cZ X4 s4.o2 s4.o3
          unfold OV.val at hc
          rw [HS.out] at hc
          refine hc.mono ?_
          rintro e X5 ⟨rfl, hb4⟩
          have s5 := s4.step hb4
          clear hc
          go_simp
          refine hK _ _ ⟨s5, ?_⟩
          clear hK K
          refine wpAnyH_take (i := 23) (v := .bool false) rfl (by kernel_rfl) (by kernel_rfl) (by kernel_rfl) (fun _ _ _ h => h) (Or.inl ⟨by kernel_rfl, by rintro w2 h; obtain ⟨c0, c1, c2, c3, c4, c5, c6, -⟩ := box_all h.b0; obtain ⟨d0, d1, d2, d3, d4, d5, d6, -⟩ := box_all h.b1; obtain ⟨e0, e1, e2, e3, e4, e5, e6, -⟩ := box_all h.b2; obtain ⟨f0, f1, f2, f3, f4, f5, f6, -⟩ := box_all h.b3; go_simp⟩) s5 ?_
          go_simp
          refine wpAnyH_take (i := 24) (v := .bool false) rfl (by kernel_rfl) (by kernel_rfl) (by kernel_rfl) (fun _ _ _ h => h) (Or.inl ⟨by kernel_rfl, by intro _ _; kernel_rfl⟩) s5 ?_
          go_simp
          refine wpAnyH_take (i := 25) (v := .bool false) rfl (by kernel_rfl) (by kernel_rfl) (by kernel_rfl) (fun _ _ _ h => h) (Or.inl ⟨by kernel_rfl, by intro _ _; kernel_rfl⟩) s5 ?_
          go_simp
          refine wpAnyH_take (i := 26) (v := .int .i64 4) rfl (by kernel_rfl) (by kernel_rfl) (by kernel_rfl) (fun _ _ _ h => h) (Or.inl ⟨by kernel_rfl, by intro _ _; kernel_rfl⟩) s5 ?_
          go_simp
          refine wpAnyH_take (i := 29) (v := .bool false) rfl (by kernel_rfl) (by kernel_rfl) (by kernel_rfl) (fun _ _ _ h => h) (Or.inl ⟨by kernel_rfl, by intro _ _; kernel_rfl⟩) s5 ?_
          go_simp
          refine wpAnyH_all (rs := [27]) (by kernel_rfl) (by simp) (fun j hj => ?_)
          rw [List.mem_singleton] at hj
          subst hj
          refine wpOp_step rfl (fun K hK => ?_)
          go_simp
          refine (num_any 4 X5).mono ?_
          rintro e X6 ⟨rfl, hw5⟩
          have s6 : OpsAt w v v' Y Z c c' cY cZ yb zb ax cx lx X6 := by rw [← hw5]; exact s5
          clear hw5
          go_simp
          refine hK _ _ ⟨s6, ?_⟩
          clear hK K
          refine wpAnyH_take (i := 28) (v := .bool false) rfl (by kernel_rfl) (by kernel_rfl) (by kernel_rfl) (fun _ _ _ h => h) (Or.inl ⟨by kernel_rfl, by rintro w2 h; obtain ⟨c0, c1, c2, c3, c4, c5, c6, -⟩ := box_all h.b0; obtain ⟨d0, d1, d2, d3, d4, d5, d6, -⟩ := box_all h.b1; obtain ⟨e0, e1, e2, e3, e4, e5, e6, -⟩ := box_all h.b2; obtain ⟨f0, f1, f2, f3, f4, f5, f6, -⟩ := box_all h.b3; go_simp⟩) s6 ?_
          go_simp
          refine wpAnyH_take (i := 30) (v := .bool false) rfl (by kernel_rfl) (by kernel_rfl) (by kernel_rfl) (fun _ _ _ h => h) (Or.inl ⟨by kernel_rfl, by rintro w2 h; obtain ⟨c0, c1, c2, c3, c4, c5, c6, -⟩ := box_all h.b0; obtain ⟨d0, d1, d2, d3, d4, d5, d6, -⟩ := box_all h.b1; obtain ⟨e0, e1, e2, e3, e4, e5, e6, -⟩ := box_all h.b2; obtain ⟨f0, f1, f2, f3, f4, f5, f6, -⟩ := box_all h.b3; go_simp⟩) s6 ?_
          go_simp
          refine wpAnyH_take (i := 31) (v := .bool false) rfl (by kernel_rfl) (by kernel_rfl) (by kernel_rfl) (fun _ _ _ h => h) (Or.inl ⟨by kernel_rfl, by intro _ _; kernel_rfl⟩) s6 ?_
          go_simp
          refine wpAnyH_take (i := 32) (v := .bool false) rfl (by kernel_rfl) (by kernel_rfl) (by kernel_rfl) (fun _ _ _ h => h) (Or.inl ⟨by kernel_rfl, by intro _ _; kernel_rfl⟩) s6 ?_
          go_simp
          refine wpAnyH_take (i := 33) (v := .bool false) rfl (by kernel_rfl) (by kernel_rfl) (by kernel_rfl) (fun _ _ _ h => h) (Or.inl ⟨by kernel_rfl, by intro _ _; kernel_rfl⟩) s6 ?_
          go_simp
          refine wpAnyH_take (i := 34) (v := .bool true) rfl (by kernel_rfl) (by kernel_rfl) (by kernel_rfl) (fun _ _ _ h => h) (Or.inl ⟨by kernel_rfl, by rintro w2 h; obtain ⟨c0, c1, c2, c3, c4, c5, c6, -⟩ := box_all h.b0; obtain ⟨d0, d1, d2, d3, d4, d5, d6, -⟩ := box_all h.b1; obtain ⟨e0, e1, e2, e3, e4, e5, e6, -⟩ := box_all h.b2; obtain ⟨f0, f1, f2, f3, f4, f5, f6, -⟩ := box_all h.b3; go_simp⟩) s6 ?_
          go_simp
          refine wpAnyH_take (i := 35) (v := .bool true) rfl (by kernel_rfl) (by kernel_rfl) (by kernel_rfl) (fun _ _ _ h => h) (Or.inl ⟨by kernel_rfl, by intro _ _; kernel_rfl⟩) s6 ?_
          go_simp
          refine wpAnyH_take (i := 36) (v := .int .i64 4) rfl (by kernel_rfl) (by kernel_rfl) (by kernel_rfl) (fun _ _ _ h => h) (Or.inl ⟨by kernel_rfl, by intro _ _; kernel_rfl⟩) s6 ?_
          go_simp
          refine wpAnyH_all (rs := [37]) (by kernel_rfl) (by simp) (fun j hj => ?_)
          rw [List.mem_singleton] at hj
          subst hj
          refine wpOp_step rfl (fun K hK => ?_)
          go_simp
          refine (num_any 4 X6).mono ?_
          rintro e X7 ⟨rfl, hw6⟩
          have s7 : OpsAt w v v' Y Z c c' cY cZ yb zb ax cx lx X7 := by rw [← hw6]; exact s6
          clear hw6
          go_simp
          refine hK _ _ ⟨s7, ?_⟩
          clear hK K
          refine wpAnyH_take (i := 38) (v := .bool false) rfl (by kernel_rfl) (by kernel_rfl) (by kernel_rfl) (fun _ _ _ h => h) (Or.inl ⟨by kernel_rfl, by rintro w2 h; obtain ⟨c0, c1, c2, c3, c4, c5, c6, -⟩ := box_all h.b0; obtain ⟨d0, d1, d2, d3, d4, d5, d6, -⟩ := box_all h.b1; obtain ⟨e0, e1, e2, e3, e4, e5, e6, -⟩ := box_all h.b2; obtain ⟨f0, f1, f2, f3, f4, f5, f6, -⟩ := box_all h.b3; go_simp⟩) s7 ?_
          go_simp
          refine wpAnyH_take (i := 39) (v := .bool false) rfl (by kernel_rfl) (by kernel_rfl) (by kernel_rfl) (fun _ _ _ h => h) (Or.inl ⟨by kernel_rfl, by intro _ _; kernel_rfl⟩) s7 ?_
          go_simp
          refine wpAnyH_take (i := 40) (v := .bool false) rfl (by kernel_rfl) (by kernel_rfl) (by kernel_rfl) (fun _ _ _ h => h) (Or.inl ⟨by kernel_rfl, by intro _ _; kernel_rfl⟩) s7 ?_
          go_simp
          refine wpAnyH_done (by kernel_rfl) ?_ _
          have hX : Below w.heap.size w X7 := s7.bel
          cases m with
          | false =>
            obtain ⟨hl, hx⟩ := Hx2.out HM.out
            subst hl hx
            go_wp2_with fail
            refine (num_any 2 X7).mono ?_
            rintro e XA ⟨rfl, hwA⟩
            subst hwA
            go_wp2_with fail
            refine (known_any X7).mono ?_
            rintro e XB ⟨rfl, hbB⟩
            go_wp2_with fail
            go_ret
            exact ⟨rfl, hX.trans (hbB.mono hX.size)⟩
          | true =>
            obtain ⟨hl, hx⟩ := Hx1.out HM.out
            subst hl hx
            have q0 : OpsAt w v v' Y Z c c' cY cZ yb zb ax cx (opL v c) X7.drew := s7.step (Below.refl _ _).drew
            clear s0 s1 s2 s3 s4 s5 s6 s7
            go_upto_region 11 with fail
            refine wp_region_held (S := OpsAt w v v' Y Z c c' cY cZ yb zb ax cx (opL v c)) hmo ?_
            change wpAnyH _ _ _ _ _ _ _ _ (World.drew X7)
            generalize World.drew X7 = U0 at *
            refine wpAnyH_take (i := 0) (v := .slice ax (opL v c).length cx) rfl (by kernel_rfl) (by kernel_rfl) (by kernel_rfl) (fun _ _ _ h => h) (Or.inl ⟨by kernel_rfl, by intro _ _; kernel_rfl⟩) q0 ?_
            go_simp
            refine wpAnyH_take (i := 1) (v := .string ⟨(opL v c).toArray⟩) rfl (by kernel_rfl) (by kernel_rfl) (by kernel_rfl) (fun _ _ _ h => h) (Or.inl ⟨by kernel_rfl, by rintro w2 h; obtain ⟨c0, c1, c2, c3, c4, c5, c6, -⟩ := box_all h.b0; obtain ⟨d0, d1, d2, d3, d4, d5, d6, -⟩ := box_all h.b1; obtain ⟨e0, e1, e2, e3, e4, e5, e6, -⟩ := box_all h.b2; obtain ⟨f0, f1, f2, f3, f4, f5, f6, -⟩ := box_all h.b3; have hs := run_strD ax _ cx _ w2 h.rx; go_simp⟩) q0 ?_
            go_simp
            refine wpAnyH_take (i := 2) (v := .agg #[.int .i64 v.k, .string v.name, .string v.to, .slice v.ao v.an v.ac, .slice v.bo v.bn v.bc, .slice v.co v.cn v.cc, .int .i64 v.n]) rfl (by kernel_rfl) (by kernel_rfl) (by kernel_rfl) (fun _ _ _ h => h) (Or.inl ⟨by kernel_rfl, by rintro w2 h; obtain ⟨c0, c1, c2, c3, c4, c5, c6, -⟩ := box_all h.b0; obtain ⟨d0, d1, d2, d3, d4, d5, d6, -⟩ := box_all h.b1; obtain ⟨e0, e1, e2, e3, e4, e5, e6, -⟩ := box_all h.b2; obtain ⟨f0, f1, f2, f3, f4, f5, f6, -⟩ := box_all h.b3; go_simp⟩) q0 ?_
            go_simp
            refine wpAnyH_all (rs := [3]) (by kernel_rfl) (by simp) (fun j hj => ?_)
            rw [List.mem_singleton] at hj
            subst hj
            refine wpOp_step rfl (fun K hK => ?_)
            go_simp
            have hc := rOpBytes_any v c U0 q0.o0 HM.out
            unfold OV.val at hc
            refine hc.mono ?_
            rintro e U1 ⟨v3, rfl, hown3, hu0⟩
            have q1 := q0.step hu0
            obtain ⟨a3, c3, rfl, hrd3⟩ := Rd.of_own hown3
            clear hc hown3
            go_simp
            refine hK _ _ ⟨q1, ?_⟩
            clear hK K
            refine wpAnyH_all (rs := [4]) (by kernel_rfl) (by simp) (fun j hj => ?_)
            rw [List.mem_singleton] at hj
            subst hj
            refine wpOp_step rfl (fun K hK => ?_)
            have hs := run_strD a3 _ c3 _ U1 hrd3
            obtain ⟨U2, hU2⟩ : ∃ U, U1 = U := ⟨_, rfl⟩
            have q2 : OpsAt w v v' Y Z c c' cY cZ yb zb ax cx (opL v c) U2 := by rw [← hU2]; exact q1
            rw [hU2] at hs ⊢
            clear hU2
            go_simp
            refine hK _ _ ⟨q2, ?_⟩
            clear hK K
            refine wpAnyH_take (i := 5) (v := .bool true) rfl (by kernel_rfl) (by kernel_rfl) (by kernel_rfl) (fun _ _ _ h => h) (Or.inl ⟨by kernel_rfl, by rintro w2 h; obtain ⟨c0, c1, c2, c3, c4, c5, c6, -⟩ := box_all h.b0; obtain ⟨d0, d1, d2, d3, d4, d5, d6, -⟩ := box_all h.b1; obtain ⟨e0, e1, e2, e3, e4, e5, e6, -⟩ := box_all h.b2; obtain ⟨f0, f1, f2, f3, f4, f5, f6, -⟩ := box_all h.b3; have hq2 := tol_yes ⟨(opL v c).toArray⟩; go_simp⟩) q2 ?_
            go_simp
            refine wpAnyH_take (i := 6) (v := .bool true) rfl (by kernel_rfl) (by kernel_rfl) (by kernel_rfl) (fun _ _ _ h => h) (Or.inl ⟨by kernel_rfl, by intro _ _; kernel_rfl⟩) q2 ?_
            go_simp
            refine wpAnyH_take (i := 7) (v := .int .i64 0) rfl (by kernel_rfl) (by kernel_rfl) (by kernel_rfl) (fun _ _ _ h => h) (Or.inl ⟨by kernel_rfl, by intro _ _; kernel_rfl⟩) q2 ?_
            go_simp
            refine wpAnyH_all (rs := [8]) (by kernel_rfl) (by simp) (fun j hj => ?_)
            rw [List.mem_singleton] at hj
            subst hj
            refine wpOp_step rfl (fun K hK => ?_)
            go_simp
            refine (num_any 0 U2).mono ?_
            rintro e U3 ⟨rfl, hw2⟩
            have q3 : OpsAt w v v' Y Z c c' cY cZ yb zb ax cx (opL v c) U3 := by rw [← hw2]; exact q2
            clear hw2
            go_simp
            refine hK _ _ ⟨q3, ?_⟩
            clear hK K
            refine wpAnyH_take (i := 9) (v := .bool true) rfl (by kernel_rfl) (by kernel_rfl) (by kernel_rfl) (fun _ _ _ h => h) (Or.inl ⟨by kernel_rfl, by rintro w2 h; obtain ⟨c0, c1, c2, c3, c4, c5, c6, -⟩ := box_all h.b0; obtain ⟨d0, d1, d2, d3, d4, d5, d6, -⟩ := box_all h.b1; obtain ⟨e0, e1, e2, e3, e4, e5, e6, -⟩ := box_all h.b2; obtain ⟨f0, f1, f2, f3, f4, f5, f6, -⟩ := box_all h.b3; go_simp⟩) q3 ?_
            go_simp
            refine wpAnyH_take (i := 10) (v := .bool true) rfl (by kernel_rfl) (by kernel_rfl) (by kernel_rfl) (fun _ _ _ h => h) (Or.inl ⟨by kernel_rfl, by intro _ _; kernel_rfl⟩) q3 ?_
            go_simp
            refine wpAnyH_take (i := 11) (v := .bool true) rfl (by kernel_rfl) (by kernel_rfl) (by kernel_rfl) (fun _ _ _ h => h) (Or.inl ⟨by kernel_rfl, by intro _ _; kernel_rfl⟩) q3 ?_
            go_simp
            refine wpAnyH_all (rs := [12]) (by kernel_rfl) (by simp) (fun j hj => ?_)
            rw [List.mem_singleton] at hj
            subst hj
            refine wpOp_step rfl (fun K hK => ?_)
            go_simp
            refine (known_any U3).mono ?_
            rintro e U4 ⟨rfl, hu3⟩
            have q4 := q3.step hu3
            go_simp
            refine hK _ _ ⟨q4, ?_⟩
            clear hK K
            refine wpAnyH_take (i := 13) (v := .bool true) rfl (by kernel_rfl) (by kernel_rfl) (by kernel_rfl) (fun _ _ _ h => h) (Or.inl ⟨by kernel_rfl, by intro _ _; kernel_rfl⟩) q4 ?_
            go_simp
            refine wpAnyH_take (i := 14) (v := .bool true) rfl (by kernel_rfl) (by kernel_rfl) (by kernel_rfl) (fun _ _ _ h => h) (Or.inl ⟨by kernel_rfl, by intro _ _; kernel_rfl⟩) q4 ?_
            go_simp
            refine wpAnyH_done (by kernel_rfl) ?_ _
            go_wp2_with fail
            go_ret
            exact ⟨rfl, q4.bel⟩
end Go.Proofs.YtgeafnggodkpaaaGreat.Msg
