/-
  A part of the proof: what this text holds is told at each of its declarations.
-/
import Derived.Deep.Cut
import Derived.Test.YtgeafnggodkpaaaGreatZabw
import Derived.Test.YtgeafnggodkpaaaGreatZabj
import Derived.Test.YtgeafnggodkpaaaGreatZabx
namespace Go.Proofs.YtgeafnggodkpaaaGreat.Msg
open Go.RowKit Go.Lib Go.Proofs.YtgeafnggodkpaaaGreat.Mem Go.Proofs.YtgeafnggodkpaaaGreat.Tlv

/-- The four results, as the law goes on. -/
structure ResAt (w : World) (v v' Y Z : QV) (c c' cY cZ : QC) (yb zb : Nat) (ax : Option Addr) (cx : Nat) (lx : List UInt8) (aw : Option Addr) (cw : Nat) (lw : List UInt8) (W : World) : Prop where
  bel : Below w.heap.size w W
  b0 : W.heap[w.heap.size]? = some v.box
  b1 : W.heap[w.heap.size + 1]? = some v'.box
  b2 : W.heap[yb]? = some Y.box
  b3 : W.heap[zb]? = some Z.box
  o0 : QAt W v c
  o1 : QAt W v' c'
  o2 : QAt W Y cY
  o3 : QAt W Z cZ
  rx : Rd W 1 ax lx.length cx (byV lx)
  rw : Rd W 1 aw lw.length cw (byV lw)
theorem ResAt.step {w : World} {v v' Y Z : QV} {c c' cY cZ : QC} {yb zb : Nat} {ax : Option Addr} {cx : Nat} {lx : List UInt8} {aw : Option Addr} {cw : Nat} {lw : List UInt8} {W W' : World} (h : ResAt w v v' Y Z c c' cY cZ yb zb ax cx lx aw cw lw W) (hb : Below W.heap.size W W') : ResAt w v v' Y Z c c' cY cZ yb zb ax cx lx aw cw lw W' :=
  ⟨h.bel.trans (hb.mono h.bel.size), (hb.block _ (Array.getElem?_eq_some_iff.1 h.b0).1).trans h.b0, (hb.block _ (Array.getElem?_eq_some_iff.1 h.b1).1).trans h.b1, (hb.block _ (Array.getElem?_eq_some_iff.1 h.b2).1).trans h.b2, (hb.block _ (Array.getElem?_eq_some_iff.1 h.b3).1).trans h.b3, h.o0.later hb, h.o1.later hb, h.o2.later hb, h.o3.later hb, h.rx.later hb, h.rw.later hb⟩
/-- .. what is needed to its end. -/
structure ResEnd (w : World) (v : QV) (c : QC) (ax : Option Addr) (cx : Nat) (lx : List UInt8) (aw : Option Addr) (cw : Nat) (lw : List UInt8) (W : World) : Prop where
  bel : Below w.heap.size w W
  b0 : W.heap[w.heap.size]? = some v.box
  o0 : QAt W v c
  rx : Rd W 1 ax lx.length cx (byV lx)
  rw : Rd W 1 aw lw.length cw (byV lw)
theorem ResEnd.step {w : World} {v : QV} {c : QC} {ax : Option Addr} {cx : Nat} {lx : List UInt8} {aw : Option Addr} {cw : Nat} {lw : List UInt8} {W W' : World} (h : ResEnd w v c ax cx lx aw cw lw W) (hb : Below W.heap.size W W') : ResEnd w v c ax cx lx aw cw lw W' :=
  ⟨h.bel.trans (hb.mono h.bel.size), (hb.block _ (Array.getElem?_eq_some_iff.1 h.b0).1).trans h.b0, h.o0.later hb, h.rx.later hb, h.rw.later hb⟩
theorem ResAt.rest {w : World} {v v' Y Z : QV} {c c' cY cZ : QC} {yb zb : Nat} {ax : Option Addr} {cx : Nat} {lx : List UInt8} {aw : Option Addr} {cw : Nat} {lw : List UInt8} {W : World} (h : ResAt w v v' Y Z c c' cY cZ yb zb ax cx lx aw cw lw W) : ResEnd w v c ax cx lx aw cw lw W := ⟨h.bel, h.b0, h.o0, h.rx, h.rw⟩
theorem qAt_zero (W : World) : QAt W zeroQ ⟨[], []⟩ := ⟨⟨Rd.nil _ _, fun _ hp => absurd hp List.not_mem_nil⟩, Rd.nil _ _, Nat.zero_le _⟩
def AnsR (Y : QV) (cY : QC) (b : List UInt8) (yes no : Prop) : Prop := (yes ∧ mayRes Y cY = true ∧ resL Y cY = b) ∨ (no ∧ Y = zeroQ ∧ cY = ⟨[], []⟩ ∧ NoRes b)
theorem ansr_prog {T : World → QV → QC → Prop} {b : List UInt8} {w w' : World} {e : Ending} (h : GivesQo T (.int .i64 0) (.int .i64 4) b w e w') : ∃ (f : Int) (Y : QV) (cY : QC), e = .returned (.tuple #[Y.val, .int .i64 f]) ∧ QAt w' Y cY ∧ Below w.heap.size w w' ∧ AnsR Y cY b (f = 0) (f = 4) := by
  obtain ⟨hb, ⟨Y, cY, rfl, oY, -, mY, lY⟩ | ⟨rfl, n1⟩⟩ := h
  · exact ⟨0, Y, cY, rfl, oY, hb, .inl ⟨rfl, mY, lY⟩⟩
  · exact ⟨4, zeroQ, ⟨[], []⟩, rfl, qAt_zero _, hb, .inr ⟨rfl, rfl, rfl, n1⟩⟩
theorem ansr_ref {T : World → QV → QC → Prop} {b : List UInt8} {w w' : World} {e : Ending} (h : GivesQo T (.bool true) (.bool false) b w e w') : ∃ (ok : Bool) (Y : QV) (cY : QC), e = .returned (.tuple #[Y.val, .bool ok]) ∧ QAt w' Y cY ∧ Below w.heap.size w w' ∧ AnsR Y cY b (ok = true) (ok = false) := by
  obtain ⟨hb, ⟨Y, cY, rfl, oY, -, mY, lY⟩ | ⟨rfl, n1⟩⟩ := h
  · exact ⟨true, Y, cY, rfl, oY, hb, .inl ⟨rfl, mY, lY⟩⟩
  · exact ⟨false, zeroQ, ⟨[], []⟩, rfl, qAt_zero _, hb, .inr ⟨rfl, rfl, rfl, n1⟩⟩
theorem twor_ans {W1 W2 : World} {b : List UInt8} {f : Int} {ok : Bool} {Y Z : QV} {cY cZ : QC} (oY : QAt W1 Y cY) (oZ : QAt W2 Z cZ) (h1 : AnsR Y cY b (f = 0) (f = 4)) (h2 : AnsR Z cZ b (ok = true) (ok = false)) :
    sameRes Y cY Z cZ = true ∧ ((ok = true ∧ f = 0) ∨ (ok = false ∧ f = 4)) := by
  rcases h1 with ⟨rfl, mY, lY⟩ | ⟨rfl, rfl, rfl, n1⟩
  · rcases h2 with ⟨rfl, mZ, lZ⟩ | ⟨rfl, rfl, rfl, n2⟩
    · exact ⟨res_inj oY oZ mY mZ (lY.trans lZ.symm), .inl ⟨rfl, rfl⟩⟩
    · exact absurd lY (n2 _ _ _ oY mY)
  · rcases h2 with ⟨rfl, mZ, lZ⟩ | ⟨rfl, rfl, rfl, n2⟩
    · exact absurd lZ (n1 _ _ _ oZ mZ)
    · exact ⟨rfl, .inr ⟨rfl, rfl⟩⟩
/-- The result of one's own is being changed, its copy stays. -/
structure LpR (V : World) (M : Nat) (own q : QV) (c : QC) (ob cb : Nat) (W : World) : Prop where
  bel : Below V.heap.size V W
  bo : W.heap[ob]? = some own.box
  bc : W.heap[cb]? = some q.box
  oc : QAt W q c
  r1 : RowW 5 own.cn IsU8 V.heap.size M own.co W
  fr : FreshQ M q c.ents
theorem LpR.set {V W : World} {M ob cb b i : Nat} {own q : QV} {c : QC} {cs : Array Value} {t' : TypeId} {x : Value} (h : LpR V M own q c ob cb W) (hb : W.heap[b]? = some (.cells cs t' (0, 0))) (ht : t' ≠ 58) (h1 : V.heap.size ≤ b) (h2 : b < M) (hx : t' = 5 → IsU8 x) : LpR V M own q c ob cb (W.setCell ⟨b, i, none⟩ x) := by
  have e1 : ob ≠ b := fun e => by
    have := h.bo
    rw [e, hb] at this
    cases this
    exact ht rfl
  have e2 : cb ≠ b := fun e => by
    have := h.bc
    rw [e, hb] at this
    cases this
    exact ht rfl
  exact ⟨h.bel.setCell h1 x, at_other h.bo e1, at_other h.bc e2, h.oc.freshX h.fr ((BelX.refl W.heap.size [b] W).set b i x (.inl (by simp))) (Nat.le_refl _) (fun k hk => by rw [List.mem_singleton.1 hk]; exact h2), h.r1.set hb hx, h.fr⟩
theorem LpR.drew {V W : World} {M ob cb : Nat} {own q : QV} {c : QC} (h : LpR V M own q c ob cb W) : LpR V M own q c ob cb W.drew :=
  ⟨h.bel.drew, h.bo, h.bc, h.oc.later (Below.refl _ _).drew, h.r1, h.fr⟩

set_option maxRecDepth 100000 in
set_option maxHeartbeats 40000000 in
theorem messageResults_any (r r' : QV) (c c' : QC) (ao : Option Addr) (n cap : Nat) (b : List UInt8) (w : World) (ho : QRd w r c) (ho' : QRd w r' c') (hr : Rd w 1 ao n cap (byV b)) :
    Calls Tryz.prog 5 #[r.val, r'.val, .slice ao n cap] w (GivesB true w) := by
  have hmo : Tryz.prog.follows .mixedOrders = true := by kernel_rfl
  have hb0 : Below w.heap.size w ((w.alloc r.box).alloc r'.box) := below_two w _ _
  obtain ⟨k1, k2⟩ := two_boxes w r.box r'.box
  unfold QV.box QV.cells at hb0 k1 k2
  unfold QV.val QV.cells
  go_enter Tryz.func5, Tryz.ntmps5
  go_upto_region 1 with fail
  generalize hg : World.alloc _ _ = W0 at *
  have q1 : W0.heap[w.heap.size]? = some r.box := k1
  have q2 : W0.heap[w.heap.size + 1]? = some r'.box := k2
  clear hg k1 k2
  have hbig0 := wide_any r c W0 (ho.later hb0)
  unfold QV.val QV.cells at hbig0
  go_wp2_with (refine wpList_load_row (ty := 58) q1 rfl rfl rfl (by kernel_rfl) (by kernel_rfl) ?_; go_simp)
  refine hbig0.mono ?_
  rintro e W1 ⟨b1, rfl, hB1, hb1⟩
  have hb1' := hb0.trans (hb1.mono hb0.size)
  have HB1 := Lib.hid hB1
  clear hbig0 hB1
  cases b1 with
  | true =>
    go_wp2_with fail
    refine (known_any W1).mono ?_
    rintro e W2 ⟨rfl, hb2⟩
    go_wp2_with fail
    go_ret
    exact ⟨rfl, hb1'.trans (hb2.mono hb1'.size)⟩
  | false =>
    have q2' := (hb1.block _ (Array.getElem?_eq_some_iff.1 q2).1).trans q2
    have q1' := (hb1.block _ (Array.getElem?_eq_some_iff.1 q1).1).trans q1
    have hbig1 := wide_any r' c' W1 (ho'.later hb1')
    unfold QV.val QV.cells at hbig1
    go_wp2_with (refine wpList_load_row (ty := 58) q2' rfl rfl rfl (by kernel_rfl) (by kernel_rfl) ?_; go_simp)
    refine hbig1.mono ?_
    rintro e W2 ⟨b2, rfl, hB2, hb2⟩
    have hb2' := hb1'.trans (hb2.mono hb1'.size)
    have HB2 := Lib.hid hB2
    clear hbig1 hB2
    cases b2 with
    | true =>
      go_wp2_with fail
      refine (known_any W2).mono ?_
      rintro e W3 ⟨rfl, hb3⟩
      go_wp2_with fail
      go_ret
      exact ⟨rfl, hb2'.trans (hb3.mono hb2'.size)⟩
    | false =>
      by_cases hn : 20000 < n
      · have f0 : decide ((20000 : Int) < (n : Int)) = true := decide_eq_true (by omega)
        go_wp2_with fail
        refine (known_any W2).mono ?_
        rintro e W3 ⟨rfl, hb3⟩
        go_wp2_with fail
        go_ret
        exact ⟨rfl, hb2'.trans (hb3.mono hb2'.size)⟩
      · have f0 : decide ((20000 : Int) < (n : Int)) = false := decide_eq_false (by omega)
        have w0 := HB1.out (by first | rfl | trivial)
        have w1 := HB2.out (by first | rfl | trivial)
        have o0 := (w0.1.later hb1).later hb2
        have o1 := w1.1.later hb2
        have hen : r.en ≤ 8 := w0.2.1
        have hcn : r.cn ≤ 9000 := w0.2.2
        have hsh : ShortQ c := shortQ_of (by rw [o0.e.len]; omega)
        have HSh := Lib.hid hsh
        have HEn := Lib.hid (And.intro hen hcn)
        have p1 := (hb2.block _ (Array.getElem?_eq_some_iff.1 q1').1).trans q1'
        have p2 := (hb2.block _ (Array.getElem?_eq_some_iff.1 q2').1).trans q2'
        have Hn := Lib.hid hn
        clear HB1 HB2 hb1 hb2 hb1' q1 q2 q1' q2' hb0 hn w0 w1 hen hcn hsh
        have hOB := resBytesE_any r c W2 o0 HSh.out
        unfold QV.val QV.cells at hOB
        go_wp2_with (refine wpList_load_row (ty := 58) p1 rfl rfl rfl (by kernel_rfl) (by kernel_rfl) ?_; go_simp)
        refine hOB.mono ?_
        rintro e W3 ⟨lx, ax, cx, ex, rfl, hrx, hb3, -, hx1, hx2⟩
        have hb3' := hb2'.trans (hb3.mono hb2'.size)
        have o0' := o0.later hb3
        have o1' := o1.later hb3
        have p1' := (hb3.block _ (Array.getElem?_eq_some_iff.1 p1).1).trans p1
        have p2' := (hb3.block _ (Array.getElem?_eq_some_iff.1 p2).1).trans p2
        have Hx := Lib.hid (And.intro hx1 hx2)
        clear hOB o0 o1 p1 p2 hx1 hx2 hb3 f0 hb2'
        have hOW := rResBytes_any r c W3 o0' HSh.out
        unfold QV.val QV.cells at hOW
        go_wp2_with (refine wpList_load_row (ty := 58) p1' rfl rfl rfl (by kernel_rfl) (by kernel_rfl) ?_; go_simp)
        refine hOW.mono ?_
        rintro e V3 ⟨lw, aw, cw, m, rfl, hrw, hv3, hw1, hw2⟩
        have bv3 := hb3'.trans (hv3.mono hb3'.size)
        have o0v := o0'.later hv3
        have o1v := o1'.later hv3
        have p1v := (hv3.block _ (Array.getElem?_eq_some_iff.1 p1').1).trans p1'
        have p2v := (hv3.block _ (Array.getElem?_eq_some_iff.1 p2').1).trans p2'
        have hrxv := hrx.later hv3
        have hmm : mayRes r c = m := by
          cases hq : mayRes r c with
          | true => exact (hw1 hq).2.symm
          | false => exact (hw2 hq).1.symm
        have HM := Lib.hid hmm
        have Hw := Lib.hid (And.intro hw1 hw2)
        clear hOW o0' o1' p1' p2' hrx hv3 hb3' hw1 hw2 hmm
        go_wp2_with fail
        refine (resultOf_any b ao n cap V3 (hr.later bv3) (by have := Hn.out; omega)).mono ?_
        rintro e W4 hA
        obtain ⟨f, Y, cY, rfl, oY, hb4, hY⟩ := ansr_prog hA
        have HY := Lib.hid hY
        clear hA hY
        unfold QV.val QV.cells
        go_upto_region 6 with (refine wpList_store_new rfl rfl rfl rfl (by kernel_rfl) rfl (by kernel_rfl) ?_; go_simp)
        generalize hg : W4.alloc _ = W5
        have e5 : W4.alloc Y.box = W5 := hg
        have hb5 : Below W4.heap.size W4 W5 := by rw [← e5]; exact (Below.refl _ _).alloc (Nat.le_refl _) _
        have kY : W5.heap[W4.heap.size]? = some Y.box := by rw [← e5]; show (W4.heap.push _)[W4.heap.size]? = some _; exact Array.getElem?_push_size
        have hb35 : Below V3.heap.size V3 W5 := hb4.trans (hb5.mono hb4.size)
        have bel5 := bv3.trans (hb35.mono bv3.size)
        have o05 := o0v.later hb35
        have o15 := o1v.later hb35
        have p15 := (hb35.block _ (Array.getElem?_eq_some_iff.1 p1v).1).trans p1v
        have p25 := (hb35.block _ (Array.getElem?_eq_some_iff.1 p2v).1).trans p2v
        have hrx5 := hrxv.later hb35
        have hrw5 := hrw.later hb35
        have oY5 := oY.later hb5
        clear hg e5 hb35 hb4 hb5 bv3 o0v o1v p1v p2v hrxv hrw oY
        generalize W4.heap.size = yb at *
        have hBw : w.heap.size ≤ W5.heap.size := bel5.size
        have hty5 : TyB w.heap.size W5 ao cap := fun h0 a ha => .inl (hr.lt h0 a ha)
        go_wp2_with fail
        refine (rResultOf_any w.heap.size b ao n cap W5 (hr.later bel5) hBw hty5 (by have := Hn.out; omega)).mono ?_
        rintro e W6 hA
        obtain ⟨ok, Z, cZ, rfl, oZ, hb6, hZ⟩ := ansr_ref hA
        have HZ := Lib.hid hZ
        clear hA hZ
        unfold QV.val QV.cells
        go_upto_region 7 with (refine wpList_store_new rfl rfl rfl rfl (by kernel_rfl) rfl (by kernel_rfl) ?_; go_simp)
        generalize hg : W6.alloc _ = W7
        have e7 : W6.alloc Z.box = W7 := hg
        have hb7 : Below W6.heap.size W6 W7 := by rw [← e7]; exact (Below.refl _ _).alloc (Nat.le_refl _) _
        have kZ : W7.heap[W6.heap.size]? = some Z.box := by rw [← e7]; show (W6.heap.push _)[W6.heap.size]? = some _; exact Array.getElem?_push_size
        have hb57 : Below W5.heap.size W5 W7 := hb6.trans (hb7.mono hb6.size)
        have hS7 : ResAt w r r' Y Z c c' cY cZ yb W6.heap.size ax cx lx aw cw lw W7 := ⟨bel5.trans (hb57.mono bel5.size), (hb57.block _ (Array.getElem?_eq_some_iff.1 p15).1).trans p15, (hb57.block _ (Array.getElem?_eq_some_iff.1 p25).1).trans p25, (hb57.block _ (Array.getElem?_eq_some_iff.1 kY).1).trans kY, kZ, o05.later hb57, o15.later hb57, oY5.later hb57, oZ.later hb7, hrx5.later hb57, hrw5.later hb57⟩
        have HF := Lib.hid (twor_ans oY5 oZ HY.out HZ.out)
        clear hg e7 hb7 kZ hb57 kY bel5 o05 o15 p15 p25 hrx5 hrw5 oY5 oZ hb6 hBw hty5 HY HZ
        generalize W6.heap.size = zb at *
        obtain ⟨q, hq⟩ : ∃ q, sameRes r c r' c' = q := ⟨_, rfl⟩
        have HQ := Lib.hid hq
        obtain ⟨hsame, hfo⟩ := HF.out
        have HS := Lib.hid hsame
        clear hq hsame
        obtain ⟨HX1, HX2⟩ := Hx.out
        have Hx1 := Lib.hid HX1
        have Hx2 := Lib.hid HX2
        clear HX1 HX2 Hx HF
        have s0 : ResAt w r r' Y Z c c' cY cZ yb zb ax cx lx aw cw lw W7.drew := hS7.step (Below.refl _ _).drew
        clear hS7
        have Hfo := Lib.hid hfo
        clear hfo
        go_cut [84] from 18 (fun s84 w' => s84 = .bool false ∧ ResEnd w r c ax cx lx aw cw lw w')
        case first =>
          rcases Hfo.out with ⟨rfl, rfl⟩ | ⟨rfl, rfl⟩
          · refine wp_region_held (S := ResAt w r r' Y Z c c' cY cZ yb zb ax cx lx aw cw lw) hmo ?_
            change wpAnyH _ _ _ _ _ _ _ _ (World.drew W7)
            generalize World.drew W7 = X0 at *
            refine wpAnyH_take (i := 0) (v := .agg #[.int .i64 r.code, .bool r.yes, .slice r.eo r.en r.ec, .slice r.co r.cn r.cc]) rfl (by kernel_rfl) (by kernel_rfl) (by kernel_rfl) (fun _ _ _ h => h) (Or.inl ⟨by kernel_rfl, by rintro w2 h; obtain ⟨c0, c1, c2, c3, -⟩ := qbox_all h.b0; obtain ⟨d0, d1, d2, d3, -⟩ := qbox_all h.b1; obtain ⟨e0, e1, e2, e3, -⟩ := qbox_all h.b2; obtain ⟨f0, f1, f2, f3, -⟩ := qbox_all h.b3; go_simp⟩) s0 ?_
            go_simp
            refine wpAnyH_take (i := 2) (v := .bool m) rfl (by kernel_rfl) (by kernel_rfl) (by kernel_rfl) (fun _ _ _ h => h) (Or.inl ⟨by kernel_rfl, by intro _ _; kernel_rfl⟩) s0 ?_
            go_simp
            refine wpAnyH_all (rs := [1]) (by kernel_rfl) (by simp) (fun j hj => ?_)
            rw [List.mem_singleton] at hj
            subst hj
            refine wpOp_step rfl (fun K hK => ?_)
            go_simp
            have hc := mayRes_any r c X0 s0.o0 HSh.out
            unfold QV.val QV.cells at hc
            rw [HM.out] at hc
            refine hc.mono ?_
            rintro e X1 ⟨rfl, hb0⟩
            have s1 := s0.step hb0
            clear hc
            go_simp
            refine hK _ _ ⟨s1, ?_⟩
            clear hK K
            refine wpAnyH_take (i := 3) (v := .bool false) rfl (by kernel_rfl) (by kernel_rfl) (by kernel_rfl) (fun _ _ _ h => h) (Or.inl ⟨by kernel_rfl, by rintro w2 h; obtain ⟨c0, c1, c2, c3, -⟩ := qbox_all h.b0; obtain ⟨d0, d1, d2, d3, -⟩ := qbox_all h.b1; obtain ⟨e0, e1, e2, e3, -⟩ := qbox_all h.b2; obtain ⟨f0, f1, f2, f3, -⟩ := qbox_all h.b3; cases m <;> go_simp⟩) s1 ?_
            go_simp
            refine wpAnyH_take (i := 4) (v := .bool false) rfl (by kernel_rfl) (by kernel_rfl) (by kernel_rfl) (fun _ _ _ h => h) (Or.inl ⟨by kernel_rfl, by intro _ _; kernel_rfl⟩) s1 ?_
            go_simp
            refine wpAnyH_take (i := 5) (v := .agg #[.int .i64 r.code, .bool r.yes, .slice r.eo r.en r.ec, .slice r.co r.cn r.cc]) rfl (by kernel_rfl) (by kernel_rfl) (by kernel_rfl) (fun _ _ _ h => h) (Or.inl ⟨by kernel_rfl, by rintro w2 h; obtain ⟨c0, c1, c2, c3, -⟩ := qbox_all h.b0; obtain ⟨d0, d1, d2, d3, -⟩ := qbox_all h.b1; obtain ⟨e0, e1, e2, e3, -⟩ := qbox_all h.b2; obtain ⟨f0, f1, f2, f3, -⟩ := qbox_all h.b3; go_simp⟩) s1 ?_
            go_simp
            refine wpAnyH_take (i := 6) (v := .agg #[.int .i64 r'.code, .bool r'.yes, .slice r'.eo r'.en r'.ec, .slice r'.co r'.cn r'.cc]) rfl (by kernel_rfl) (by kernel_rfl) (by kernel_rfl) (fun _ _ _ h => h) (Or.inl ⟨by kernel_rfl, by rintro w2 h; obtain ⟨c0, c1, c2, c3, -⟩ := qbox_all h.b0; obtain ⟨d0, d1, d2, d3, -⟩ := qbox_all h.b1; obtain ⟨e0, e1, e2, e3, -⟩ := qbox_all h.b2; obtain ⟨f0, f1, f2, f3, -⟩ := qbox_all h.b3; go_simp⟩) s1 ?_
            go_simp
            refine wpAnyH_take (i := 8) (v := .agg #[.int .i64 r.code, .bool r.yes, .slice r.eo r.en r.ec, .slice r.co r.cn r.cc]) rfl (by kernel_rfl) (by kernel_rfl) (by kernel_rfl) (fun _ _ _ h => h) (Or.inl ⟨by kernel_rfl, by rintro w2 h; obtain ⟨c0, c1, c2, c3, -⟩ := qbox_all h.b0; obtain ⟨d0, d1, d2, d3, -⟩ := qbox_all h.b1; obtain ⟨e0, e1, e2, e3, -⟩ := qbox_all h.b2; obtain ⟨f0, f1, f2, f3, -⟩ := qbox_all h.b3; go_simp⟩) s1 ?_
            go_simp
            refine wpAnyH_take (i := 9) (v := .agg #[.int .i64 r'.code, .bool r'.yes, .slice r'.eo r'.en r'.ec, .slice r'.co r'.cn r'.cc]) rfl (by kernel_rfl) (by kernel_rfl) (by kernel_rfl) (fun _ _ _ h => h) (Or.inl ⟨by kernel_rfl, by rintro w2 h; obtain ⟨c0, c1, c2, c3, -⟩ := qbox_all h.b0; obtain ⟨d0, d1, d2, d3, -⟩ := qbox_all h.b1; obtain ⟨e0, e1, e2, e3, -⟩ := qbox_all h.b2; obtain ⟨f0, f1, f2, f3, -⟩ := qbox_all h.b3; go_simp⟩) s1 ?_
            go_simp
            refine wpAnyH_all (rs := [7]) (by kernel_rfl) (by simp) (fun j hj => ?_)
            rw [List.mem_singleton] at hj
            subst hj
            refine wpOp_step rfl (fun K hK => ?_)
            go_simp
            have hc := sameRes_any r r' c c' X1 s1.o0 s1.o1
            unfold QV.val QV.cells at hc
            rw [HQ.out] at hc
            refine hc.mono ?_
            rintro e X2 ⟨rfl, hb1⟩
            have s2 := s1.step hb1
            clear hc
            go_simp
            refine hK _ _ ⟨s2, ?_⟩
            clear hK K
            refine wpAnyH_all (rs := [10]) (by kernel_rfl) (by simp) (fun j hj => ?_)
            rw [List.mem_singleton] at hj
            subst hj
            refine wpOp_step rfl (fun K hK => ?_)
            go_simp
            have hc := rSameRes_any r r' c c' X2 s2.o0 s2.o1
            unfold QV.val QV.cells at hc
            rw [HQ.out] at hc
            refine hc.mono ?_
            rintro e X3 ⟨rfl, hb2⟩
            have s3 := s2.step hb2
            clear hc
            go_simp
            refine hK _ _ ⟨s3, ?_⟩
            clear hK K
            refine wpAnyH_take (i := 11) (v := .bool false) rfl (by kernel_rfl) (by kernel_rfl) (by kernel_rfl) (fun _ _ _ h => h) (Or.inl ⟨by kernel_rfl, by rintro w2 h; obtain ⟨c0, c1, c2, c3, -⟩ := qbox_all h.b0; obtain ⟨d0, d1, d2, d3, -⟩ := qbox_all h.b1; obtain ⟨e0, e1, e2, e3, -⟩ := qbox_all h.b2; obtain ⟨f0, f1, f2, f3, -⟩ := qbox_all h.b3; cases q <;> go_simp⟩) s3 ?_
            go_simp
            refine wpAnyH_take (i := 12) (v := .bool false) rfl (by kernel_rfl) (by kernel_rfl) (by kernel_rfl) (fun _ _ _ h => h) (Or.inl ⟨by kernel_rfl, by intro _ _; kernel_rfl⟩) s3 ?_
            go_simp
            refine wpAnyH_take (i := 13) (v := .bool false) rfl (by kernel_rfl) (by kernel_rfl) (by kernel_rfl) (fun _ _ _ h => h) (Or.inl ⟨by kernel_rfl, by intro _ _; kernel_rfl⟩) s3 ?_
            go_simp
            refine wpAnyH_take (i := 14) (v := .agg #[.int .i64 Y.code, .bool Y.yes, .slice Y.eo Y.en Y.ec, .slice Y.co Y.cn Y.cc]) rfl (by kernel_rfl) (by kernel_rfl) (by kernel_rfl) (fun _ _ _ h => h) (Or.inl ⟨by kernel_rfl, by rintro w2 h; obtain ⟨c0, c1, c2, c3, -⟩ := qbox_all h.b0; obtain ⟨d0, d1, d2, d3, -⟩ := qbox_all h.b1; obtain ⟨e0, e1, e2, e3, -⟩ := qbox_all h.b2; obtain ⟨f0, f1, f2, f3, -⟩ := qbox_all h.b3; go_simp⟩) s3 ?_
            go_simp
            refine wpAnyH_take (i := 15) (v := .agg #[.int .i64 Z.code, .bool Z.yes, .slice Z.eo Z.en Z.ec, .slice Z.co Z.cn Z.cc]) rfl (by kernel_rfl) (by kernel_rfl) (by kernel_rfl) (fun _ _ _ h => h) (Or.inl ⟨by kernel_rfl, by rintro w2 h; obtain ⟨c0, c1, c2, c3, -⟩ := qbox_all h.b0; obtain ⟨d0, d1, d2, d3, -⟩ := qbox_all h.b1; obtain ⟨e0, e1, e2, e3, -⟩ := qbox_all h.b2; obtain ⟨f0, f1, f2, f3, -⟩ := qbox_all h.b3; go_simp⟩) s3 ?_
            go_simp
            refine wpAnyH_all (rs := [16]) (by kernel_rfl) (by simp) (fun j hj => ?_)
            rw [List.mem_singleton] at hj
            subst hj
            refine wpOp_step rfl (fun K hK => ?_)
            go_simp
            have hc := rSameRes_any Y Z cY cZ X3 s3.o2 s3.o3
            unfold QV.val QV.cells at hc
            rw [HS.out] at hc
            refine hc.mono ?_
            rintro e X4 ⟨rfl, hb3⟩
            have s4 := s3.step hb3
            clear hc
            go_simp
            refine hK _ _ ⟨s4, ?_⟩
            clear hK K
            refine wpAnyH_take (i := 17) (v := .bool false) rfl (by kernel_rfl) (by kernel_rfl) (by kernel_rfl) (fun _ _ _ h => h) (Or.inl ⟨by kernel_rfl, by rintro w2 h; obtain ⟨c0, c1, c2, c3, -⟩ := qbox_all h.b0; obtain ⟨d0, d1, d2, d3, -⟩ := qbox_all h.b1; obtain ⟨e0, e1, e2, e3, -⟩ := qbox_all h.b2; obtain ⟨f0, f1, f2, f3, -⟩ := qbox_all h.b3; go_simp⟩) s4 ?_
            go_simp
            refine wpAnyH_take (i := 18) (v := .bool false) rfl (by kernel_rfl) (by kernel_rfl) (by kernel_rfl) (fun _ _ _ h => h) (Or.inl ⟨by kernel_rfl, by intro _ _; kernel_rfl⟩) s4 ?_
            go_simp
            refine wpAnyH_take (i := 19) (v := .bool false) rfl (by kernel_rfl) (by kernel_rfl) (by kernel_rfl) (fun _ _ _ h => h) (Or.inl ⟨by kernel_rfl, by intro _ _; kernel_rfl⟩) s4 ?_
            go_simp
            refine wpAnyH_take (i := 20) (v := .int .i64 0) rfl (by kernel_rfl) (by kernel_rfl) (by kernel_rfl) (fun _ _ _ h => h) (Or.inl ⟨by kernel_rfl, by intro _ _; kernel_rfl⟩) s4 ?_
            go_simp
            refine wpAnyH_take (i := 23) (v := .bool true) rfl (by kernel_rfl) (by kernel_rfl) (by kernel_rfl) (fun _ _ _ h => h) (Or.inl ⟨by kernel_rfl, by intro _ _; kernel_rfl⟩) s4 ?_
            go_simp
            refine wpAnyH_all (rs := [21]) (by kernel_rfl) (by simp) (fun j hj => ?_)
            rw [List.mem_singleton] at hj
            subst hj
            refine wpOp_step rfl (fun K hK => ?_)
            go_simp
            refine (num_any 0 X4).mono ?_
            rintro e X5 ⟨rfl, hw4⟩
            have s5 : ResAt w r r' Y Z c c' cY cZ yb zb ax cx lx aw cw lw X5 := by rw [← hw4]; exact s4
            clear hw4
            go_simp
            refine hK _ _ ⟨s5, ?_⟩
            clear hK K
            refine wpAnyH_take (i := 22) (v := .bool true) rfl (by kernel_rfl) (by kernel_rfl) (by kernel_rfl) (fun _ _ _ h => h) (Or.inl ⟨by kernel_rfl, by rintro w2 h; obtain ⟨c0, c1, c2, c3, -⟩ := qbox_all h.b0; obtain ⟨d0, d1, d2, d3, -⟩ := qbox_all h.b1; obtain ⟨e0, e1, e2, e3, -⟩ := qbox_all h.b2; obtain ⟨f0, f1, f2, f3, -⟩ := qbox_all h.b3; go_simp⟩) s5 ?_
            go_simp
            refine wpAnyH_take (i := 24) (v := .bool false) rfl (by kernel_rfl) (by kernel_rfl) (by kernel_rfl) (fun _ _ _ h => h) (Or.inl ⟨by kernel_rfl, by rintro w2 h; obtain ⟨c0, c1, c2, c3, -⟩ := qbox_all h.b0; obtain ⟨d0, d1, d2, d3, -⟩ := qbox_all h.b1; obtain ⟨e0, e1, e2, e3, -⟩ := qbox_all h.b2; obtain ⟨f0, f1, f2, f3, -⟩ := qbox_all h.b3; go_simp⟩) s5 ?_
            go_simp
            refine wpAnyH_take (i := 25) (v := .bool false) rfl (by kernel_rfl) (by kernel_rfl) (by kernel_rfl) (fun _ _ _ h => h) (Or.inl ⟨by kernel_rfl, by intro _ _; kernel_rfl⟩) s5 ?_
            go_simp
            refine wpAnyH_take (i := 26) (v := .bool false) rfl (by kernel_rfl) (by kernel_rfl) (by kernel_rfl) (fun _ _ _ h => h) (Or.inl ⟨by kernel_rfl, by intro _ _; kernel_rfl⟩) s5 ?_
            go_simp
            refine wpAnyH_take (i := 27) (v := .bool true) rfl (by kernel_rfl) (by kernel_rfl) (by kernel_rfl) (fun _ _ _ h => h) (Or.inl ⟨by kernel_rfl, by intro _ _; kernel_rfl⟩) s5 ?_
            go_simp
            refine wpAnyH_take (i := 28) (v := .bool false) rfl (by kernel_rfl) (by kernel_rfl) (by kernel_rfl) (fun _ _ _ h => h) (Or.inl ⟨by kernel_rfl, by rintro w2 h; obtain ⟨c0, c1, c2, c3, -⟩ := qbox_all h.b0; obtain ⟨d0, d1, d2, d3, -⟩ := qbox_all h.b1; obtain ⟨e0, e1, e2, e3, -⟩ := qbox_all h.b2; obtain ⟨f0, f1, f2, f3, -⟩ := qbox_all h.b3; go_simp⟩) s5 ?_
            go_simp
            refine wpAnyH_take (i := 29) (v := .bool false) rfl (by kernel_rfl) (by kernel_rfl) (by kernel_rfl) (fun _ _ _ h => h) (Or.inl ⟨by kernel_rfl, by intro _ _; kernel_rfl⟩) s5 ?_
            go_simp
            refine wpAnyH_take (i := 30) (v := undef) rfl (by kernel_rfl) (by kernel_rfl) (by kernel_rfl) (fun _ _ _ h => h) (Or.inr ⟨by kernel_rfl, rfl⟩) s5 ?_
            go_simp
            refine wpAnyH_take (i := 31) (v := undef) rfl (by kernel_rfl) (by kernel_rfl) (by kernel_rfl) (fun _ _ _ h => h) (Or.inr ⟨by kernel_rfl, rfl⟩) s5 ?_
            go_simp
            refine wpAnyH_take (i := 32) (v := undef) rfl (by kernel_rfl) (by kernel_rfl) (by kernel_rfl) (fun _ _ _ h => h) (Or.inr ⟨by kernel_rfl, rfl⟩) s5 ?_
            go_simp
            refine wpAnyH_take (i := 33) (v := .bool false) rfl (by kernel_rfl) (by kernel_rfl) (by kernel_rfl) (fun _ _ _ h => h) (Or.inl ⟨by kernel_rfl, by intro _ _; kernel_rfl⟩) s5 ?_
            go_simp
            refine wpAnyH_take (i := 34) (v := .bool false) rfl (by kernel_rfl) (by kernel_rfl) (by kernel_rfl) (fun _ _ _ h => h) (Or.inl ⟨by kernel_rfl, by intro _ _; kernel_rfl⟩) s5 ?_
            go_simp
            refine wpAnyH_done (by kernel_rfl) ?_ _
            go_wp2_with fail
            go_meet
            case rel => exact ⟨rfl, s5.rest⟩
          · refine wp_region_held (S := ResAt w r r' Y Z c c' cY cZ yb zb ax cx lx aw cw lw) hmo ?_
            change wpAnyH _ _ _ _ _ _ _ _ (World.drew W7)
            generalize World.drew W7 = X0 at *
            refine wpAnyH_take (i := 0) (v := .agg #[.int .i64 r.code, .bool r.yes, .slice r.eo r.en r.ec, .slice r.co r.cn r.cc]) rfl (by kernel_rfl) (by kernel_rfl) (by kernel_rfl) (fun _ _ _ h => h) (Or.inl ⟨by kernel_rfl, by rintro w2 h; obtain ⟨c0, c1, c2, c3, -⟩ := qbox_all h.b0; obtain ⟨d0, d1, d2, d3, -⟩ := qbox_all h.b1; obtain ⟨e0, e1, e2, e3, -⟩ := qbox_all h.b2; obtain ⟨f0, f1, f2, f3, -⟩ := qbox_all h.b3; go_simp⟩) s0 ?_
            go_simp
            refine wpAnyH_take (i := 2) (v := .bool m) rfl (by kernel_rfl) (by kernel_rfl) (by kernel_rfl) (fun _ _ _ h => h) (Or.inl ⟨by kernel_rfl, by intro _ _; kernel_rfl⟩) s0 ?_
            go_simp
            refine wpAnyH_all (rs := [1]) (by kernel_rfl) (by simp) (fun j hj => ?_)
            rw [List.mem_singleton] at hj
            subst hj
            refine wpOp_step rfl (fun K hK => ?_)
            go_simp
            have hc := mayRes_any r c X0 s0.o0 HSh.out
            unfold QV.val QV.cells at hc
            rw [HM.out] at hc
            refine hc.mono ?_
            rintro e X1 ⟨rfl, hb0⟩
            have s1 := s0.step hb0
            clear hc
            go_simp
            refine hK _ _ ⟨s1, ?_⟩
            clear hK K
            refine wpAnyH_take (i := 3) (v := .bool false) rfl (by kernel_rfl) (by kernel_rfl) (by kernel_rfl) (fun _ _ _ h => h) (Or.inl ⟨by kernel_rfl, by rintro w2 h; obtain ⟨c0, c1, c2, c3, -⟩ := qbox_all h.b0; obtain ⟨d0, d1, d2, d3, -⟩ := qbox_all h.b1; obtain ⟨e0, e1, e2, e3, -⟩ := qbox_all h.b2; obtain ⟨f0, f1, f2, f3, -⟩ := qbox_all h.b3; cases m <;> go_simp⟩) s1 ?_
            go_simp
            refine wpAnyH_take (i := 4) (v := .bool false) rfl (by kernel_rfl) (by kernel_rfl) (by kernel_rfl) (fun _ _ _ h => h) (Or.inl ⟨by kernel_rfl, by intro _ _; kernel_rfl⟩) s1 ?_
            go_simp
            refine wpAnyH_take (i := 5) (v := .agg #[.int .i64 r.code, .bool r.yes, .slice r.eo r.en r.ec, .slice r.co r.cn r.cc]) rfl (by kernel_rfl) (by kernel_rfl) (by kernel_rfl) (fun _ _ _ h => h) (Or.inl ⟨by kernel_rfl, by rintro w2 h; obtain ⟨c0, c1, c2, c3, -⟩ := qbox_all h.b0; obtain ⟨d0, d1, d2, d3, -⟩ := qbox_all h.b1; obtain ⟨e0, e1, e2, e3, -⟩ := qbox_all h.b2; obtain ⟨f0, f1, f2, f3, -⟩ := qbox_all h.b3; go_simp⟩) s1 ?_
            go_simp
            refine wpAnyH_take (i := 6) (v := .agg #[.int .i64 r'.code, .bool r'.yes, .slice r'.eo r'.en r'.ec, .slice r'.co r'.cn r'.cc]) rfl (by kernel_rfl) (by kernel_rfl) (by kernel_rfl) (fun _ _ _ h => h) (Or.inl ⟨by kernel_rfl, by rintro w2 h; obtain ⟨c0, c1, c2, c3, -⟩ := qbox_all h.b0; obtain ⟨d0, d1, d2, d3, -⟩ := qbox_all h.b1; obtain ⟨e0, e1, e2, e3, -⟩ := qbox_all h.b2; obtain ⟨f0, f1, f2, f3, -⟩ := qbox_all h.b3; go_simp⟩) s1 ?_
            go_simp
            refine wpAnyH_take (i := 8) (v := .agg #[.int .i64 r.code, .bool r.yes, .slice r.eo r.en r.ec, .slice r.co r.cn r.cc]) rfl (by kernel_rfl) (by kernel_rfl) (by kernel_rfl) (fun _ _ _ h => h) (Or.inl ⟨by kernel_rfl, by rintro w2 h; obtain ⟨c0, c1, c2, c3, -⟩ := qbox_all h.b0; obtain ⟨d0, d1, d2, d3, -⟩ := qbox_all h.b1; obtain ⟨e0, e1, e2, e3, -⟩ := qbox_all h.b2; obtain ⟨f0, f1, f2, f3, -⟩ := qbox_all h.b3; go_simp⟩) s1 ?_
            go_simp
            refine wpAnyH_take (i := 9) (v := .agg #[.int .i64 r'.code, .bool r'.yes, .slice r'.eo r'.en r'.ec, .slice r'.co r'.cn r'.cc]) rfl (by kernel_rfl) (by kernel_rfl) (by kernel_rfl) (fun _ _ _ h => h) (Or.inl ⟨by kernel_rfl, by rintro w2 h; obtain ⟨c0, c1, c2, c3, -⟩ := qbox_all h.b0; obtain ⟨d0, d1, d2, d3, -⟩ := qbox_all h.b1; obtain ⟨e0, e1, e2, e3, -⟩ := qbox_all h.b2; obtain ⟨f0, f1, f2, f3, -⟩ := qbox_all h.b3; go_simp⟩) s1 ?_
            go_simp
            refine wpAnyH_all (rs := [7]) (by kernel_rfl) (by simp) (fun j hj => ?_)
            rw [List.mem_singleton] at hj
            subst hj
            refine wpOp_step rfl (fun K hK => ?_)
            go_simp
            have hc := sameRes_any r r' c c' X1 s1.o0 s1.o1
            unfold QV.val QV.cells at hc
            rw [HQ.out] at hc
            refine hc.mono ?_
            rintro e X2 ⟨rfl, hb1⟩
            have s2 := s1.step hb1
            clear hc
            go_simp
            refine hK _ _ ⟨s2, ?_⟩
            clear hK K
            refine wpAnyH_all (rs := [10]) (by kernel_rfl) (by simp) (fun j hj => ?_)
            rw [List.mem_singleton] at hj
            subst hj
            refine wpOp_step rfl (fun K hK => ?_)
            go_simp
            have hc := rSameRes_any r r' c c' X2 s2.o0 s2.o1
            unfold QV.val QV.cells at hc
            rw [HQ.out] at hc
            refine hc.mono ?_
            rintro e X3 ⟨rfl, hb2⟩
            have s3 := s2.step hb2
            clear hc
            go_simp
            refine hK _ _ ⟨s3, ?_⟩
            clear hK K
            refine wpAnyH_take (i := 11) (v := .bool false) rfl (by kernel_rfl) (by kernel_rfl) (by kernel_rfl) (fun _ _ _ h => h) (Or.inl ⟨by kernel_rfl, by rintro w2 h; obtain ⟨c0, c1, c2, c3, -⟩ := qbox_all h.b0; obtain ⟨d0, d1, d2, d3, -⟩ := qbox_all h.b1; obtain ⟨e0, e1, e2, e3, -⟩ := qbox_all h.b2; obtain ⟨f0, f1, f2, f3, -⟩ := qbox_all h.b3; cases q <;> go_simp⟩) s3 ?_
            go_simp
            refine wpAnyH_take (i := 12) (v := .bool false) rfl (by kernel_rfl) (by kernel_rfl) (by kernel_rfl) (fun _ _ _ h => h) (Or.inl ⟨by kernel_rfl, by intro _ _; kernel_rfl⟩) s3 ?_
            go_simp
            refine wpAnyH_take (i := 13) (v := .bool false) rfl (by kernel_rfl) (by kernel_rfl) (by kernel_rfl) (fun _ _ _ h => h) (Or.inl ⟨by kernel_rfl, by intro _ _; kernel_rfl⟩) s3 ?_
            go_simp
            refine wpAnyH_take (i := 14) (v := .agg #[.int .i64 Y.code, .bool Y.yes, .slice Y.eo Y.en Y.ec, .slice Y.co Y.cn Y.cc]) rfl (by kernel_rfl) (by kernel_rfl) (by kernel_rfl) (fun _ _ _ h => h) (Or.inl ⟨by kernel_rfl, by rintro w2 h; obtain ⟨c0, c1, c2, c3, -⟩ := qbox_all h.b0; obtain ⟨d0, d1, d2, d3, -⟩ := qbox_all h.b1; obtain ⟨e0, e1, e2, e3, -⟩ := qbox_all h.b2; obtain ⟨f0, f1, f2, f3, -⟩ := qbox_all h.b3; go_simp⟩) s3 ?_
            go_simp
            refine wpAnyH_take (i := 15) (v := .agg #[.int .i64 Z.code, .bool Z.yes, .slice Z.eo Z.en Z.ec, .slice Z.co Z.cn Z.cc]) rfl (by kernel_rfl) (by kernel_rfl) (by kernel_rfl) (fun _ _ _ h => h) (Or.inl ⟨by kernel_rfl, by rintro w2 h; obtain ⟨c0, c1, c2, c3, -⟩ := qbox_all h.b0; obtain ⟨d0, d1, d2, d3, -⟩ := qbox_all h.b1; obtain ⟨e0, e1, e2, e3, -⟩ := qbox_all h.b2; obtain ⟨f0, f1, f2, f3, -⟩ := qbox_all h.b3; go_simp⟩) s3 ?_
            go_simp
            refine wpAnyH_all (rs := [16]) (by kernel_rfl) (by simp) (fun j hj => ?_)
            rw [List.mem_singleton] at hj
            subst hj
            refine wpOp_step rfl (fun K hK => ?_)
            go_simp
            have hc := rSameRes_any Y Z cY cZ X3 s3.o2 s3.o3
            unfold QV.val QV.cells at hc
            rw [HS.out] at hc
            refine hc.mono ?_
            rintro e X4 ⟨rfl, hb3⟩
            have s4 := s3.step hb3
            clear hc
            go_simp
            refine hK _ _ ⟨s4, ?_⟩
            clear hK K
            refine wpAnyH_take (i := 17) (v := .bool false) rfl (by kernel_rfl) (by kernel_rfl) (by kernel_rfl) (fun _ _ _ h => h) (Or.inl ⟨by kernel_rfl, by rintro w2 h; obtain ⟨c0, c1, c2, c3, -⟩ := qbox_all h.b0; obtain ⟨d0, d1, d2, d3, -⟩ := qbox_all h.b1; obtain ⟨e0, e1, e2, e3, -⟩ := qbox_all h.b2; obtain ⟨f0, f1, f2, f3, -⟩ := qbox_all h.b3; go_simp⟩) s4 ?_
            go_simp
            refine wpAnyH_take (i := 18) (v := .bool false) rfl (by kernel_rfl) (by kernel_rfl) (by kernel_rfl) (fun _ _ _ h => h) (Or.inl ⟨by kernel_rfl, by intro _ _; kernel_rfl⟩) s4 ?_
            go_simp
            refine wpAnyH_take (i := 19) (v := .bool false) rfl (by kernel_rfl) (by kernel_rfl) (by kernel_rfl) (fun _ _ _ h => h) (Or.inl ⟨by kernel_rfl, by intro _ _; kernel_rfl⟩) s4 ?_
            go_simp
            refine wpAnyH_take (i := 20) (v := .int .i64 4) rfl (by kernel_rfl) (by kernel_rfl) (by kernel_rfl) (fun _ _ _ h => h) (Or.inl ⟨by kernel_rfl, by intro _ _; kernel_rfl⟩) s4 ?_
            go_simp
            refine wpAnyH_take (i := 23) (v := .bool false) rfl (by kernel_rfl) (by kernel_rfl) (by kernel_rfl) (fun _ _ _ h => h) (Or.inl ⟨by kernel_rfl, by intro _ _; kernel_rfl⟩) s4 ?_
            go_simp
            refine wpAnyH_all (rs := [21]) (by kernel_rfl) (by simp) (fun j hj => ?_)
            rw [List.mem_singleton] at hj
            subst hj
            refine wpOp_step rfl (fun K hK => ?_)
            go_simp
            refine (num_any 4 X4).mono ?_
            rintro e X5 ⟨rfl, hw4⟩
            have s5 : ResAt w r r' Y Z c c' cY cZ yb zb ax cx lx aw cw lw X5 := by rw [← hw4]; exact s4
            clear hw4
            go_simp
            refine hK _ _ ⟨s5, ?_⟩
            clear hK K
            refine wpAnyH_take (i := 22) (v := .bool false) rfl (by kernel_rfl) (by kernel_rfl) (by kernel_rfl) (fun _ _ _ h => h) (Or.inl ⟨by kernel_rfl, by rintro w2 h; obtain ⟨c0, c1, c2, c3, -⟩ := qbox_all h.b0; obtain ⟨d0, d1, d2, d3, -⟩ := qbox_all h.b1; obtain ⟨e0, e1, e2, e3, -⟩ := qbox_all h.b2; obtain ⟨f0, f1, f2, f3, -⟩ := qbox_all h.b3; go_simp⟩) s5 ?_
            go_simp
            refine wpAnyH_take (i := 24) (v := .bool false) rfl (by kernel_rfl) (by kernel_rfl) (by kernel_rfl) (fun _ _ _ h => h) (Or.inl ⟨by kernel_rfl, by rintro w2 h; obtain ⟨c0, c1, c2, c3, -⟩ := qbox_all h.b0; obtain ⟨d0, d1, d2, d3, -⟩ := qbox_all h.b1; obtain ⟨e0, e1, e2, e3, -⟩ := qbox_all h.b2; obtain ⟨f0, f1, f2, f3, -⟩ := qbox_all h.b3; go_simp⟩) s5 ?_
            go_simp
            refine wpAnyH_take (i := 25) (v := .bool false) rfl (by kernel_rfl) (by kernel_rfl) (by kernel_rfl) (fun _ _ _ h => h) (Or.inl ⟨by kernel_rfl, by intro _ _; kernel_rfl⟩) s5 ?_
            go_simp
            refine wpAnyH_take (i := 26) (v := .bool false) rfl (by kernel_rfl) (by kernel_rfl) (by kernel_rfl) (fun _ _ _ h => h) (Or.inl ⟨by kernel_rfl, by intro _ _; kernel_rfl⟩) s5 ?_
            go_simp
            refine wpAnyH_take (i := 27) (v := .bool false) rfl (by kernel_rfl) (by kernel_rfl) (by kernel_rfl) (fun _ _ _ h => h) (Or.inl ⟨by kernel_rfl, by intro _ _; kernel_rfl⟩) s5 ?_
            go_simp
            refine wpAnyH_take (i := 28) (v := .bool true) rfl (by kernel_rfl) (by kernel_rfl) (by kernel_rfl) (fun _ _ _ h => h) (Or.inl ⟨by kernel_rfl, by rintro w2 h; obtain ⟨c0, c1, c2, c3, -⟩ := qbox_all h.b0; obtain ⟨d0, d1, d2, d3, -⟩ := qbox_all h.b1; obtain ⟨e0, e1, e2, e3, -⟩ := qbox_all h.b2; obtain ⟨f0, f1, f2, f3, -⟩ := qbox_all h.b3; go_simp⟩) s5 ?_
            go_simp
            refine wpAnyH_take (i := 29) (v := .bool true) rfl (by kernel_rfl) (by kernel_rfl) (by kernel_rfl) (fun _ _ _ h => h) (Or.inl ⟨by kernel_rfl, by intro _ _; kernel_rfl⟩) s5 ?_
            go_simp
            refine wpAnyH_take (i := 30) (v := .int .i64 4) rfl (by kernel_rfl) (by kernel_rfl) (by kernel_rfl) (fun _ _ _ h => h) (Or.inl ⟨by kernel_rfl, by intro _ _; kernel_rfl⟩) s5 ?_
            go_simp
            refine wpAnyH_all (rs := [31]) (by kernel_rfl) (by simp) (fun j hj => ?_)
            rw [List.mem_singleton] at hj
            subst hj
            refine wpOp_step rfl (fun K hK => ?_)
            go_simp
            refine (num_any 4 X5).mono ?_
            rintro e X6 ⟨rfl, hw5⟩
            have s6 : ResAt w r r' Y Z c c' cY cZ yb zb ax cx lx aw cw lw X6 := by rw [← hw5]; exact s5
            clear hw5
            go_simp
            refine hK _ _ ⟨s6, ?_⟩
            clear hK K
            refine wpAnyH_take (i := 32) (v := .bool false) rfl (by kernel_rfl) (by kernel_rfl) (by kernel_rfl) (fun _ _ _ h => h) (Or.inl ⟨by kernel_rfl, by rintro w2 h; obtain ⟨c0, c1, c2, c3, -⟩ := qbox_all h.b0; obtain ⟨d0, d1, d2, d3, -⟩ := qbox_all h.b1; obtain ⟨e0, e1, e2, e3, -⟩ := qbox_all h.b2; obtain ⟨f0, f1, f2, f3, -⟩ := qbox_all h.b3; go_simp⟩) s6 ?_
            go_simp
            refine wpAnyH_take (i := 33) (v := .bool false) rfl (by kernel_rfl) (by kernel_rfl) (by kernel_rfl) (fun _ _ _ h => h) (Or.inl ⟨by kernel_rfl, by intro _ _; kernel_rfl⟩) s6 ?_
            go_simp
            refine wpAnyH_take (i := 34) (v := .bool false) rfl (by kernel_rfl) (by kernel_rfl) (by kernel_rfl) (fun _ _ _ h => h) (Or.inl ⟨by kernel_rfl, by intro _ _; kernel_rfl⟩) s6 ?_
            go_simp
            refine wpAnyH_done (by kernel_rfl) ?_ _
            go_wp2_with fail
            go_meet
            case rel => exact ⟨rfl, s6.rest⟩
        case rest =>
          obtain ⟨rfl, V0⟩ := hcut
          clear s0 HS HQ Hfo hr
          have b0 := V0.b0
          generalize wc = V at *
          go_upto_region 10 with (first | (refine wpList_load_row (ty := 58) b0 rfl rfl rfl (by kernel_rfl) (by kernel_rfl) ?_; go_simp) | (refine wpList_store_new rfl rfl rfl rfl (by kernel_rfl) rfl (by kernel_rfl) ?_; go_simp))
          generalize hg : V.alloc _ = W1
          have e1 : V.alloc r.box = W1 := hg
          have hb1 : Below V.heap.size V W1 := by rw [← e1]; exact (Below.refl _ _).alloc (Nat.le_refl _) _
          have k1 : W1.heap[V.heap.size]? = some r.box := by rw [← e1]; show (V.heap.push _)[V.heap.size]? = some _; exact Array.getElem?_push_size
          have V1 := V0.step hb1
          clear hg e1 b0
          obtain ⟨c0, c1, c2, c3, -⟩ := qbox_all V1.b0
          obtain ⟨d0, d1, d2, d3, d4⟩ := qbox_all k1
          have l1 := V1.o0.lc
          go_upto_region 11 with (at_builtin; refine wpList_app _ rfl _ (.tmp 87) 25 rfl W1.heap.size 5 (.int .u8 0) 1 1 sliceT_byt (.slice none 0 0) 0 [] rfl (World.ownsRow_nil _ _ _ _) r.co r.cn r.cc (byV c.cursor) rfl V1.o0.c (byV_one _) (by unfold maxLen; omega) (by omega) (Nat.le_refl _) ?_; intro a1 x1 W2 own1 _ hb2 _; rw [Nat.zero_add, List.nil_append] at own1; rw [Nat.zero_add]; have k2 := (hb2.block _ (Array.getElem?_eq_some_iff.1 k1).1).trans k1; clear d0 d1 d2 d3 d4; obtain ⟨d0, d1, d2, d3, d4⟩ := qbox_all k2)
          have k3 : (W2.setCell ⟨V.heap.size, 3, none⟩ (.slice a1 r.cn x1)).heap[V.heap.size]? = some (QV.box ⟨r.code, r.yes, r.eo, r.en, r.ec, a1, r.cn, x1⟩) := (at_set k2).trans (by kernel_rfl)
          have own1' := own_box (i := 3) (x := .slice a1 r.cn x1) own1 k2 (by decide)
          have B3 : Below V.heap.size V (W2.setCell ⟨V.heap.size, 3, none⟩ (.slice a1 r.cn x1)) := (hb1.trans (hb2.mono hb1.size)).setCell (p := ⟨V.heap.size, 3, none⟩) (Nat.le_refl _) _
          have z1 := hb1.size
          generalize W2.setCell _ _ = W3 at *
          have V3 := V0.step B3
          clear own1 k2 hb2 V1 k1 hb1 c0 c1 c2 c3 d0 d1 d2 d3 d4
          have oO : QAt W3 ⟨r.code, r.yes, r.eo, r.en, r.ec, a1, r.cn, x1⟩ c := ⟨V3.o0.e, Rd.of_own_slice own1', l1⟩
          have R1 : RowW 5 r.cn IsU8 V.heap.size W3.heap.size a1 W3 := RowW.of_own own1' (Nat.mul_one _) z1 (fun x hx => by
            simp only [byV, List.mem_map] at hx
            obtain ⟨y, _, rfl⟩ := hx
            exact ⟨_, rfl⟩)
          clear own1' z1
          obtain ⟨own, hown⟩ : ∃ o : QV, (⟨r.code, r.yes, r.eo, r.en, r.ec, a1, r.cn, x1⟩ : QV) = o := ⟨_, rfl⟩
          rw [hown] at k3 oO
          have hcp := copyRes_any own c W3 oO (by have := HEn.out.1; rw [← hown]; dsimp only; omega)
          unfold QV.val QV.cells at hcp
          go_wp2_with (refine wpList_load_row (ty := 58) k3 rfl rfl rfl (by kernel_rfl) (by kernel_rfl) ?_; go_simp)
          refine hcp.mono ?_
          rintro e W8 ⟨Q, lq, rfl, oQ, hsq, -, -, fQ, hb8⟩
          unfold QV.val QV.cells
          go_upto_region 12 with (refine wpList_store_new rfl rfl rfl rfl (by kernel_rfl) rfl (by kernel_rfl) ?_; go_simp)
          generalize hg : W8.alloc _ = W9
          have e9 : W8.alloc Q.box = W9 := hg
          have hb9 : Below W8.heap.size W8 W9 := by rw [← e9]; exact (Below.refl _ _).alloc (Nat.le_refl _) _
          have k9 : W9.heap[W8.heap.size]? = some Q.box := by rw [← e9]; show (W8.heap.push _)[W8.heap.size]? = some _; exact Array.getElem?_push_size
          have hb79 := hb8.trans (hb9.mono hb8.size)
          have hL : LpR V W3.heap.size own Q ⟨lq, c.cursor⟩ V.heap.size W8.heap.size W9 :=
            ⟨B3.trans (hb79.mono B3.size), (hb79.block _ (Array.getElem?_eq_some_iff.1 k3).1).trans k3, k9, oQ.later hb9, by rw [← hown]; exact R1.later hb79, fQ⟩
          have HQ : Hid (sameRes Q ⟨lq, c.cursor⟩ r c = true) := Lib.hid (by rw [← hown] at hsq; exact hsq)
          have lc : own.cn ≤ 1000000000 := by rw [← hown]; exact l1
          clear hg e9 hb9 k9 hb79 R1 hown k3 oO oQ hsq fQ hb8 B3 hcp l1 V3
          generalize W3.heap.size = M at *
          generalize W8.heap.size = cb at *
          go_wp2_with fail
          go_loopw [17] (fun p wr => ∃ i : Nat, i ≤ own.cn ∧ p = .int .i64 (i : Int) ∧ LpR V M own Q ⟨lq, c.cursor⟩ V.heap.size cb wr) (fun p _ => own.cn - (intOf p).toNat)
          case atStart => exact ⟨0, Nat.zero_le _, rfl, hL⟩
          case round =>
            obtain ⟨i, hi, rfl, L⟩ := hrel
            clear hL
            by_cases hin : i < own.cn
            · have D := L.drew
              obtain ⟨d0, d1, d2, d3, d4⟩ := qbox_all L.bo
              obtain ⟨f0, f1, f2, f3, f4⟩ := qbox_all D.bo
              obtain ⟨g, cur, hao, hlo, hhi, hg, hcs⟩ := D.r1 (by omega)
              obtain ⟨x, hx, z, rfl⟩ := hcs i hin
              rw [hao] at d3 f3
              have i0 : (0 : Int) ≤ (i : Int) := by omega
              have i1 : (i : Int) < (own.cn : Int) := by omega
              have hz := D.set (i := i) (x := .int .u8 (IntKind.u8.wrap (z + 1))) hg (by decide) hlo hhi (fun _ => ⟨_, rfl⟩)
              have y1 : wr.drew.cell? ⟨g, i, none⟩ = some (.int .u8 z) := by simp [World.cell?, hg, hx]
              have y2 : wr.drew.frozen? ⟨g, i, none⟩ = false := by simp [World.frozen?, hg]
              clear hcs hao hx
              go_upto_region 15 with fail
              refine wp_region_T (k := 10) (S := fun w2 => w2 = World.drew wr) hmo ?_
              change wpAnyT _ _ _ _ _ _ _ _ _ (World.drew wr)
              generalize World.drew wr = Wd at *
              refine wpAnyT_take (i := 0) (v := .pointer (some ⟨V.heap.size, 3, none⟩)) rfl (by kernel_rfl) (by kernel_rfl) (by kernel_rfl) (by kernel_rfl) (by decide) (by kernel_rfl) (by kernel_rfl) (fun _ _ _ h => h) (Or.inl ⟨by kernel_rfl, by intro _ _; kernel_rfl⟩) rfl ?_
              go_simp
              refine wpAnyT_take (i := 1) (v := .slice (some ⟨g, 0, none⟩) own.cn own.cc) rfl (by kernel_rfl) (by kernel_rfl) (by kernel_rfl) (by kernel_rfl) (by decide) (by kernel_rfl) (by kernel_rfl) (fun _ _ _ h => h) (Or.inl ⟨by kernel_rfl, by rintro w2 h; subst h; go_simp⟩) rfl ?_
              go_simp
              refine wpAnyT_take (i := 2) (v := .int .i64 (i : Int)) rfl (by kernel_rfl) (by kernel_rfl) (by kernel_rfl) (by kernel_rfl) (by decide) (by kernel_rfl) (by kernel_rfl) (fun _ _ _ h => h) (Or.inl ⟨by kernel_rfl, by intro _ _; kernel_rfl⟩) rfl ?_
              go_simp
              refine wpAnyT_take (i := 3) (v := .pointer (some ⟨V.heap.size, 3, none⟩)) rfl (by kernel_rfl) (by kernel_rfl) (by kernel_rfl) (by kernel_rfl) (by decide) (by kernel_rfl) (by kernel_rfl) (fun _ _ _ h => h) (Or.inl ⟨by kernel_rfl, by intro _ _; kernel_rfl⟩) rfl ?_
              go_simp
              refine wpAnyT_take (i := 4) (v := .slice (some ⟨g, 0, none⟩) own.cn own.cc) rfl (by kernel_rfl) (by kernel_rfl) (by kernel_rfl) (by kernel_rfl) (by decide) (by kernel_rfl) (by kernel_rfl) (fun _ _ _ h => h) (Or.inl ⟨by kernel_rfl, by rintro w2 h; subst h; go_simp⟩) rfl ?_
              go_simp
              refine wpAnyT_take (i := 5) (v := .int .i64 (i : Int)) rfl (by kernel_rfl) (by kernel_rfl) (by kernel_rfl) (by kernel_rfl) (by decide) (by kernel_rfl) (by kernel_rfl) (fun _ _ _ h => h) (Or.inl ⟨by kernel_rfl, by intro _ _; kernel_rfl⟩) rfl ?_
              go_simp
              refine wpAnyT_take (i := 6) (v := .pointer (some ⟨g, i, none⟩)) rfl (by kernel_rfl) (by kernel_rfl) (by kernel_rfl) (by kernel_rfl) (by decide) (by kernel_rfl) (by kernel_rfl) (fun _ _ _ h => h) (Or.inl ⟨by kernel_rfl, by rintro w2 h; subst h; go_simp⟩) rfl ?_
              go_simp
              refine wpAnyT_take (i := 7) (v := .int .u8 z) rfl (by kernel_rfl) (by kernel_rfl) (by kernel_rfl) (by kernel_rfl) (by decide) (by kernel_rfl) (by kernel_rfl) (fun _ _ _ h => h) (Or.inl ⟨by kernel_rfl, by rintro w2 h; subst h; go_simp⟩) rfl ?_
              go_simp
              refine wpAnyT_take (i := 8) (v := .int .u8 (IntKind.u8.wrap (z + 1))) rfl (by kernel_rfl) (by kernel_rfl) (by kernel_rfl) (by kernel_rfl) (by decide) (by kernel_rfl) (by kernel_rfl) (fun _ _ _ h => h) (Or.inl ⟨by kernel_rfl, by rintro w2 h; subst h; go_simp⟩) rfl ?_
              go_simp
              refine wpAnyT_take (i := 9) (v := .pointer (some ⟨g, i, none⟩)) rfl (by kernel_rfl) (by kernel_rfl) (by kernel_rfl) (by kernel_rfl) (by decide) (by kernel_rfl) (by kernel_rfl) (fun _ _ _ h => h) (Or.inl ⟨by kernel_rfl, by rintro w2 h; subst h; go_simp⟩) rfl ?_
              go_simp
              refine wpAnyT_last (by kernel_rfl) (by kernel_rfl) ?_
              refine wpAny_all (rs := [10]) (by kernel_rfl) (by simp) (fun j hj => ?_)
              rw [List.mem_singleton] at hj
              subst hj
              refine wpOp_step rfl (fun K hK => ?_)
              go_simp
              refine hK _ _ ?_
              clear hK K
              refine wpAny_done (by kernel_rfl) ?_ _
              clear D hg y1 y2 f0 f1 f2 f3 f4 d0 d1 d2 d3 d4 L
              generalize Wd.setCell _ _ = We at *
              go_wp2_with fail
              go_roundw
              case rel => exact ⟨i + 1, by omega, by go_num, hz⟩
              case measure => simp [intOf]; omega
            · obtain rfl : i = own.cn := by omega
              clear hi hin
              obtain ⟨Wa, hWa⟩ : ∃ x, x = wr := ⟨wr, rfl⟩
              subst hWa
              have VE := V0.step L.bel
              have bc := L.bc
              have b0 := VE.b0
              have hsr := rSameRes_any Q r ⟨lq, c.cursor⟩ c Wa L.oc VE.o0
              rw [HQ.out] at hsr
              unfold QV.val QV.cells at hsr
              obtain ⟨d0, d1, d2, d3, d4⟩ := qbox_all L.bo
              clear L
              go_wp2_with (first | (refine wpList_load_row (ty := 58) bc rfl rfl rfl (by kernel_rfl) (by kernel_rfl) ?_; go_simp) | (refine wpList_load_row (ty := 58) b0 rfl rfl rfl (by kernel_rfl) (by kernel_rfl) ?_; go_simp))
              refine hsr.mono ?_
              rintro e X0 ⟨rfl, hbx⟩
              have s0 := VE.step hbx
              have hX := s0.bel
              clear d0 d1 d2 d3 d4 VE bc b0 hsr hbx V0 HQ lc
              cases m with
              | false =>
                obtain ⟨hl, hx⟩ := Hx2.out HM.out
                subst hl hx
                go_wp2_with fail
                refine (num_any 2 X0).mono ?_
                rintro e XA ⟨rfl, hwA⟩
                subst hwA
                go_wp2_with fail
                refine (known_any X0).mono ?_
                rintro e XB ⟨rfl, hbB⟩
                go_wp2_with fail
                go_ret
                exact ⟨rfl, hX.trans (hbB.mono hX.size)⟩
              | true =>
                obtain ⟨hl, hx⟩ := Hx1.out HM.out
                obtain ⟨hlw, -⟩ := Hw.out.1 HM.out
                subst hx
                rw [← hlw] at hl
                subst hl
                have hs1 := run_strD ax _ cx _ X0 s0.rx
                have hs2 := run_strD aw _ cw _ X0 s0.rw
                have hq2 := tol_yes ⟨lx.toArray⟩
                clear hlw s0 Hx1 Hx2 Hw
                go_wp2_with fail
                refine (num_any 0 X0).mono ?_
                rintro e XA ⟨rfl, hwA⟩
                subst hwA
                go_wp2_with fail
                refine (known_any X0).mono ?_
                rintro e XB ⟨rfl, hbB⟩
                go_wp2_with fail
                go_ret
                exact ⟨rfl, hX.trans (hbB.mono hX.size)⟩
end Go.Proofs.YtgeafnggodkpaaaGreat.Msg
