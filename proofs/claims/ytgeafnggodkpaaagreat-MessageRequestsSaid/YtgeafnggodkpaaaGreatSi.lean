/-
  MessageRequests walked.
-/
import Derived.Test.YtgeafnggodkpaaaGreatSj
import Derived.Deep.Cut
namespace Go.Proofs.YtgeafnggodkpaaaGreat.Msg
open Go.RowKit Go.Lib Go.Proofs.YtgeafnggodkpaaaGreat.Mem Go.Proofs.YtgeafnggodkpaaaGreat.Tlv

set_option maxRecDepth 100000 in
set_option maxHeartbeats 40000000 in
theorem messageRequests_any (r r' : RV) (c c' : OC) (ao : Option Addr) (n cap : Nat) (b : List UInt8) (w : World) (ho : OpRd w r.op c) (ho' : OpRd w r'.op c') (hu : U64R r) (hr : Rd w 1 ao n cap (byV b)) :
    Calls Tryz.prog 4 #[r.val, r'.val, .slice ao n cap] w (GivesB true w) := by
  have hmo : Tryz.prog.follows .mixedOrders = true := by kernel_rfl
  have hb0 : Below w.heap.size w ((w.alloc r.box).alloc r'.box) := below_two w _ _
  obtain ⟨k1, k2⟩ := two_boxes w r.box r'.box
  have hU := Lib.hid hu
  clear hu
  unfold RV.box RV.cells at hb0 k1 k2
  unfold RV.val RV.cells
  go_enter Tryz.func4, Tryz.ntmps4
  go_upto_region 1 with fail
  generalize hg : World.alloc _ _ = W0 at *
  have q1 : W0.heap[w.heap.size]? = some r.box := k1
  have q2 : W0.heap[w.heap.size + 1]? = some r'.box := k2
  clear hg k1 k2
  have hbig0 := big_any r.op c W0 (ho.later hb0)
  unfold OV.val at hbig0
  obtain ⟨c0, c1, c2, c3, c4, c5, c6, c7, c8, -⟩ := rbox_all q1
  go_wp2_with fail
  refine hbig0.mono ?_
  rintro e W1 ⟨b1, rfl, hB1, hb1⟩
  have hb1' := hb0.trans (hb1.mono hb0.size)
  have HB1 := Lib.hid hB1
  clear hbig0 hB1 c0 c1 c2 c3 c4 c5 c6 c7 c8
  cases b1 with
  | true =>
    go_wp2_with fail
    refine (known_any W1).mono ?_
    rintro e W2 ⟨rfl, hb2⟩
    go_wp2_with fail
    go_ret
    exact ⟨rfl, hb1'.trans (hb2.mono hb1'.size)⟩
  | false =>
    have q2' := (hb1.block _ (Array.getElem?_eq_some_iff.1 q2).1).trans q2
    have q1' := (hb1.block _ (Array.getElem?_eq_some_iff.1 q1).1).trans q1
    have hbig1 := big_any r'.op c' W1 (ho'.later hb1')
    unfold OV.val at hbig1
    obtain ⟨c0, c1, c2, c3, c4, c5, c6, c7, c8, -⟩ := rbox_all q2'
    go_wp2_with fail
    refine hbig1.mono ?_
    rintro e W2 ⟨b2, rfl, hB2, hb2⟩
    have hb2' := hb1'.trans (hb2.mono hb1'.size)
    have HB2 := Lib.hid hB2
    clear hbig1 hB2 c0 c1 c2 c3 c4 c5 c6 c7 c8
    cases b2 with
    | true =>
      go_wp2_with fail
      refine (known_any W2).mono ?_
      rintro e W3 ⟨rfl, hb3⟩
      go_wp2_with fail
      go_ret
      exact ⟨rfl, hb2'.trans (hb3.mono hb2'.size)⟩
    | false =>
      by_cases hn : 20000 < n
      · have f0 : decide ((20000 : Int) < (n : Int)) = true := decide_eq_true (by omega)
        go_wp2_with fail
        refine (known_any W2).mono ?_
        rintro e W3 ⟨rfl, hb3⟩
        go_wp2_with fail
        go_ret
        exact ⟨rfl, hb2'.trans (hb3.mono hb2'.size)⟩
      · have f0 : decide ((20000 : Int) < (n : Int)) = false := decide_eq_false (by omega)
        have o0 := ((HB1.out (by first | rfl | trivial)).later hb1).later hb2
        have o1 := (HB2.out (by first | rfl | trivial)).later hb2
        have p1 := (hb2.block _ (Array.getElem?_eq_some_iff.1 q1').1).trans q1'
        have p2 := (hb2.block _ (Array.getElem?_eq_some_iff.1 q2').1).trans q2'
        have Hn := Lib.hid hn
        clear HB1 HB2 hb1 hb2 hb1' q1 q2 q1' q2' hb0 hn
        have hOB := reqBytesE_any r c W2 o0 hU.out
        unfold RV.val RV.cells at hOB
        go_wp2_with (refine wpList_load_row p1 rfl rfl rfl (by kernel_rfl) (by kernel_rfl) ?_; go_simp)
        refine hOB.mono ?_
        rintro e W3 ⟨lx, ax, cx, ex, rfl, hrx, hb3, hx1, hx2⟩
        have hb3' := hb2'.trans (hb3.mono hb2'.size)
        have o0' := o0.later hb3
        have o1' := o1.later hb3
        have p1' := (hb3.block _ (Array.getElem?_eq_some_iff.1 p1).1).trans p1
        have p2' := (hb3.block _ (Array.getElem?_eq_some_iff.1 p2).1).trans p2
        have Hx := Lib.hid (And.intro hx1 hx2)
        clear hOB o0 o1 p1 p2 hx1 hx2 hb3 f0
        go_wp2_with fail
        refine (requestOf_any b ao n cap W3 (hr.later hb3') (by have := Hn.out; omega)).mono ?_
        rintro e W4 hA
        obtain ⟨f, Y, cY, rfl, oY, hb4, hY⟩ := ansq_prog hA
        have HY := Lib.hid hY
        clear hA hY
        unfold RV.val RV.cells
        go_upto_region 5 with (refine wpList_store_new rfl rfl rfl rfl (by kernel_rfl) rfl (by kernel_rfl) ?_; go_simp)
        generalize hg : W4.alloc _ = W5
        have e5 : W4.alloc Y.box = W5 := hg
        have hb5 : Below W4.heap.size W4 W5 := by rw [← e5]; exact (Below.refl _ _).alloc (Nat.le_refl _) _
        have kY : W5.heap[W4.heap.size]? = some Y.box := by rw [← e5]; show (W4.heap.push _)[W4.heap.size]? = some _; exact Array.getElem?_push_size
        have hb35 : Below W3.heap.size W3 W5 := hb4.trans (hb5.mono hb4.size)
        have bel5 := hb3'.trans (hb35.mono hb3'.size)
        have o05 := o0'.later hb35
        have o15 := o1'.later hb35
        have p15 := (hb35.block _ (Array.getElem?_eq_some_iff.1 p1').1).trans p1'
        have p25 := (hb35.block _ (Array.getElem?_eq_some_iff.1 p2').1).trans p2'
        have hrx5 := hrx.later hb35
        have oY5 := oY.later hb5
        clear hg e5 hb35 hb4 hb5 hb3' hb2' o0' o1' p1' p2' hrx oY
        generalize W4.heap.size = yb at *
        have hBw : w.heap.size ≤ W5.heap.size := bel5.size
        have hty5 : TyB w.heap.size W5 ao cap := fun h0 a ha => .inl (hr.lt h0 a ha)
        go_wp2_with fail
        refine (rRequestOf_any w.heap.size b ao n cap W5 (hr.later bel5) hBw hty5 (by have := Hn.out; omega)).mono ?_
        rintro e W6 hA
        obtain ⟨ok, Z, cZ, rfl, oZ, hb6, hZ⟩ := ansq_ref hA
        have HZ := Lib.hid hZ
        clear hA hZ
        unfold RV.val RV.cells
        go_upto_region 6 with (refine wpList_store_new rfl rfl rfl rfl (by kernel_rfl) rfl (by kernel_rfl) ?_; go_simp)
        generalize hg : W6.alloc _ = W7
        have e7 : W6.alloc Z.box = W7 := hg
        have hb7 : Below W6.heap.size W6 W7 := by rw [← e7]; exact (Below.refl _ _).alloc (Nat.le_refl _) _
        have kZ : W7.heap[W6.heap.size]? = some Z.box := by rw [← e7]; show (W6.heap.push _)[W6.heap.size]? = some _; exact Array.getElem?_push_size
        have hb57 : Below W5.heap.size W5 W7 := hb6.trans (hb7.mono hb6.size)
        have hS7 : ReqsAt w r r' Y Z c c' cY cZ yb W6.heap.size ax cx lx W7 := ⟨bel5.trans (hb57.mono bel5.size), (hb57.block _ (Array.getElem?_eq_some_iff.1 p15).1).trans p15, (hb57.block _ (Array.getElem?_eq_some_iff.1 p25).1).trans p25, (hb57.block _ (Array.getElem?_eq_some_iff.1 kY).1).trans kY, kZ, o05.later hb57, o15.later hb57, oY5.later hb57, oZ.later hb7, hrx5.later hb57⟩
        have HF := Lib.hid (twoq_ans oY5 oZ HY.out HZ.out)
        clear hg e7 hb7 kZ hb57 kY bel5 o05 o15 p15 p25 hrx5 oY5 oZ hb6 hBw hty5 HY HZ
        generalize W6.heap.size = zb at *
        have hmay := rMayOp_any r.op c W7 hS7.o0
        unfold OV.val at hmay
        obtain ⟨c0, c1, c2, c3, c4, c5, c6, c7, c8, -⟩ := rbox_all hS7.b0
        go_wp2_with fail
        refine hmay.mono ?_
        rintro e W8 ⟨rfl, hb8⟩
        have hS8 := hS7.step hb8
        clear hmay hS7 hb8 c0 c1 c2 c3 c4 c5 c6 c7 c8
        obtain ⟨m, hm⟩ : ∃ m, mayOp r.op c = m := ⟨_, rfl⟩
        obtain ⟨q, hq⟩ : ∃ q, sameReq r c r' c' = q := ⟨_, rfl⟩
        have HM := Lib.hid hm
        have HQ := Lib.hid hq
        rw [hm]
        obtain ⟨hsame, hfo⟩ := HF.out
        have HS := Lib.hid hsame
        clear hm hq hsame
        obtain ⟨HX1, HX2⟩ := Hx.out
        have Hx1 := Lib.hid HX1
        have Hx2 := Lib.hid HX2
        clear HX1 HX2 Hx HF
        have s0 : ReqsAt w r r' Y Z c c' cY cZ yb zb ax cx lx W8.drew := hS8.step (Below.refl _ _).drew
        clear hS8
        have Hfo := Lib.hid hfo
        clear hfo
        go_upto_region 7 with fail
        go_cut [85] from 19 (fun s85 w' => s85 = .bool false ∧ ReqEnd w r c ax cx lx w')
        case first =>
          rcases Hfo.out with ⟨rfl, rfl⟩ | ⟨rfl, rfl⟩
          · refine wp_region_held (S := ReqsAt w r r' Y Z c c' cY cZ yb zb ax cx lx) hmo ?_
            change wpAnyH _ _ _ _ _ _ _ _ (World.drew W8)
            generalize World.drew W8 = X0 at *
            refine wpAnyH_take (i := 0) (v := .agg #[.int .u64 r.cl, .int .u64 r.nu, .int .i64 r.op.k, .string r.op.name, .string r.op.to, .slice r.op.ao r.op.an r.op.ac, .slice r.op.bo r.op.bn r.op.bc, .slice r.op.co r.op.cn r.op.cc, .int .i64 r.op.n]) rfl (by kernel_rfl) (by kernel_rfl) (by kernel_rfl) (fun _ _ _ h => h) (Or.inl ⟨by kernel_rfl, by rintro w2 h; obtain ⟨c0, c1, c2, c3, c4, c5, c6, c7, c8, -⟩ := rbox_all h.b0; obtain ⟨d0, d1, d2, d3, d4, d5, d6, d7, d8, -⟩ := rbox_all h.b1; obtain ⟨e0, e1, e2, e3, e4, e5, e6, e7, e8, -⟩ := rbox_all h.b2; obtain ⟨f0, f1, f2, f3, f4, f5, f6, f7, f8, -⟩ := rbox_all h.b3; go_simp⟩) s0 ?_
            go_simp
            refine wpAnyH_take (i := 2) (v := .bool m) rfl (by kernel_rfl) (by kernel_rfl) (by kernel_rfl) (fun _ _ _ h => h) (Or.inl ⟨by kernel_rfl, by intro _ _; kernel_rfl⟩) s0 ?_
            go_simp
            refine wpAnyH_all (rs := [1]) (by kernel_rfl) (by simp) (fun j hj => ?_)
            rw [List.mem_singleton] at hj
            subst hj
            refine wpOp_step rfl (fun K hK => ?_)
            go_simp
            have hc := mayReq_any r c (mayOp r.op c) _ X0 s0.o0 (opC_all X0 r.op c s0.o0)
            unfold RV.val RV.cells at hc
            rw [HM.out] at hc
            refine hc.mono ?_
            rintro e X1 ⟨rfl, hb0⟩
            have s1 := s0.step hb0
            clear hc
            go_simp
            refine hK _ _ ⟨s1, ?_⟩
            clear hK K
            refine wpAnyH_take (i := 3) (v := .bool false) rfl (by kernel_rfl) (by kernel_rfl) (by kernel_rfl) (fun _ _ _ h => h) (Or.inl ⟨by kernel_rfl, by rintro w2 h; obtain ⟨c0, c1, c2, c3, c4, c5, c6, c7, c8, -⟩ := rbox_all h.b0; obtain ⟨d0, d1, d2, d3, d4, d5, d6, d7, d8, -⟩ := rbox_all h.b1; obtain ⟨e0, e1, e2, e3, e4, e5, e6, e7, e8, -⟩ := rbox_all h.b2; obtain ⟨f0, f1, f2, f3, f4, f5, f6, f7, f8, -⟩ := rbox_all h.b3; cases m <;> go_simp⟩) s1 ?_
            go_simp
            refine wpAnyH_take (i := 4) (v := .bool false) rfl (by kernel_rfl) (by kernel_rfl) (by kernel_rfl) (fun _ _ _ h => h) (Or.inl ⟨by kernel_rfl, by intro _ _; kernel_rfl⟩) s1 ?_
            go_simp
            refine wpAnyH_take (i := 5) (v := .agg #[.int .u64 r.cl, .int .u64 r.nu, .int .i64 r.op.k, .string r.op.name, .string r.op.to, .slice r.op.ao r.op.an r.op.ac, .slice r.op.bo r.op.bn r.op.bc, .slice r.op.co r.op.cn r.op.cc, .int .i64 r.op.n]) rfl (by kernel_rfl) (by kernel_rfl) (by kernel_rfl) (fun _ _ _ h => h) (Or.inl ⟨by kernel_rfl, by rintro w2 h; obtain ⟨c0, c1, c2, c3, c4, c5, c6, c7, c8, -⟩ := rbox_all h.b0; obtain ⟨d0, d1, d2, d3, d4, d5, d6, d7, d8, -⟩ := rbox_all h.b1; obtain ⟨e0, e1, e2, e3, e4, e5, e6, e7, e8, -⟩ := rbox_all h.b2; obtain ⟨f0, f1, f2, f3, f4, f5, f6, f7, f8, -⟩ := rbox_all h.b3; go_simp⟩) s1 ?_
            go_simp
            refine wpAnyH_take (i := 6) (v := .agg #[.int .u64 r'.cl, .int .u64 r'.nu, .int .i64 r'.op.k, .string r'.op.name, .string r'.op.to, .slice r'.op.ao r'.op.an r'.op.ac, .slice r'.op.bo r'.op.bn r'.op.bc, .slice r'.op.co r'.op.cn r'.op.cc, .int .i64 r'.op.n]) rfl (by kernel_rfl) (by kernel_rfl) (by kernel_rfl) (fun _ _ _ h => h) (Or.inl ⟨by kernel_rfl, by rintro w2 h; obtain ⟨c0, c1, c2, c3, c4, c5, c6, c7, c8, -⟩ := rbox_all h.b0; obtain ⟨d0, d1, d2, d3, d4, d5, d6, d7, d8, -⟩ := rbox_all h.b1; obtain ⟨e0, e1, e2, e3, e4, e5, e6, e7, e8, -⟩ := rbox_all h.b2; obtain ⟨f0, f1, f2, f3, f4, f5, f6, f7, f8, -⟩ := rbox_all h.b3; go_simp⟩) s1 ?_
            go_simp
            refine wpAnyH_take (i := 8) (v := .agg #[.int .u64 r.cl, .int .u64 r.nu, .int .i64 r.op.k, .string r.op.name, .string r.op.to, .slice r.op.ao r.op.an r.op.ac, .slice r.op.bo r.op.bn r.op.bc, .slice r.op.co r.op.cn r.op.cc, .int .i64 r.op.n]) rfl (by kernel_rfl) (by kernel_rfl) (by kernel_rfl) (fun _ _ _ h => h) (Or.inl ⟨by kernel_rfl, by rintro w2 h; obtain ⟨c0, c1, c2, c3, c4, c5, c6, c7, c8, -⟩ := rbox_all h.b0; obtain ⟨d0, d1, d2, d3, d4, d5, d6, d7, d8, -⟩ := rbox_all h.b1; obtain ⟨e0, e1, e2, e3, e4, e5, e6, e7, e8, -⟩ := rbox_all h.b2; obtain ⟨f0, f1, f2, f3, f4, f5, f6, f7, f8, -⟩ := rbox_all h.b3; go_simp⟩) s1 ?_
            go_simp
            refine wpAnyH_take (i := 9) (v := .agg #[.int .u64 r'.cl, .int .u64 r'.nu, .int .i64 r'.op.k, .string r'.op.name, .string r'.op.to, .slice r'.op.ao r'.op.an r'.op.ac, .slice r'.op.bo r'.op.bn r'.op.bc, .slice r'.op.co r'.op.cn r'.op.cc, .int .i64 r'.op.n]) rfl (by kernel_rfl) (by kernel_rfl) (by kernel_rfl) (fun _ _ _ h => h) (Or.inl ⟨by kernel_rfl, by rintro w2 h; obtain ⟨c0, c1, c2, c3, c4, c5, c6, c7, c8, -⟩ := rbox_all h.b0; obtain ⟨d0, d1, d2, d3, d4, d5, d6, d7, d8, -⟩ := rbox_all h.b1; obtain ⟨e0, e1, e2, e3, e4, e5, e6, e7, e8, -⟩ := rbox_all h.b2; obtain ⟨f0, f1, f2, f3, f4, f5, f6, f7, f8, -⟩ := rbox_all h.b3; go_simp⟩) s1 ?_
            go_simp
            refine wpAnyH_all (rs := [7]) (by kernel_rfl) (by simp) (fun j hj => ?_)
            rw [List.mem_singleton] at hj
            subst hj
            refine wpOp_step rfl (fun K hK => ?_)
            go_simp
            have hc := pSameReq_any r r' c c' X1 s1.o0 s1.o1
            unfold RV.val RV.cells at hc
            rw [HQ.out] at hc
            refine hc.mono ?_
            rintro e X2 ⟨rfl, hb1⟩
            have s2 := s1.step hb1
            clear hc
            go_simp
            refine hK _ _ ⟨s2, ?_⟩
            clear hK K
            refine wpAnyH_all (rs := [10]) (by kernel_rfl) (by simp) (fun j hj => ?_)
            rw [List.mem_singleton] at hj
            subst hj
            refine wpOp_step rfl (fun K hK => ?_)
            go_simp
            have hc := rSameReq_any r r' c c' X2 s2.o0 s2.o1
            unfold RV.val RV.cells at hc
            rw [HQ.out] at hc
            refine hc.mono ?_
            rintro e X3 ⟨rfl, hb2⟩
            have s3 := s2.step hb2
            clear hc
            go_simp
            refine hK _ _ ⟨s3, ?_⟩
            clear hK K
            refine wpAnyH_take (i := 11) (v := .bool false) rfl (by kernel_rfl) (by kernel_rfl) (by kernel_rfl) (fun _ _ _ h => h) (Or.inl ⟨by kernel_rfl, by rintro w2 h; obtain ⟨c0, c1, c2, c3, c4, c5, c6, c7, c8, -⟩ := rbox_all h.b0; obtain ⟨d0, d1, d2, d3, d4, d5, d6, d7, d8, -⟩ := rbox_all h.b1; obtain ⟨e0, e1, e2, e3, e4, e5, e6, e7, e8, -⟩ := rbox_all h.b2; obtain ⟨f0, f1, f2, f3, f4, f5, f6, f7, f8, -⟩ := rbox_all h.b3; cases q <;> go_simp⟩) s3 ?_
            go_simp
            refine wpAnyH_take (i := 12) (v := .bool false) rfl (by kernel_rfl) (by kernel_rfl) (by kernel_rfl) (fun _ _ _ h => h) (Or.inl ⟨by kernel_rfl, by intro _ _; kernel_rfl⟩) s3 ?_
            go_simp
            refine wpAnyH_take (i := 13) (v := .bool false) rfl (by kernel_rfl) (by kernel_rfl) (by kernel_rfl) (fun _ _ _ h => h) (Or.inl ⟨by kernel_rfl, by intro _ _; kernel_rfl⟩) s3 ?_
            go_simp
            refine wpAnyH_take (i := 14) (v := .agg #[.int .u64 Y.cl, .int .u64 Y.nu, .int .i64 Y.op.k, .string Y.op.name, .string Y.op.to, .slice Y.op.ao Y.op.an Y.op.ac, .slice Y.op.bo Y.op.bn Y.op.bc, .slice Y.op.co Y.op.cn Y.op.cc, .int .i64 Y.op.n]) rfl (by kernel_rfl) (by kernel_rfl) (by kernel_rfl) (fun _ _ _ h => h) (Or.inl ⟨by kernel_rfl, by rintro w2 h; obtain ⟨c0, c1, c2, c3, c4, c5, c6, c7, c8, -⟩ := rbox_all h.b0; obtain ⟨d0, d1, d2, d3, d4, d5, d6, d7, d8, -⟩ := rbox_all h.b1; obtain ⟨e0, e1, e2, e3, e4, e5, e6, e7, e8, -⟩ := rbox_all h.b2; obtain ⟨f0, f1, f2, f3, f4, f5, f6, f7, f8, -⟩ := rbox_all h.b3; go_simp⟩) s3 ?_
            go_simp
            refine wpAnyH_take (i := 15) (v := .agg #[.int .u64 Z.cl, .int .u64 Z.nu, .int .i64 Z.op.k, .string Z.op.name, .string Z.op.to, .slice Z.op.ao Z.op.an Z.op.ac, .slice Z.op.bo Z.op.bn Z.op.bc, .slice Z.op.co Z.op.cn Z.op.cc, .int .i64 Z.op.n]) rfl (by kernel_rfl) (by kernel_rfl) (by kernel_rfl) (fun _ _ _ h => h) (Or.inl ⟨by kernel_rfl, by rintro w2 h; obtain ⟨c0, c1, c2, c3, c4, c5, c6, c7, c8, -⟩ := rbox_all h.b0; obtain ⟨d0, d1, d2, d3, d4, d5, d6, d7, d8, -⟩ := rbox_all h.b1; obtain ⟨e0, e1, e2, e3, e4, e5, e6, e7, e8, -⟩ := rbox_all h.b2; obtain ⟨f0, f1, f2, f3, f4, f5, f6, f7, f8, -⟩ := rbox_all h.b3; go_simp⟩) s3 ?_
            go_simp
            refine wpAnyH_all (rs := [16]) (by kernel_rfl) (by simp) (fun j hj => ?_)
            rw [List.mem_singleton] at hj
            subst hj
            refine wpOp_step rfl (fun K hK => ?_)
            go_simp
            have hc := rSameReq_any Y Z cY cZ X3 s3.o2 s3.o3
            unfold RV.val RV.cells at hc
            rw [HS.out] at hc
            refine hc.mono ?_
            rintro e X4 ⟨rfl, hb3⟩
            have s4 := s3.step hb3
            clear hc
            go_simp
            refine hK _ _ ⟨s4, ?_⟩
            clear hK K
            refine wpAnyH_take (i := 17) (v := .bool false) rfl (by kernel_rfl) (by kernel_rfl) (by kernel_rfl) (fun _ _ _ h => h) (Or.inl ⟨by kernel_rfl, by rintro w2 h; obtain ⟨c0, c1, c2, c3, c4, c5, c6, c7, c8, -⟩ := rbox_all h.b0; obtain ⟨d0, d1, d2, d3, d4, d5, d6, d7, d8, -⟩ := rbox_all h.b1; obtain ⟨e0, e1, e2, e3, e4, e5, e6, e7, e8, -⟩ := rbox_all h.b2; obtain ⟨f0, f1, f2, f3, f4, f5, f6, f7, f8, -⟩ := rbox_all h.b3; go_simp⟩) s4 ?_
            go_simp
            refine wpAnyH_take (i := 18) (v := .bool false) rfl (by kernel_rfl) (by kernel_rfl) (by kernel_rfl) (fun _ _ _ h => h) (Or.inl ⟨by kernel_rfl, by intro _ _; kernel_rfl⟩) s4 ?_
            go_simp
            refine wpAnyH_take (i := 19) (v := .bool false) rfl (by kernel_rfl) (by kernel_rfl) (by kernel_rfl) (fun _ _ _ h => h) (Or.inl ⟨by kernel_rfl, by intro _ _; kernel_rfl⟩) s4 ?_
            go_simp
            refine wpAnyH_take (i := 20) (v := .int .i64 0) rfl (by kernel_rfl) (by kernel_rfl) (by kernel_rfl) (fun _ _ _ h => h) (Or.inl ⟨by kernel_rfl, by intro _ _; kernel_rfl⟩) s4 ?_
            go_simp
            refine wpAnyH_take (i := 23) (v := .bool true) rfl (by kernel_rfl) (by kernel_rfl) (by kernel_rfl) (fun _ _ _ h => h) (Or.inl ⟨by kernel_rfl, by intro _ _; kernel_rfl⟩) s4 ?_
            go_simp
            refine wpAnyH_all (rs := [21]) (by kernel_rfl) (by simp) (fun j hj => ?_)
            rw [List.mem_singleton] at hj
            subst hj
            refine wpOp_step rfl (fun K hK => ?_)
            go_simp
            refine (num_any 0 X4).mono ?_
            rintro e X5 ⟨rfl, hw4⟩
            have s5 : ReqsAt w r r' Y Z c c' cY cZ yb zb ax cx lx X5 := by rw [← hw4]; exact s4
            clear hw4
            go_simp
            refine hK _ _ ⟨s5, ?_⟩
            clear hK K
            refine wpAnyH_take (i := 22) (v := .bool true) rfl (by kernel_rfl) (by kernel_rfl) (by kernel_rfl) (fun _ _ _ h => h) (Or.inl ⟨by kernel_rfl, by rintro w2 h; obtain ⟨c0, c1, c2, c3, c4, c5, c6, c7, c8, -⟩ := rbox_all h.b0; obtain ⟨d0, d1, d2, d3, d4, d5, d6, d7, d8, -⟩ := rbox_all h.b1; obtain ⟨e0, e1, e2, e3, e4, e5, e6, e7, e8, -⟩ := rbox_all h.b2; obtain ⟨f0, f1, f2, f3, f4, f5, f6, f7, f8, -⟩ := rbox_all h.b3; go_simp⟩) s5 ?_
            go_simp
            refine wpAnyH_take (i := 24) (v := .bool false) rfl (by kernel_rfl) (by kernel_rfl) (by kernel_rfl) (fun _ _ _ h => h) (Or.inl ⟨by kernel_rfl, by rintro w2 h; obtain ⟨c0, c1, c2, c3, c4, c5, c6, c7, c8, -⟩ := rbox_all h.b0; obtain ⟨d0, d1, d2, d3, d4, d5, d6, d7, d8, -⟩ := rbox_all h.b1; obtain ⟨e0, e1, e2, e3, e4, e5, e6, e7, e8, -⟩ := rbox_all h.b2; obtain ⟨f0, f1, f2, f3, f4, f5, f6, f7, f8, -⟩ := rbox_all h.b3; go_simp⟩) s5 ?_
            go_simp
            refine wpAnyH_take (i := 25) (v := .bool false) rfl (by kernel_rfl) (by kernel_rfl) (by kernel_rfl) (fun _ _ _ h => h) (Or.inl ⟨by kernel_rfl, by intro _ _; kernel_rfl⟩) s5 ?_
            go_simp
            refine wpAnyH_take (i := 26) (v := .bool false) rfl (by kernel_rfl) (by kernel_rfl) (by kernel_rfl) (fun _ _ _ h => h) (Or.inl ⟨by kernel_rfl, by intro _ _; kernel_rfl⟩) s5 ?_
            go_simp
            refine wpAnyH_take (i := 27) (v := .bool true) rfl (by kernel_rfl) (by kernel_rfl) (by kernel_rfl) (fun _ _ _ h => h) (Or.inl ⟨by kernel_rfl, by intro _ _; kernel_rfl⟩) s5 ?_
            go_simp
            refine wpAnyH_take (i := 28) (v := .bool false) rfl (by kernel_rfl) (by kernel_rfl) (by kernel_rfl) (fun _ _ _ h => h) (Or.inl ⟨by kernel_rfl, by rintro w2 h; obtain ⟨c0, c1, c2, c3, c4, c5, c6, c7, c8, -⟩ := rbox_all h.b0; obtain ⟨d0, d1, d2, d3, d4, d5, d6, d7, d8, -⟩ := rbox_all h.b1; obtain ⟨e0, e1, e2, e3, e4, e5, e6, e7, e8, -⟩ := rbox_all h.b2; obtain ⟨f0, f1, f2, f3, f4, f5, f6, f7, f8, -⟩ := rbox_all h.b3; go_simp⟩) s5 ?_
            go_simp
            refine wpAnyH_take (i := 29) (v := .bool false) rfl (by kernel_rfl) (by kernel_rfl) (by kernel_rfl) (fun _ _ _ h => h) (Or.inl ⟨by kernel_rfl, by intro _ _; kernel_rfl⟩) s5 ?_
            go_simp
            refine wpAnyH_take (i := 30) (v := undef) rfl (by kernel_rfl) (by kernel_rfl) (by kernel_rfl) (fun _ _ _ h => h) (Or.inr ⟨by kernel_rfl, rfl⟩) s5 ?_
            go_simp
            refine wpAnyH_take (i := 31) (v := undef) rfl (by kernel_rfl) (by kernel_rfl) (by kernel_rfl) (fun _ _ _ h => h) (Or.inr ⟨by kernel_rfl, rfl⟩) s5 ?_
            go_simp
            refine wpAnyH_take (i := 32) (v := undef) rfl (by kernel_rfl) (by kernel_rfl) (by kernel_rfl) (fun _ _ _ h => h) (Or.inr ⟨by kernel_rfl, rfl⟩) s5 ?_
            go_simp
            refine wpAnyH_take (i := 33) (v := .bool false) rfl (by kernel_rfl) (by kernel_rfl) (by kernel_rfl) (fun _ _ _ h => h) (Or.inl ⟨by kernel_rfl, by intro _ _; kernel_rfl⟩) s5 ?_
            go_simp
            refine wpAnyH_take (i := 34) (v := .bool false) rfl (by kernel_rfl) (by kernel_rfl) (by kernel_rfl) (fun _ _ _ h => h) (Or.inl ⟨by kernel_rfl, by intro _ _; kernel_rfl⟩) s5 ?_
            go_simp
            refine wpAnyH_done (by kernel_rfl) ?_ _
            go_wp2_with fail
            go_meet
            case rel => exact ⟨rfl, s5.rest⟩
          · refine wp_region_held (S := ReqsAt w r r' Y Z c c' cY cZ yb zb ax cx lx) hmo ?_
            change wpAnyH _ _ _ _ _ _ _ _ (World.drew W8)
            generalize World.drew W8 = X0 at *
            refine wpAnyH_take (i := 0) (v := .agg #[.int .u64 r.cl, .int .u64 r.nu, .int .i64 r.op.k, .string r.op.name, .string r.op.to, .slice r.op.ao r.op.an r.op.ac, .slice r.op.bo r.op.bn r.op.bc, .slice r.op.co r.op.cn r.op.cc, .int .i64 r.op.n]) rfl (by kernel_rfl) (by kernel_rfl) (by kernel_rfl) (fun _ _ _ h => h) (Or.inl ⟨by kernel_rfl, by rintro w2 h; obtain ⟨c0, c1, c2, c3, c4, c5, c6, c7, c8, -⟩ := rbox_all h.b0; obtain ⟨d0, d1, d2, d3, d4, d5, d6, d7, d8, -⟩ := rbox_all h.b1; obtain ⟨e0, e1, e2, e3, e4, e5, e6, e7, e8, -⟩ := rbox_all h.b2; obtain ⟨f0, f1, f2, f3, f4, f5, f6, f7, f8, -⟩ := rbox_all h.b3; go_simp⟩) s0 ?_
            go_simp
            refine wpAnyH_take (i := 2) (v := .bool m) rfl (by kernel_rfl) (by kernel_rfl) (by kernel_rfl) (fun _ _ _ h => h) (Or.inl ⟨by kernel_rfl, by intro _ _; kernel_rfl⟩) s0 ?_
            go_simp
            refine wpAnyH_all (rs := [1]) (by kernel_rfl) (by simp) (fun j hj => ?_)
            rw [List.mem_singleton] at hj
            subst hj
            refine wpOp_step rfl (fun K hK => ?_)
            go_simp
            have hc := mayReq_any r c (mayOp r.op c) _ X0 s0.o0 (opC_all X0 r.op c s0.o0)
            unfold RV.val RV.cells at hc
            rw [HM.out] at hc
            refine hc.mono ?_
            rintro e X1 ⟨rfl, hb0⟩
            have s1 := s0.step hb0
            clear hc
            go_simp
            refine hK _ _ ⟨s1, ?_⟩
            clear hK K
            refine wpAnyH_take (i := 3) (v := .bool false) rfl (by kernel_rfl) (by kernel_rfl) (by kernel_rfl) (fun _ _ _ h => h) (Or.inl ⟨by kernel_rfl, by rintro w2 h; obtain ⟨c0, c1, c2, c3, c4, c5, c6, c7, c8, -⟩ := rbox_all h.b0; obtain ⟨d0, d1, d2, d3, d4, d5, d6, d7, d8, -⟩ := rbox_all h.b1; obtain ⟨e0, e1, e2, e3, e4, e5, e6, e7, e8, -⟩ := rbox_all h.b2; obtain ⟨f0, f1, f2, f3, f4, f5, f6, f7, f8, -⟩ := rbox_all h.b3; cases m <;> go_simp⟩) s1 ?_
            go_simp
            refine wpAnyH_take (i := 4) (v := .bool false) rfl (by kernel_rfl) (by kernel_rfl) (by kernel_rfl) (fun _ _ _ h => h) (Or.inl ⟨by kernel_rfl, by intro _ _; kernel_rfl⟩) s1 ?_
            go_simp
            refine wpAnyH_take (i := 5) (v := .agg #[.int .u64 r.cl, .int .u64 r.nu, .int .i64 r.op.k, .string r.op.name, .string r.op.to, .slice r.op.ao r.op.an r.op.ac, .slice r.op.bo r.op.bn r.op.bc, .slice r.op.co r.op.cn r.op.cc, .int .i64 r.op.n]) rfl (by kernel_rfl) (by kernel_rfl) (by kernel_rfl) (fun _ _ _ h => h) (Or.inl ⟨by kernel_rfl, by rintro w2 h; obtain ⟨c0, c1, c2, c3, c4, c5, c6, c7, c8, -⟩ := rbox_all h.b0; obtain ⟨d0, d1, d2, d3, d4, d5, d6, d7, d8, -⟩ := rbox_all h.b1; obtain ⟨e0, e1, e2, e3, e4, e5, e6, e7, e8, -⟩ := rbox_all h.b2; obtain ⟨f0, f1, f2, f3, f4, f5, f6, f7, f8, -⟩ := rbox_all h.b3; go_simp⟩) s1 ?_
            go_simp
            refine wpAnyH_take (i := 6) (v := .agg #[.int .u64 r'.cl, .int .u64 r'.nu, .int .i64 r'.op.k, .string r'.op.name, .string r'.op.to, .slice r'.op.ao r'.op.an r'.op.ac, .slice r'.op.bo r'.op.bn r'.op.bc, .slice r'.op.co r'.op.cn r'.op.cc, .int .i64 r'.op.n]) rfl (by kernel_rfl) (by kernel_rfl) (by kernel_rfl) (fun _ _ _ h => h) (Or.inl ⟨by kernel_rfl, by rintro w2 h; obtain ⟨c0, c1, c2, c3, c4, c5, c6, c7, c8, -⟩ := rbox_all h.b0; obtain ⟨d0, d1, d2, d3, d4, d5, d6, d7, d8, -⟩ := rbox_all h.b1; obtain ⟨e0, e1, e2, e3, e4, e5, e6, e7, e8, -⟩ := rbox_all h.b2; obtain ⟨f0, f1, f2, f3, f4, f5, f6, f7, f8, -⟩ := rbox_all h.b3; go_simp⟩) s1 ?_
            go_simp
            refine wpAnyH_take (i := 8) (v := .agg #[.int .u64 r.cl, .int .u64 r.nu, .int .i64 r.op.k, .string r.op.name, .string r.op.to, .slice r.op.ao r.op.an r.op.ac, .slice r.op.bo r.op.bn r.op.bc, .slice r.op.co r.op.cn r.op.cc, .int .i64 r.op.n]) rfl (by kernel_rfl) (by kernel_rfl) (by kernel_rfl) (fun _ _ _ h => h) (Or.inl ⟨by kernel_rfl, by rintro w2 h; obtain ⟨c0, c1, c2, c3, c4, c5, c6, c7, c8, -⟩ := rbox_all h.b0; obtain ⟨d0, d1, d2, d3, d4, d5, d6, d7, d8, -⟩ := rbox_all h.b1; obtain ⟨e0, e1, e2, e3, e4, e5, e6, e7, e8, -⟩ := rbox_all h.b2; obtain ⟨f0, f1, f2, f3, f4, f5, f6, f7, f8, -⟩ := rbox_all h.b3; go_simp⟩) s1 ?_
            go_simp
            refine wpAnyH_take (i := 9) (v := .agg #[.int .u64 r'.cl, .int .u64 r'.nu, .int .i64 r'.op.k, .string r'.op.name, .string r'.op.to, .slice r'.op.ao r'.op.an r'.op.ac, .slice r'.op.bo r'.op.bn r'.op.bc, .slice r'.op.co r'.op.cn r'.op.cc, .int .i64 r'.op.n]) rfl (by kernel_rfl) (by kernel_rfl) (by kernel_rfl) (fun _ _ _ h => h) (Or.inl ⟨by kernel_rfl, by rintro w2 h; obtain ⟨c0, c1, c2, c3, c4, c5, c6, c7, c8, -⟩ := rbox_all h.b0; obtain ⟨d0, d1, d2, d3, d4, d5, d6, d7, d8, -⟩ := rbox_all h.b1; obtain ⟨e0, e1, e2, e3, e4, e5, e6, e7, e8, -⟩ := rbox_all h.b2; obtain ⟨f0, f1, f2, f3, f4, f5, f6, f7, f8, -⟩ := rbox_all h.b3; go_simp⟩) s1 ?_
            go_simp
            refine wpAnyH_all (rs := [7]) (by kernel_rfl) (by simp) (fun j hj => ?_)
            rw [List.mem_singleton] at hj
            subst hj
            refine wpOp_step rfl (fun K hK => ?_)
            go_simp
            have hc := pSameReq_any r r' c c' X1 s1.o0 s1.o1
            unfold RV.val RV.cells at hc
            rw [HQ.out] at hc
            refine hc.mono ?_
            rintro e X2 ⟨rfl, hb1⟩
            have s2 := s1.step hb1
            clear hc
            go_simp
            refine hK _ _ ⟨s2, ?_⟩
            clear hK K
            refine wpAnyH_all (rs := [10]) (by kernel_rfl) (by simp) (fun j hj => ?_)
            rw [List.mem_singleton] at hj
            subst hj
            refine wpOp_step rfl (fun K hK => ?_)
            go_simp
            have hc := rSameReq_any r r' c c' X2 s2.o0 s2.o1
            unfold RV.val RV.cells at hc
            rw [HQ.out] at hc
            refine hc.mono ?_
            rintro e X3 ⟨rfl, hb2⟩
            have s3 := s2.step hb2
            clear hc
            go_simp
            refine hK _ _ ⟨s3, ?_⟩
            clear hK K
            refine wpAnyH_take (i := 11) (v := .bool false) rfl (by kernel_rfl) (by kernel_rfl) (by kernel_rfl) (fun _ _ _ h => h) (Or.inl ⟨by kernel_rfl, by rintro w2 h; obtain ⟨c0, c1, c2, c3, c4, c5, c6, c7, c8, -⟩ := rbox_all h.b0; obtain ⟨d0, d1, d2, d3, d4, d5, d6, d7, d8, -⟩ := rbox_all h.b1; obtain ⟨e0, e1, e2, e3, e4, e5, e6, e7, e8, -⟩ := rbox_all h.b2; obtain ⟨f0, f1, f2, f3, f4, f5, f6, f7, f8, -⟩ := rbox_all h.b3; cases q <;> go_simp⟩) s3 ?_
            go_simp
            refine wpAnyH_take (i := 12) (v := .bool false) rfl (by kernel_rfl) (by kernel_rfl) (by kernel_rfl) (fun _ _ _ h => h) (Or.inl ⟨by kernel_rfl, by intro _ _; kernel_rfl⟩) s3 ?_
            go_simp
            refine wpAnyH_take (i := 13) (v := .bool false) rfl (by kernel_rfl) (by kernel_rfl) (by kernel_rfl) (fun _ _ _ h => h) (Or.inl ⟨by kernel_rfl, by intro _ _; kernel_rfl⟩) s3 ?_
            go_simp
            refine wpAnyH_take (i := 14) (v := .agg #[.int .u64 Y.cl, .int .u64 Y.nu, .int .i64 Y.op.k, .string Y.op.name, .string Y.op.to, .slice Y.op.ao Y.op.an Y.op.ac, .slice Y.op.bo Y.op.bn Y.op.bc, .slice Y.op.co Y.op.cn Y.op.cc, .int .i64 Y.op.n]) rfl (by kernel_rfl) (by kernel_rfl) (by kernel_rfl) (fun _ _ _ h => h) (Or.inl ⟨by kernel_rfl, by rintro w2 h; obtain ⟨c0, c1, c2, c3, c4, c5, c6, c7, c8, -⟩ := rbox_all h.b0; obtain ⟨d0, d1, d2, d3, d4, d5, d6, d7, d8, -⟩ := rbox_all h.b1; obtain ⟨e0, e1, e2, e3, e4, e5, e6, e7, e8, -⟩ := rbox_all h.b2; obtain ⟨f0, f1, f2, f3, f4, f5, f6, f7, f8, -⟩ := rbox_all h.b3; go_simp⟩) s3 ?_
            go_simp
            refine wpAnyH_take (i := 15) (v := .agg #[.int .u64 Z.cl, .int .u64 Z.nu, .int .i64 Z.op.k, .string Z.op.name, .string Z.op.to, .slice Z.op.ao Z.op.an Z.op.ac, .slice Z.op.bo Z.op.bn Z.op.bc, .slice Z.op.co Z.op.cn Z.op.cc, .int .i64 Z.op.n]) rfl (by kernel_rfl) (by kernel_rfl) (by kernel_rfl) (fun _ _ _ h => h) (Or.inl ⟨by kernel_rfl, by rintro w2 h; obtain ⟨c0, c1, c2, c3, c4, c5, c6, c7, c8, -⟩ := rbox_all h.b0; obtain ⟨d0, d1, d2, d3, d4, d5, d6, d7, d8, -⟩ := rbox_all h.b1; obtain ⟨e0, e1, e2, e3, e4, e5, e6, e7, e8, -⟩ := rbox_all h.b2; obtain ⟨f0, f1, f2, f3, f4, f5, f6, f7, f8, -⟩ := rbox_all h.b3; go_simp⟩) s3 ?_
            go_simp
            refine wpAnyH_all (rs := [16]) (by kernel_rfl) (by simp) (fun j hj => ?_)
            rw [List.mem_singleton] at hj
            subst hj
            refine wpOp_step rfl (fun K hK => ?_)
            go_simp
            have hc := rSameReq_any Y Z cY cZ X3 s3.o2 s3.o3
            unfold RV.val RV.cells at hc
            rw [HS.out] at hc
            refine hc.mono ?_
            rintro e X4 ⟨rfl, hb3⟩
            have s4 := s3.step hb3
            clear hc
            go_simp
            refine hK _ _ ⟨s4, ?_⟩
            clear hK K
            refine wpAnyH_take (i := 17) (v := .bool false) rfl (by kernel_rfl) (by kernel_rfl) (by kernel_rfl) (fun _ _ _ h => h) (Or.inl ⟨by kernel_rfl, by rintro w2 h; obtain ⟨c0, c1, c2, c3, c4, c5, c6, c7, c8, -⟩ := rbox_all h.b0; obtain ⟨d0, d1, d2, d3, d4, d5, d6, d7, d8, -⟩ := rbox_all h.b1; obtain ⟨e0, e1, e2, e3, e4, e5, e6, e7, e8, -⟩ := rbox_all h.b2; obtain ⟨f0, f1, f2, f3, f4, f5, f6, f7, f8, -⟩ := rbox_all h.b3; go_simp⟩) s4 ?_
            go_simp
            refine wpAnyH_take (i := 18) (v := .bool false) rfl (by kernel_rfl) (by kernel_rfl) (by kernel_rfl) (fun _ _ _ h => h) (Or.inl ⟨by kernel_rfl, by intro _ _; kernel_rfl⟩) s4 ?_
            go_simp
            refine wpAnyH_take (i := 19) (v := .bool false) rfl (by kernel_rfl) (by kernel_rfl) (by kernel_rfl) (fun _ _ _ h => h) (Or.inl ⟨by kernel_rfl, by intro _ _; kernel_rfl⟩) s4 ?_
            go_simp
            refine wpAnyH_take (i := 20) (v := .int .i64 4) rfl (by kernel_rfl) (by kernel_rfl) (by kernel_rfl) (fun _ _ _ h => h) (Or.inl ⟨by kernel_rfl, by intro _ _; kernel_rfl⟩) s4 ?_
            go_simp
            refine wpAnyH_take (i := 23) (v := .bool false) rfl (by kernel_rfl) (by kernel_rfl) (by kernel_rfl) (fun _ _ _ h => h) (Or.inl ⟨by kernel_rfl, by intro _ _; kernel_rfl⟩) s4 ?_
            go_simp
            refine wpAnyH_all (rs := [21]) (by kernel_rfl) (by simp) (fun j hj => ?_)
            rw [List.mem_singleton] at hj
            subst hj
            refine wpOp_step rfl (fun K hK => ?_)
            go_simp
            refine (num_any 4 X4).mono ?_
            rintro e X5 ⟨rfl, hw4⟩
            have s5 : ReqsAt w r r' Y Z c c' cY cZ yb zb ax cx lx X5 := by rw [← hw4]; exact s4
            clear hw4
            go_simp
            refine hK _ _ ⟨s5, ?_⟩
            clear hK K
            refine wpAnyH_take (i := 22) (v := .bool false) rfl (by kernel_rfl) (by kernel_rfl) (by kernel_rfl) (fun _ _ _ h => h) (Or.inl ⟨by kernel_rfl, by rintro w2 h; obtain ⟨c0, c1, c2, c3, c4, c5, c6, c7, c8, -⟩ := rbox_all h.b0; obtain ⟨d0, d1, d2, d3, d4, d5, d6, d7, d8, -⟩ := rbox_all h.b1; obtain ⟨e0, e1, e2, e3, e4, e5, e6, e7, e8, -⟩ := rbox_all h.b2; obtain ⟨f0, f1, f2, f3, f4, f5, f6, f7, f8, -⟩ := rbox_all h.b3; go_simp⟩) s5 ?_
            go_simp
            refine wpAnyH_take (i := 24) (v := .bool false) rfl (by kernel_rfl) (by kernel_rfl) (by kernel_rfl) (fun _ _ _ h => h) (Or.inl ⟨by kernel_rfl, by rintro w2 h; obtain ⟨c0, c1, c2, c3, c4, c5, c6, c7, c8, -⟩ := rbox_all h.b0; obtain ⟨d0, d1, d2, d3, d4, d5, d6, d7, d8, -⟩ := rbox_all h.b1; obtain ⟨e0, e1, e2, e3, e4, e5, e6, e7, e8, -⟩ := rbox_all h.b2; obtain ⟨f0, f1, f2, f3, f4, f5, f6, f7, f8, -⟩ := rbox_all h.b3; go_simp⟩) s5 ?_
            go_simp
            refine wpAnyH_take (i := 25) (v := .bool false) rfl (by kernel_rfl) (by kernel_rfl) (by kernel_rfl) (fun _ _ _ h => h) (Or.inl ⟨by kernel_rfl, by intro _ _; kernel_rfl⟩) s5 ?_
            go_simp
            refine wpAnyH_take (i := 26) (v := .bool false) rfl (by kernel_rfl) (by kernel_rfl) (by kernel_rfl) (fun _ _ _ h => h) (Or.inl ⟨by kernel_rfl, by intro _ _; kernel_rfl⟩) s5 ?_
            go_simp
            refine wpAnyH_take (i := 27) (v := .bool false) rfl (by kernel_rfl) (by kernel_rfl) (by kernel_rfl) (fun _ _ _ h => h) (Or.inl ⟨by kernel_rfl, by intro _ _; kernel_rfl⟩) s5 ?_
            go_simp
            refine wpAnyH_take (i := 28) (v := .bool true) rfl (by kernel_rfl) (by kernel_rfl) (by kernel_rfl) (fun _ _ _ h => h) (Or.inl ⟨by kernel_rfl, by rintro w2 h; obtain ⟨c0, c1, c2, c3, c4, c5, c6, c7, c8, -⟩ := rbox_all h.b0; obtain ⟨d0, d1, d2, d3, d4, d5, d6, d7, d8, -⟩ := rbox_all h.b1; obtain ⟨e0, e1, e2, e3, e4, e5, e6, e7, e8, -⟩ := rbox_all h.b2; obtain ⟨f0, f1, f2, f3, f4, f5, f6, f7, f8, -⟩ := rbox_all h.b3; go_simp⟩) s5 ?_
            go_simp
            refine wpAnyH_take (i := 29) (v := .bool true) rfl (by kernel_rfl) (by kernel_rfl) (by kernel_rfl) (fun _ _ _ h => h) (Or.inl ⟨by kernel_rfl, by intro _ _; kernel_rfl⟩) s5 ?_
            go_simp
            refine wpAnyH_take (i := 30) (v := .int .i64 4) rfl (by kernel_rfl) (by kernel_rfl) (by kernel_rfl) (fun _ _ _ h => h) (Or.inl ⟨by kernel_rfl, by intro _ _; kernel_rfl⟩) s5 ?_
            go_simp
            refine wpAnyH_all (rs := [31]) (by kernel_rfl) (by simp) (fun j hj => ?_)
            rw [List.mem_singleton] at hj
            subst hj
            refine wpOp_step rfl (fun K hK => ?_)
            go_simp
            refine (num_any 4 X5).mono ?_
            rintro e X6 ⟨rfl, hw5⟩
            have s6 : ReqsAt w r r' Y Z c c' cY cZ yb zb ax cx lx X6 := by rw [← hw5]; exact s5
            clear hw5
            go_simp
            refine hK _ _ ⟨s6, ?_⟩
            clear hK K
            refine wpAnyH_take (i := 32) (v := .bool false) rfl (by kernel_rfl) (by kernel_rfl) (by kernel_rfl) (fun _ _ _ h => h) (Or.inl ⟨by kernel_rfl, by rintro w2 h; obtain ⟨c0, c1, c2, c3, c4, c5, c6, c7, c8, -⟩ := rbox_all h.b0; obtain ⟨d0, d1, d2, d3, d4, d5, d6, d7, d8, -⟩ := rbox_all h.b1; obtain ⟨e0, e1, e2, e3, e4, e5, e6, e7, e8, -⟩ := rbox_all h.b2; obtain ⟨f0, f1, f2, f3, f4, f5, f6, f7, f8, -⟩ := rbox_all h.b3; go_simp⟩) s6 ?_
            go_simp
            refine wpAnyH_take (i := 33) (v := .bool false) rfl (by kernel_rfl) (by kernel_rfl) (by kernel_rfl) (fun _ _ _ h => h) (Or.inl ⟨by kernel_rfl, by intro _ _; kernel_rfl⟩) s6 ?_
            go_simp
            refine wpAnyH_take (i := 34) (v := .bool false) rfl (by kernel_rfl) (by kernel_rfl) (by kernel_rfl) (fun _ _ _ h => h) (Or.inl ⟨by kernel_rfl, by intro _ _; kernel_rfl⟩) s6 ?_
            go_simp
            refine wpAnyH_done (by kernel_rfl) ?_ _
            go_wp2_with fail
            go_meet
            case rel => exact ⟨rfl, s6.rest⟩
        case rest =>
          obtain ⟨rfl, V0⟩ := hcut
          clear s0 HS HQ Hfo hr
          have b0 := V0.b0
          generalize wc = V at *
          go_upto_region 10 with (first | (refine wpList_load_row b0 rfl rfl rfl (by kernel_rfl) (by kernel_rfl) ?_; go_simp) | (refine wpList_store_new rfl rfl rfl rfl (by kernel_rfl) rfl (by kernel_rfl) ?_; go_simp))
          generalize hg : V.alloc _ = W1
          have e1 : V.alloc r.box = W1 := hg
          have hb1 : Below V.heap.size V W1 := by rw [← e1]; exact (Below.refl _ _).alloc (Nat.le_refl _) _
          have k1 : W1.heap[V.heap.size]? = some r.box := by rw [← e1]; show (V.heap.push _)[V.heap.size]? = some _; exact Array.getElem?_push_size
          have V1 := V0.step hb1
          clear hg e1 b0
          obtain ⟨c0, c1, c2, c3, c4, c5, c6, c7, c8, -⟩ := rbox_all V1.b0
          obtain ⟨d0, d1, d2, d3, d4, d5, d6, d7, d8, d9⟩ := rbox_all k1
          have l1 := V1.o0.lc
          go_upto_region 11 with (at_builtin; refine wpList_app _ rfl _ (.tmp 89) 25 rfl W1.heap.size 5 (.int .u8 0) 1 1 sliceT_byt (.slice none 0 0) 0 [] rfl (World.ownsRow_nil _ _ _ _) r.op.co r.op.cn r.op.cc (byV c.cursor) rfl V1.o0.c (byV_one _) (by unfold maxLen; omega) (by omega) (Nat.le_refl _) ?_; intro a1 x1 W2 own1 _ hb2 _; rw [Nat.zero_add, List.nil_append] at own1; rw [Nat.zero_add]; have k2 := (hb2.block _ (Array.getElem?_eq_some_iff.1 k1).1).trans k1; clear d0 d1 d2 d3 d4 d5 d6 d7 d8 d9; obtain ⟨d0, d1, d2, d3, d4, d5, d6, d7, d8, d9⟩ := rbox_all k2)
          have k3 : (W2.setCell ⟨V.heap.size, 7, none⟩ (.slice a1 r.op.cn x1)).heap[V.heap.size]? = some (RV.box ⟨r.cl, r.nu, r.op.setCur a1 r.op.cn x1⟩) := (at_set k2).trans (by kernel_rfl)
          have own1' := own_box (i := 7) (x := .slice a1 r.op.cn x1) own1 k2 (by decide)
          have B3 : Below V.heap.size V (W2.setCell ⟨V.heap.size, 7, none⟩ (.slice a1 r.op.cn x1)) := (hb1.trans (hb2.mono hb1.size)).setCell (p := ⟨V.heap.size, 7, none⟩) (Nat.le_refl _) _
          have z1 := hb1.size
          generalize W2.setCell _ _ = W3 at *
          have V3 := V0.step B3
          clear own1 k2 hb2 V1 k1 hb1 c0 c1 c2 c3 c4 c5 c6 c7 c8 d0 d1 d2 d3 d4 d5 d6 d7 d8 d9
          obtain ⟨c0, c1, c2, c3, c4, c5, c6, c7, c8, -⟩ := rbox_all V3.b0
          have l2 := V3.o0.lb
          go_upto_region 12 with (at_builtin; refine wpList_app _ rfl _ (.tmp 95) 24 rfl W3.heap.size 9 (.string ⟨#[]⟩) 1 16 sliceT_txt (.slice none 0 0) 0 [] rfl (World.ownsRow_nil _ _ _ _) r.op.bo r.op.bn r.op.bc (txV c.parts) rfl V3.o0.b (txV_one _) (by unfold maxLen; omega) (by omega) (Nat.le_refl _) ?_; intro a2 x2 W4 own2 _ hb4 _; rw [Nat.zero_add, List.nil_append] at own2; rw [Nat.zero_add]; have k4 := (hb4.block _ (Array.getElem?_eq_some_iff.1 k3).1).trans k3; obtain ⟨d0, d1, d2, d3, d4, d5, d6, d7, d8, d9⟩ := rbox_all k4)
          have own1 := own_later own1' hb4
          have k5 : (W4.setCell ⟨V.heap.size, 6, none⟩ (.slice a2 r.op.bn x2)).heap[V.heap.size]? = some (RV.box ⟨r.cl, r.nu, (r.op.setCur a1 r.op.cn x1).parts a2 r.op.bn x2⟩) := (at_set k4).trans (by kernel_rfl)
          have own1' := own_box (i := 6) (x := .slice a2 r.op.bn x2) own1 k4 (by decide)
          have own2' := own_box (i := 6) (x := .slice a2 r.op.bn x2) own2 k4 (by decide)
          have B5 : Below V.heap.size V (W4.setCell ⟨V.heap.size, 6, none⟩ (.slice a2 r.op.bn x2)) := (B3.trans (hb4.mono B3.size)).setCell (p := ⟨V.heap.size, 6, none⟩) (Nat.le_refl _) _
          have z3 := B3.size
          generalize W4.setCell _ _ = W5 at *
          have V5 := V0.step B5
          clear own1 own2 k4 hb4 V3 k3 B3 c0 c1 c2 c3 c4 c5 c6 c7 c8 d0 d1 d2 d3 d4 d5 d6 d7 d8 d9
          obtain ⟨c0, c1, c2, c3, c4, c5, c6, c7, c8, -⟩ := rbox_all V5.b0
          have l3 := V5.o0.la
          go_upto_region 13 with (at_builtin; refine wpList_app _ rfl _ (.tmp 101) 23 rfl W5.heap.size 53 (.agg #[.string ⟨#[]⟩, .string ⟨#[]⟩]) 2 32 sliceT_att (.slice none 0 0) 0 [] rfl (World.ownsRow_nil _ _ _ _) r.op.ao r.op.an r.op.ac (atV c.attrs) rfl V5.o0.a (atV_one _) (by unfold maxLen; omega) (by omega) (Nat.le_refl _) ?_; intro a3 x3 W6 own3 _ hb6 _; rw [Nat.zero_add, List.nil_append] at own3; rw [Nat.zero_add]; have k6 := (hb6.block _ (Array.getElem?_eq_some_iff.1 k5).1).trans k5; obtain ⟨d0, d1, d2, d3, d4, d5, d6, d7, d8, d9⟩ := rbox_all k6)
          have own1 := own_later own1' hb6
          have own2 := own_later own2' hb6
          have k7 : (W6.setCell ⟨V.heap.size, 5, none⟩ (.slice a3 r.op.an x3)).heap[V.heap.size]? = some (RV.box ⟨r.cl, r.nu, ((r.op.setCur a1 r.op.cn x1).parts a2 r.op.bn x2).setAttrs a3 r.op.an x3⟩) := (at_set k6).trans (by kernel_rfl)
          have own1' := own_box (i := 5) (x := .slice a3 r.op.an x3) own1 k6 (by decide)
          have own2' := own_box (i := 5) (x := .slice a3 r.op.an x3) own2 k6 (by decide)
          have own3' := own_box (i := 5) (x := .slice a3 r.op.an x3) own3 k6 (by decide)
          have B7 : Below V.heap.size V (W6.setCell ⟨V.heap.size, 5, none⟩ (.slice a3 r.op.an x3)) := (B5.trans (hb6.mono B5.size)).setCell (p := ⟨V.heap.size, 5, none⟩) (Nat.le_refl _) _
          have z5 := B5.size
          generalize W6.setCell _ _ = W7 at *
          clear own1 own2 own3 k6 hb6 V5 k5 B5 c0 c1 c2 c3 c4 c5 c6 c7 c8 d0 d1 d2 d3 d4 d5 d6 d7 d8 d9
          have oO : OpAt W7 (((r.op.setCur a1 r.op.cn x1).parts a2 r.op.bn x2).setAttrs a3 r.op.an x3) c := ⟨Rd.of_own_slice own3', Rd.of_own_slice own2', Rd.of_own_slice own1', l3, l2, l1⟩
          have R1 : RowW 5 r.op.cn IsU8 V.heap.size W7.heap.size a1 W7 := RowW.of_own own1' (Nat.mul_one _) z1 (fun x hx => by
            simp only [byV, List.mem_map] at hx
            obtain ⟨y, _, rfl⟩ := hx
            exact ⟨_, rfl⟩)
          have R2 : RowW 9 r.op.bn (fun _ => True) V.heap.size W7.heap.size a2 W7 := RowW.of_own own2' (Nat.mul_one _) z3 (fun _ _ => trivial)
          have R3 : RowW 53 (r.op.an * 2) (fun _ => True) V.heap.size W7.heap.size a3 W7 := RowW.of_own own3' rfl z5 (fun _ _ => trivial)
          clear own1' own2' own3' z1 z3 z5
          obtain ⟨own, hown⟩ : ∃ o : RV, (⟨r.cl, r.nu, ((r.op.setCur a1 r.op.cn x1).parts a2 r.op.bn x2).setAttrs a3 r.op.an x3⟩ : RV) = o := ⟨_, rfl⟩
          rw [hown] at k7
          have hcp := copyReq_any own c W7 (by rw [← hown]; exact oO)
          unfold RV.val RV.cells at hcp
          go_wp2_with (refine wpList_load_row k7 rfl rfl rfl (by kernel_rfl) (by kernel_rfl) ?_; go_simp)
          refine hcp.mono ?_
          rintro e W8 ⟨u, rfl, hcu, ou, hb8⟩
          unfold RV.val RV.cells
          go_upto_region 14 with (refine wpList_store_new rfl rfl rfl rfl (by kernel_rfl) rfl (by kernel_rfl) ?_; go_simp)
          generalize hg : W8.alloc _ = W9
          obtain ⟨Q, hQ⟩ : ∃ Q : RV, (⟨own.cl, own.nu, u⟩ : RV) = Q := ⟨_, rfl⟩
          have e9 : W8.alloc Q.box = W9 := by rw [← hQ]; exact hg
          have hb9 : Below W8.heap.size W8 W9 := by rw [← e9]; exact (Below.refl _ _).alloc (Nat.le_refl _) _
          have k9 : W9.heap[W8.heap.size]? = some Q.box := by rw [← e9]; show (W8.heap.push _)[W8.heap.size]? = some _; exact Array.getElem?_push_size
          have hb79 := hb8.trans (hb9.mono hb8.size)
          have hL : LpAt V W7.heap.size own Q c V.heap.size W8.heap.size W9 := by
            refine ⟨B7.trans (hb79.mono B7.size), (hb79.block _ (Array.getElem?_eq_some_iff.1 k7).1).trans k7, k9, ?_, ?_, ?_, ?_, ?_, ?_, ?_⟩
            · rw [← hQ]; exact ou.later hb9
            · rw [← hown]; exact R1.later hb79
            · rw [← hown]; exact R2.later hb79
            · rw [← hown]; exact R3.later hb79
            · rw [← hQ]; exact hcu.fa
            · rw [← hQ]; exact hcu.fb
            · rw [← hQ]; exact hcu.fc
          have HQ : Hid (sameReq Q c r c = true) := Lib.hid (by
            rw [← hQ]
            refine sameReq_yes (by rw [← hown]) (by rw [← hown]) (same_yes ⟨?_, ?_, ?_, rfl, rfl, rfl, ?_⟩)
            · rw [hcu.ek, ← hown]; rfl
            · rw [hcu.ename, ← hown]; rfl
            · rw [hcu.eto, ← hown]; rfl
            · rw [hcu.en, ← hown]; rfl)
          have lc : own.op.cn ≤ 1000000000 := by rw [← hown]; exact l1
          have lb : own.op.bn ≤ 1000000000 := by rw [← hown]; exact l2
          have la : own.op.an ≤ 1000000000 := by rw [← hown]; exact l3
          clear hg e9 hb9 k9 hb79 R1 R2 R3 hown hQ k7 oO hcu ou hb8 B7 hcp l1 l2 l3
          generalize W7.heap.size = M at *
          generalize W8.heap.size = cb at *
          go_wp2_with fail
          go_loopw [16] (fun p wr => ∃ i : Nat, i ≤ own.op.cn ∧ p = .int .i64 (i : Int) ∧ LpAt V M own Q c V.heap.size cb wr) (fun p _ => own.op.cn - (intOf p).toNat)
          case atStart => exact ⟨0, Nat.zero_le _, rfl, hL⟩
          case round =>
            obtain ⟨i, hi, rfl, L⟩ := hrel
            clear hL
            by_cases hin : i < own.op.cn
            · have D := L.drew
              obtain ⟨d0, d1, d2, d3, d4, d5, d6, d7, d8, d9⟩ := rbox_all L.bo
              obtain ⟨f0, f1, f2, f3, f4, f5, f6, f7, f8, f9⟩ := rbox_all D.bo
              obtain ⟨g, cur, hao, hlo, hhi, hg, hcs⟩ := D.r1 (by omega)
              obtain ⟨x, hx, z, rfl⟩ := hcs i hin
              rw [hao] at d7 f7
              have i0 : (0 : Int) ≤ (i : Int) := by omega
              have i1 : (i : Int) < (own.op.cn : Int) := by omega
              have hz := D.set (i := i) (x := .int .u8 (IntKind.u8.wrap (z + 1))) hg (by decide) hlo hhi (fun _ => ⟨_, rfl⟩)
              have y1 : wr.drew.cell? ⟨g, i, none⟩ = some (.int .u8 z) := by simp [World.cell?, hg, hx]
              have y2 : wr.drew.frozen? ⟨g, i, none⟩ = false := by simp [World.frozen?, hg]
              clear hcs hao hx
              go_upto_region 17 with fail
              refine wp_region_T (k := 12) (S := fun w2 => w2 = World.drew wr) hmo ?_
              change wpAnyT _ _ _ _ _ _ _ _ _ (World.drew wr)
              generalize World.drew wr = Wd at *
              refine wpAnyT_take (i := 0) (v := .pointer (some ⟨V.heap.size, 2, none⟩)) rfl (by kernel_rfl) (by kernel_rfl) (by kernel_rfl) (by kernel_rfl) (by decide) (by kernel_rfl) (by kernel_rfl) (fun _ _ _ h => h) (Or.inl ⟨by kernel_rfl, by intro _ _; kernel_rfl⟩) rfl ?_
              go_simp
              refine wpAnyT_take (i := 1) (v := .pointer (some ⟨V.heap.size, 7, none⟩)) rfl (by kernel_rfl) (by kernel_rfl) (by kernel_rfl) (by kernel_rfl) (by decide) (by kernel_rfl) (by kernel_rfl) (fun _ _ _ h => h) (Or.inl ⟨by kernel_rfl, by intro _ _; kernel_rfl⟩) rfl ?_
              go_simp
              refine wpAnyT_take (i := 2) (v := .slice (some ⟨g, 0, none⟩) own.op.cn own.op.cc) rfl (by kernel_rfl) (by kernel_rfl) (by kernel_rfl) (by kernel_rfl) (by decide) (by kernel_rfl) (by kernel_rfl) (fun _ _ _ h => h) (Or.inl ⟨by kernel_rfl, by rintro w2 h; subst h; go_simp⟩) rfl ?_
              go_simp
              refine wpAnyT_take (i := 3) (v := .int .i64 (i : Int)) rfl (by kernel_rfl) (by kernel_rfl) (by kernel_rfl) (by kernel_rfl) (by decide) (by kernel_rfl) (by kernel_rfl) (fun _ _ _ h => h) (Or.inl ⟨by kernel_rfl, by intro _ _; kernel_rfl⟩) rfl ?_
              go_simp
              refine wpAnyT_take (i := 4) (v := .pointer (some ⟨V.heap.size, 2, none⟩)) rfl (by kernel_rfl) (by kernel_rfl) (by kernel_rfl) (by kernel_rfl) (by decide) (by kernel_rfl) (by kernel_rfl) (fun _ _ _ h => h) (Or.inl ⟨by kernel_rfl, by intro _ _; kernel_rfl⟩) rfl ?_
              go_simp
              refine wpAnyT_take (i := 5) (v := .pointer (some ⟨V.heap.size, 7, none⟩)) rfl (by kernel_rfl) (by kernel_rfl) (by kernel_rfl) (by kernel_rfl) (by decide) (by kernel_rfl) (by kernel_rfl) (fun _ _ _ h => h) (Or.inl ⟨by kernel_rfl, by intro _ _; kernel_rfl⟩) rfl ?_
              go_simp
              refine wpAnyT_take (i := 6) (v := .slice (some ⟨g, 0, none⟩) own.op.cn own.op.cc) rfl (by kernel_rfl) (by kernel_rfl) (by kernel_rfl) (by kernel_rfl) (by decide) (by kernel_rfl) (by kernel_rfl) (fun _ _ _ h => h) (Or.inl ⟨by kernel_rfl, by rintro w2 h; subst h; go_simp⟩) rfl ?_
              go_simp
              refine wpAnyT_take (i := 7) (v := .int .i64 (i : Int)) rfl (by kernel_rfl) (by kernel_rfl) (by kernel_rfl) (by kernel_rfl) (by decide) (by kernel_rfl) (by kernel_rfl) (fun _ _ _ h => h) (Or.inl ⟨by kernel_rfl, by intro _ _; kernel_rfl⟩) rfl ?_
              go_simp
              refine wpAnyT_take (i := 8) (v := .pointer (some ⟨g, i, none⟩)) rfl (by kernel_rfl) (by kernel_rfl) (by kernel_rfl) (by kernel_rfl) (by decide) (by kernel_rfl) (by kernel_rfl) (fun _ _ _ h => h) (Or.inl ⟨by kernel_rfl, by rintro w2 h; subst h; go_simp⟩) rfl ?_
              go_simp
              refine wpAnyT_take (i := 9) (v := .int .u8 z) rfl (by kernel_rfl) (by kernel_rfl) (by kernel_rfl) (by kernel_rfl) (by decide) (by kernel_rfl) (by kernel_rfl) (fun _ _ _ h => h) (Or.inl ⟨by kernel_rfl, by rintro w2 h; subst h; go_simp⟩) rfl ?_
              go_simp
              refine wpAnyT_take (i := 10) (v := .int .u8 (IntKind.u8.wrap (z + 1))) rfl (by kernel_rfl) (by kernel_rfl) (by kernel_rfl) (by kernel_rfl) (by decide) (by kernel_rfl) (by kernel_rfl) (fun _ _ _ h => h) (Or.inl ⟨by kernel_rfl, by rintro w2 h; subst h; go_simp⟩) rfl ?_
              go_simp
              refine wpAnyT_take (i := 11) (v := .pointer (some ⟨g, i, none⟩)) rfl (by kernel_rfl) (by kernel_rfl) (by kernel_rfl) (by kernel_rfl) (by decide) (by kernel_rfl) (by kernel_rfl) (fun _ _ _ h => h) (Or.inl ⟨by kernel_rfl, by rintro w2 h; subst h; go_simp⟩) rfl ?_
              go_simp
              refine wpAnyT_last (by kernel_rfl) (by kernel_rfl) ?_
              refine wpAny_all (rs := [12]) (by kernel_rfl) (by simp) (fun j hj => ?_)
              rw [List.mem_singleton] at hj
              subst hj
              refine wpOp_step rfl (fun K hK => ?_)
              go_simp
              refine hK _ _ ?_
              clear hK K
              refine wpAny_done (by kernel_rfl) ?_ _
              clear D hg y1 y2 f0 f1 f2 f3 f4 f5 f6 f7 f8 f9 d0 d1 d2 d3 d4 d5 d6 d7 d8 d9 L
              generalize Wd.setCell _ _ = We at *
              go_wp2_with fail
              go_roundw
              case rel => exact ⟨i + 1, by omega, by go_num, hz⟩
              case measure => simp [intOf]; omega
            · obtain rfl : i = own.op.cn := by omega
              clear hi hin
              obtain ⟨Wa, hWa⟩ : ∃ x, x = wr := ⟨wr, rfl⟩
              subst hWa
              obtain ⟨d0, d1, d2, d3, d4, d5, d6, d7, d8, d9⟩ := rbox_all L.bo
              go_wp2_with fail
              clear d0 d1 d2 d3 d4 d5 d6 d7 d8 d9
              go_loopw [17] (fun p wr => ∃ i : Nat, i ≤ own.op.bn ∧ p = .int .i64 (i : Int) ∧ LpAt V M own Q c V.heap.size cb wr) (fun p _ => own.op.bn - (intOf p).toNat)
              case atStart => exact ⟨0, Nat.zero_le _, rfl, L⟩
              case round =>
                obtain ⟨i, hi, rfl, L2⟩ := hrel
                clear L
                by_cases hin : i < own.op.bn
                · obtain ⟨d0, d1, d2, d3, d4, d5, d6, d7, d8, d9⟩ := rbox_all L2.bo
                  obtain ⟨g, cur, hao, hlo, hhi, hg, hcs⟩ := L2.r2 (by omega)
                  obtain ⟨x, hx, -⟩ := hcs i hin
                  rw [hao] at d6
                  have i0 : (0 : Int) ≤ (i : Int) := by omega
                  have i1 : (i : Int) < (own.op.bn : Int) := by omega
                  have hz := L2.set (i := i) (x := .string ⟨#[63]⟩) hg (by decide) hlo hhi (fun h => absurd h (by decide))
                  have y1 : wr.cell? ⟨g, i, none⟩ = some x := by simp [World.cell?, hg, hx]
                  have y2 : wr.frozen? ⟨g, i, none⟩ = false := by simp [World.frozen?, hg]
                  clear hcs hao hx
                  go_wp2_with fail
                  go_roundw
                  case rel => exact ⟨i + 1, by omega, by go_num, hz⟩
                  case measure => simp [intOf]; omega
                · obtain rfl : i = own.op.bn := by omega
                  clear hi hin
                  obtain ⟨Wb, hWb⟩ : ∃ x, x = wr := ⟨wr, rfl⟩
                  subst hWb
                  obtain ⟨d0, d1, d2, d3, d4, d5, d6, d7, d8, d9⟩ := rbox_all L2.bo
                  go_wp2_with fail
                  clear d0 d1 d2 d3 d4 d5 d6 d7 d8 d9
                  go_loopw [18] (fun p wr => ∃ i : Nat, i ≤ own.op.an ∧ p = .int .i64 (i : Int) ∧ LpAt V M own Q c V.heap.size cb wr) (fun p _ => own.op.an - (intOf p).toNat)
                  case atStart => exact ⟨0, Nat.zero_le _, rfl, L2⟩
                  case round =>
                    obtain ⟨i, hi, rfl, L3⟩ := hrel
                    clear L2
                    by_cases hin : i < own.op.an
                    · obtain ⟨d0, d1, d2, d3, d4, d5, d6, d7, d8, d9⟩ := rbox_all L3.bo
                      obtain ⟨g, cur, hao, hlo, hhi, hg, hcs⟩ := L3.r3 (by omega)
                      obtain ⟨x, hx, -⟩ := hcs (i * 2) (by omega)
                      rw [hao] at d5
                      have i0 : (0 : Int) ≤ (i : Int) := by omega
                      have i1 : (i : Int) < (own.op.an : Int) := by omega
                      have hz := L3.set (i := i * 2) (x := .string ⟨#[63]⟩) hg (by decide) hlo hhi (fun h => absurd h (by decide))
                      have y1 : wr.cell? ⟨g, i * 2, none⟩ = some x := by simp [World.cell?, hg, hx]
                      have y2 : wr.frozen? ⟨g, i * 2, none⟩ = false := by simp [World.frozen?, hg]
                      clear hcs hao hx
                      go_wp2_with fail
                      go_roundw
                      case rel => exact ⟨i + 1, by omega, by go_num, hz⟩
                      case measure => simp [intOf]; omega
                    · obtain rfl : i = own.op.an := by omega
                      clear hi hin
                      obtain ⟨Wc, hWc⟩ : ∃ x, x = wr := ⟨wr, rfl⟩
                      subst hWc
                      have VE := V0.step L3.bel
                      have bc := L3.bc
                      have b0 := VE.b0
                      have hsr := rSameReq_any Q r c c Wc L3.oc VE.o0
                      rw [HQ.out] at hsr
                      unfold RV.val RV.cells at hsr
                      obtain ⟨d0, d1, d2, d3, d4, d5, d6, d7, d8, d9⟩ := rbox_all L3.bo
                      clear L3
                      go_wp2_with (first | (refine wpList_load_row bc rfl rfl rfl (by kernel_rfl) (by kernel_rfl) ?_; go_simp) | (refine wpList_load_row b0 rfl rfl rfl (by kernel_rfl) (by kernel_rfl) ?_; go_simp))
                      refine hsr.mono ?_
                      rintro e X0 ⟨rfl, hbx⟩
                      have s0 := VE.step hbx
                      have hX := s0.bel
                      clear d0 d1 d2 d3 d4 d5 d6 d7 d8 d9 VE bc b0 hsr hbx V0 HQ la lb lc
                      cases m with
                      | false =>
                        obtain ⟨hl, hx⟩ := Hx2.out HM.out
                        subst hl hx
                        go_wp2_with fail
                        refine (num_any 2 X0).mono ?_
                        rintro e XA ⟨rfl, hwA⟩
                        subst hwA
                        go_wp2_with fail
                        refine (known_any X0).mono ?_
                        rintro e XB ⟨rfl, hbB⟩
                        go_wp2_with fail
                        go_ret
                        exact ⟨rfl, hX.trans (hbB.mono hX.size)⟩
                      | true =>
                        obtain ⟨hl, hx⟩ := Hx1.out HM.out
                        subst hl hx
                        have lq : (reqL r (opL r.op c)).length ≤ 5000000 := by rw [reqL_len]; have := opL_len s0.o0 HM.out; omega
                        have q0 : ReqEnd w r c ax cx (reqL r (opL r.op c)) X0.drew := s0.step (Below.refl _ _).drew
                        clear s0
                        go_upto_region 30 with fail
                        refine wp_region_held (S := ReqEnd w r c ax cx (reqL r (opL r.op c))) hmo ?_
                        change wpAnyH _ _ _ _ _ _ _ _ (World.drew X0)
                        generalize World.drew X0 = U0 at *
                        refine wpAnyH_take (i := 0) (v := .slice ax (reqL r (opL r.op c)).length cx) rfl (by kernel_rfl) (by kernel_rfl) (by kernel_rfl) (fun _ _ _ h => h) (Or.inl ⟨by kernel_rfl, by intro _ _; kernel_rfl⟩) q0 ?_
                        go_simp
                        refine wpAnyH_take (i := 1) (v := .string ⟨(reqL r (opL r.op c)).toArray⟩) rfl (by kernel_rfl) (by kernel_rfl) (by kernel_rfl) (fun _ _ _ h => h) (Or.inl ⟨by kernel_rfl, by rintro w2 h; obtain ⟨c0, c1, c2, c3, c4, c5, c6, c7, c8, -⟩ := rbox_all h.b0; have hs := run_strD ax _ cx _ w2 h.rx; go_simp⟩) q0 ?_
                        go_simp
                        refine wpAnyH_take (i := 2) (v := .agg #[.int .u64 r.cl, .int .u64 r.nu, .int .i64 r.op.k, .string r.op.name, .string r.op.to, .slice r.op.ao r.op.an r.op.ac, .slice r.op.bo r.op.bn r.op.bc, .slice r.op.co r.op.cn r.op.cc, .int .i64 r.op.n]) rfl (by kernel_rfl) (by kernel_rfl) (by kernel_rfl) (fun _ _ _ h => h) (Or.inl ⟨by kernel_rfl, by rintro w2 h; obtain ⟨c0, c1, c2, c3, c4, c5, c6, c7, c8, -⟩ := rbox_all h.b0; go_simp⟩) q0 ?_
                        go_simp
                        refine wpAnyH_all (rs := [3]) (by kernel_rfl) (by simp) (fun j hj => ?_)
                        rw [List.mem_singleton] at hj
                        subst hj
                        refine wpOp_step rfl (fun K hK => ?_)
                        go_simp
                        have hc := rReqBytes_any r c U0 q0.o0 HM.out hU.out.c0 hU.out.c1 hU.out.n0 hU.out.n1
                        rw [opBy_yes HM.out] at hc
                        unfold RV.val RV.cells at hc
                        refine hc.mono ?_
                        rintro e U1 ⟨v3, rfl, hown3, hu0⟩
                        have q1 := q0.step hu0
                        obtain ⟨a3, c3, rfl, hrd3⟩ := Rd.of_own hown3
                        clear hc hown3
                        go_simp
                        refine hK _ _ ⟨q1, ?_⟩
                        clear hK K
                        refine wpAnyH_all (rs := [4]) (by kernel_rfl) (by simp) (fun j hj => ?_)
                        rw [List.mem_singleton] at hj
                        subst hj
                        refine wpOp_step rfl (fun K hK => ?_)
                        have hs := run_strD a3 _ c3 _ U1 hrd3
                        obtain ⟨U2, hU2⟩ : ∃ U, U1 = U := ⟨_, rfl⟩
                        have q2 : ReqEnd w r c ax cx (reqL r (opL r.op c)) U2 := by rw [← hU2]; exact q1
                        rw [hU2] at hs ⊢
                        clear hU2
                        go_simp
                        refine hK _ _ ⟨q2, ?_⟩
                        clear hK K
                        refine wpAnyH_take (i := 5) (v := .bool true) rfl (by kernel_rfl) (by kernel_rfl) (by kernel_rfl) (fun _ _ _ h => h) (Or.inl ⟨by kernel_rfl, by rintro w2 h; obtain ⟨c0, c1, c2, c3, c4, c5, c6, c7, c8, -⟩ := rbox_all h.b0; have hq2 := tol_yes ⟨(reqL r (opL r.op c)).toArray⟩; go_simp⟩) q2 ?_
                        go_simp
                        refine wpAnyH_take (i := 6) (v := .bool true) rfl (by kernel_rfl) (by kernel_rfl) (by kernel_rfl) (fun _ _ _ h => h) (Or.inl ⟨by kernel_rfl, by intro _ _; kernel_rfl⟩) q2 ?_
                        go_simp
                        refine wpAnyH_take (i := 7) (v := .int .i64 0) rfl (by kernel_rfl) (by kernel_rfl) (by kernel_rfl) (fun _ _ _ h => h) (Or.inl ⟨by kernel_rfl, by intro _ _; kernel_rfl⟩) q2 ?_
                        go_simp
                        refine wpAnyH_all (rs := [8]) (by kernel_rfl) (by simp) (fun j hj => ?_)
                        rw [List.mem_singleton] at hj
                        subst hj
                        refine wpOp_step rfl (fun K hK => ?_)
                        go_simp
                        refine (num_any 0 U2).mono ?_
                        rintro e U3 ⟨rfl, hw2⟩
                        have q3 : ReqEnd w r c ax cx (reqL r (opL r.op c)) U3 := by rw [← hw2]; exact q2
                        clear hw2
                        go_simp
                        refine hK _ _ ⟨q3, ?_⟩
                        clear hK K
                        refine wpAnyH_take (i := 9) (v := .bool true) rfl (by kernel_rfl) (by kernel_rfl) (by kernel_rfl) (fun _ _ _ h => h) (Or.inl ⟨by kernel_rfl, by rintro w2 h; obtain ⟨c0, c1, c2, c3, c4, c5, c6, c7, c8, -⟩ := rbox_all h.b0; go_simp⟩) q3 ?_
                        go_simp
                        refine wpAnyH_take (i := 10) (v := .bool true) rfl (by kernel_rfl) (by kernel_rfl) (by kernel_rfl) (fun _ _ _ h => h) (Or.inl ⟨by kernel_rfl, by intro _ _; kernel_rfl⟩) q3 ?_
                        go_simp
                        refine wpAnyH_take (i := 11) (v := .bool true) rfl (by kernel_rfl) (by kernel_rfl) (by kernel_rfl) (fun _ _ _ h => h) (Or.inl ⟨by kernel_rfl, by intro _ _; kernel_rfl⟩) q3 ?_
                        go_simp
                        refine wpAnyH_all (rs := [12]) (by kernel_rfl) (by simp) (fun j hj => ?_)
                        rw [List.mem_singleton] at hj
                        subst hj
                        refine wpOp_step rfl (fun K hK => ?_)
                        go_simp
                        refine (known_any U3).mono ?_
                        rintro e U4 ⟨rfl, hu3⟩
                        have q4 := q3.step hu3
                        go_simp
                        refine hK _ _ ⟨q4, ?_⟩
                        clear hK K
                        refine wpAnyH_take (i := 13) (v := .bool true) rfl (by kernel_rfl) (by kernel_rfl) (by kernel_rfl) (fun _ _ _ h => h) (Or.inl ⟨by kernel_rfl, by intro _ _; kernel_rfl⟩) q4 ?_
                        go_simp
                        refine wpAnyH_take (i := 14) (v := .bool true) rfl (by kernel_rfl) (by kernel_rfl) (by kernel_rfl) (fun _ _ _ h => h) (Or.inl ⟨by kernel_rfl, by intro _ _; kernel_rfl⟩) q4 ?_
                        go_simp
                        refine wpAnyH_done (by kernel_rfl) ?_ _
                        go_wp2_with fail
                        go_ret
                        exact ⟨rfl, q4.bel⟩
end Go.Proofs.YtgeafnggodkpaaaGreat.Msg
