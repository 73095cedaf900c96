/-
  The document reads a request: RequestOf.
-/
import Derived.Test.YtgeafnggodkpaaaGreatRq
import Derived.Test.YtgeafnggodkpaaaGreatSf
namespace Go.Proofs.YtgeafnggodkpaaaGreat.Msg
open Go.RowKit Go.Lib Go.Proofs.YtgeafnggodkpaaaGreat.Mem Go.Proofs.YtgeafnggodkpaaaGreat.Tlv

theorem kpb_req {B b : Nat} {W W' : World} {r : RV} (h : W.heap[b]? = some r.box) (hs : W.heap.size ≤ W'.heap.size) (ho : ∀ k, k ≠ b → W'.heap[k]? = W.heap[k]?) (hB : B ≤ b) : KeepB B W W' := ⟨kpr_req h hs ho, fun k h1 _ => ho k (by omega)⟩

set_option maxRecDepth 100000 in
set_option maxHeartbeats 8000000 in
theorem rRequestOf_any (B : Nat) (b : List UInt8) (ao : Option Addr) (n cap : Nat) (w : World) (hr : Rd w 1 ao n cap (byV b)) (hB : B ≤ w.heap.size) (hty : TyB B w ao cap) (hn : n ≤ 100000000) :
    Calls Tryz.prog 20 #[.slice ao n cap] w (GivesRq (OpTyB B) (.bool true) (.bool false) b w) := by
  have hbn : b.length = n := by have := hr.1; rw [byV_len] at this; omega
  have hb0 : Below w.heap.size w (w.alloc zeroR.box) := (Below.refl _ _).alloc (Nat.le_refl _) _
  have k0 : (w.alloc zeroR.box).heap[w.heap.size]? = some zeroR.box := by show (w.heap.push _)[w.heap.size]? = some _; exact Array.getElem?_push_size
  have hz0 : (w.alloc zeroR.box).heap.size = w.heap.size + 1 := by simp
  have hr0 := hr.later hb0
  have ht0 := hty.later hb0
  unfold zeroR zeroV RV.box RV.cells at hb0 k0 hz0 hr0 ht0
  dsimp only at hb0 k0 hz0 hr0 ht0
  clear hr hty
  go_enter Tryz.func20, Tryz.ntmps20
  go_upto_region 1 with fail
  generalize hg : w.alloc _ = W0 at *
  have k0f : W0.heap[w.heap.size]? = some zeroR.box := k0
  clear hg k0
  subst hbn
  have hBW0 : B ≤ W0.heap.size := Nat.le_trans hB hb0.size
  have hR := rf_new hr0 hBW0 ht0
  have hbR : Below W0.heap.size W0 (W0.alloc (.cells #[.slice ao b.length cap, .bool false] 94)) := (Below.refl _ _).alloc (Nat.le_refl _) _
  go_upto_region 2 with fail
  generalize hg : W0.alloc _ = W1 at *
  have hz1 : W1.heap.size = W0.heap.size + 1 := by rw [← hg]; simp
  clear hg
  go_upto_region 3 with (refine wpList_store_new rfl rfl rfl rfl (by kernel_rfl) rfl (by kernel_rfl) ?_; go_simp)
  generalize hg : W1.alloc _ = W2
  have e2 : W1.alloc zeroR.box = W2 := hg
  have hb2 : Below W1.heap.size W1 W2 := by rw [← e2]; exact (Below.refl _ _).alloc (Nat.le_refl _) _
  have kb : W2.heap[W1.heap.size]? = some zeroR.box := by rw [← e2]; show (W1.heap.push _)[W1.heap.size]? = some _; exact Array.getElem?_push_size
  have hR2 := hR.later hb2
  have hbel2 : Below W0.heap.size W0 W2 := hbR.trans (hb2.mono (by omega))
  clear hg e2 hb2 hR hbR hr0 ht0
  rw [hz0] at hR2
  rw [hz1, hz0] at kb
  clear hz1
  have T1 := took_num ⟨b, false⟩ 1 (by decide)
  generalize hgq : w.heap.size + 1 = g at *
  generalize hobq : g + 1 = ob at *
  have hg0 : W0.heap.size ≤ g := by omega
  have hob : W0.heap.size ≤ ob := by omega
  have hgo : g ≠ ob := by omega
  have hrw : w.heap.size < W0.heap.size := by omega
  clear hgq hobq
  have hBo : B ≤ ob := Nat.le_trans hBW0 hob
  have hnum := rfnum_any B g ⟨b, false⟩ 1 W2 hR2 (by dsimp only; omega)
  generalize RS.num ⟨b, false⟩ 1 = nm at *
  obtain ⟨n1, s1⟩ := nm
  dsimp only at T1 hnum
  go_wp2_with fail
  refine hnum.mono ?_
  rintro e W3 ⟨rfl, hR3, hg3⟩
  have hb3 : Below W0.heap.size W0 W3 := hbel2.trans (below_of_grown hg3 hg0 hR2.lt)
  have q3 : W3.heap[ob]? = some zeroR.box := (hg3.block _ (Array.getElem?_eq_some_iff.1 kb).1 (fun e => hgo (Option.some.inj e).symm)).trans kb
  clear hnum hbel2 kb hR2 hg3
  obtain ⟨d0, d1, d2, d3, d4, d5, d6, d7, d8, d9⟩ := rbox_all q3
  unfold zeroR zeroV at d0 d1 d2 d3 d4 d5 d6 d7 d8
  dsimp only at d0 d1 d2 d3 d4 d5 d6 d7 d8
  go_upto_region 4 with fail
  have q4 : (W3.setCell ⟨ob, 0, none⟩ (.int .u64 n1)).heap[ob]? = some (RV.box ⟨n1, 0, zeroV⟩) := (at_set q3).trans (by kernel_rfl)
  have hR4 : RfS B g s1 (W3.setCell ⟨ob, 0, none⟩ (.int .u64 n1)) := hR3.grown (grown_set _ _ _ _) q3 (fun c fr h => by cases h) hgo hBo
  have hb4 := hb3.setCell (p := ⟨ob, 0, none⟩) hob (.int .u64 n1)
  generalize W3.setCell _ _ = W4 at *
  clear d0 d1 d2 d3 d4 d5 d6 d7 d8 d9 q3 hR3 hb3
  have T2 := took_num s1 2 (by decide)
  have l1 := T1.le
  dsimp only at l1
  have hnum := rfnum_any B g s1 2 W4 hR4 (by omega)
  generalize RS.num s1 2 = nm at *
  obtain ⟨n2, s2⟩ := nm
  dsimp only at T2 hnum
  go_wp2_with fail
  refine hnum.mono ?_
  rintro e W5 ⟨rfl, hR5, hg5⟩
  have l2 := T2.le
  have hb5 : Below W0.heap.size W0 W5 := hb4.trans (below_of_grown hg5 hg0 hR4.lt)
  have q5 : W5.heap[ob]? = some (RV.box ⟨n1, 0, zeroV⟩) := (hg5.block _ (Array.getElem?_eq_some_iff.1 q4).1 (fun e => hgo (Option.some.inj e).symm)).trans q4
  clear hnum hb4 q4 hR4 hg5
  obtain ⟨d0, d1, d2, d3, d4, d5, d6, d7, d8, d9⟩ := rbox_all q5
  unfold zeroV at d2 d3 d4 d5 d6 d7 d8
  dsimp only at d0 d1 d2 d3 d4 d5 d6 d7 d8
  go_upto_region 5 with fail
  have q6 : (W5.setCell ⟨ob, 1, none⟩ (.int .u64 n2)).heap[ob]? = some (RV.box ⟨n1, n2, zeroV⟩) := (at_set q5).trans (by kernel_rfl)
  have hR6 : RfS B g s2 (W5.setCell ⟨ob, 1, none⟩ (.int .u64 n2)) := hR5.grown (grown_set _ _ _ _) q5 (fun c fr h => by cases h) hgo hBo
  have hb6 := hb5.setCell (p := ⟨ob, 1, none⟩) hob (.int .u64 n2)
  generalize W5.setCell _ _ = W6 at *
  clear d0 d1 d2 d3 d4 d5 d6 d7 d8 d9 q5 hR5 hb5
  have T3 := took_bytes s2 3 (by decide)
  have hl3 := bytes_le s2 3
  have hby := rftake_any B g s2 3 W6 hR6 (by omega)
  unfold GivesTf at hby
  generalize RS.bytes s2 3 = y at *
  obtain ⟨y, s3⟩ := y
  dsimp only at T3 hby hl3
  go_wp2_with fail
  refine hby.mono ?_
  rintro e W7 ⟨hR7, hg7, a7, c7, rfl, hrd7, hty7⟩
  have hb7 : Below W0.heap.size W0 W7 := hb6.trans (below_of_grown hg7 hg0 hR6.lt)
  have q7 : W7.heap[ob]? = some (RV.box ⟨n1, n2, zeroV⟩) := (hg7.block _ (Array.getElem?_eq_some_iff.1 q6).1 (fun e => hgo (Option.some.inj e).symm)).trans q6
  clear hby q6 hR6 hb6 hg7
  go_wp2_with fail
  refine (rOpOf_any B y a7 y.length c7 W7 hrd7 (Nat.le_trans hBW0 hb7.size) hty7 (by omega)).mono ?_
  rintro e W8 ⟨hb8', hO⟩
  have hR8 := hR7.later hb8'
  have q8 : W8.heap[ob]? = some (RV.box ⟨n1, n2, zeroV⟩) := (hb8'.block _ (Array.getElem?_eq_some_iff.1 q7).1).trans q7
  have hb8 := hb7.trans (hb8'.mono hb7.size)
  obtain ⟨ok, Y, cY, rfl, oY, tY, hans⟩ : ∃ (ok : Bool) (Y : OV) (cY : OC), e = .returned (.tuple #[Y.val, .bool ok]) ∧ OpAt W8 Y cY ∧ OpTyB B W8 Y ∧ ((ok = true ∧ mayOp Y cY = true ∧ opL Y cY = y) ∨ (ok = false ∧ NoOp y)) := by
    rcases hO with ⟨Y, cY, rfl, oY, tY, mY, lY⟩ | ⟨rfl, n1⟩
    · exact ⟨true, Y, cY, rfl, oY, tY, .inl ⟨rfl, mY, lY⟩⟩
    · exact ⟨false, zeroV, ⟨[], [], []⟩, rfl, ⟨Rd.nil _ _, Rd.nil _ _, Rd.nil _ _, Nat.zero_le _, Nat.zero_le _, Nat.zero_le _⟩, ⟨fun h => absurd h (Nat.lt_irrefl 0), fun h => absurd h (Nat.lt_irrefl 0), fun h => absurd h (Nat.lt_irrefl 0)⟩, .inr ⟨rfl, n1⟩⟩
  clear hO hR7 q7 hb7 hb8'
  have HA := Lib.hid hans
  clear hans
  unfold OV.val
  go_upto_region 6 with (refine wpList_store_new rfl rfl rfl rfl (by kernel_rfl) rfl (by kernel_rfl) ?_; go_simp)
  generalize hg : W8.alloc _ = W9
  have e9 : W8.alloc Y.box = W9 := hg
  have hb9 : Below W8.heap.size W8 W9 := by rw [← e9]; exact (Below.refl _ _).alloc (Nat.le_refl _) _
  have q9y : W9.heap[W8.heap.size]? = some Y.box := by rw [← e9]; show (W8.heap.push _)[W8.heap.size]? = some _; exact Array.getElem?_push_size
  have q9 : W9.heap[ob]? = some (RV.box ⟨n1, n2, zeroV⟩) := (hb9.block _ (Array.getElem?_eq_some_iff.1 q8).1).trans q8
  have hR9 := hR8.later hb9
  have hb9' := hb8.trans (hb9.mono hb8.size)
  have oY9 := oY.later hb9
  have tY9 := tY.kpb (KeepB.of_below hb9)
  clear hg e9 q8 oY tY hR8 hb8 hb9
  generalize W8.heap.size = yb at *
  obtain ⟨d0, d1, d2, d3, d4, d5, d6, d7, d8, d9⟩ := rbox_all q9
  unfold zeroV at d2 d3 d4 d5 d6 d7 d8
  dsimp only at d0 d1 d2 d3 d4 d5 d6 d7 d8
  go_upto_region 7 with (refine wpList_load_row q9y rfl rfl rfl (by kernel_rfl) (by kernel_rfl) ?_; go_simp)
  generalize hg : World.setCell _ _ _ = WA
  have eA : setOp2 W9 ob Y = WA := hg
  have hkA : ∀ k, k ≠ ob → WA.heap[k]? = W9.heap[k]? := fun k hk => by rw [← eA]; exact setOp2_other hk
  have hsA : WA.heap.size = W9.heap.size := by rw [← eA]; exact setOp2_size
  have qA : WA.heap[ob]? = some (RV.box ⟨n1, n2, Y⟩) := by rw [← eA]; exact setOp2_at q9
  have hkrA := kpb_req q9 (Nat.le_of_eq hsA.symm) hkA hBo
  have hbA : Below W0.heap.size W0 WA := by rw [← eA]; exact hb9'.trans (setOp2_below (Below.refl _ _) hob)
  have oYA := oY9.kpb tY9 hkrA
  have tYA := tY9.kpb hkrA
  have hgrA : W9.grownBy WA (some ob) := by
    have hB : Below ob W9 WA := by rw [← eA]; exact setOp2_below (Below.refl _ _) (Nat.le_refl _)
    exact ⟨hB.os, hB.tape, hB.output, hB.size, fun k _ hne => hkA k (fun e => hne (by rw [e]))⟩
  have hRA := hR9.grown hgrA q9 (fun c fr h => by cases h) hgo hBo
  clear hg eA d0 d1 d2 d3 d4 d5 d6 d7 d8 d9 hkA hsA hkrA oY9 tY9 hb9' hgrA q9 q9y hR9
  have hrz : WA.heap[w.heap.size]? = some zeroR.box := (hbA.block _ (by omega)).trans k0f
  have hbel := hb0.trans (hbA.mono (by omega))
  have hfin : ∀ cs : Array Value, (WA.setRow w.heap.size cs).heap[w.heap.size]? = some (.cells cs 43) ∧ Below w.heap.size w (WA.setRow w.heap.size cs) := fun cs =>
    ⟨setRow_at' hrz, below_setRow hbel (Nat.le_refl _) cs⟩
  rcases HA.out with ⟨rfl, mY, lY⟩ | ⟨rfl, nY⟩
  · have HM := Lib.hid (And.intro mY lY)
    clear mY lY
    go_wp2_with fail
    refine (rfdone_any B g s3 WA hRA).mono ?_
    rintro e w9 ⟨rfl, rfl⟩
    by_cases he : s3.bad = false ∧ s3.l = []
    · have f0 : decide (s3.bad = false ∧ s3.l = []) = true := decide_eq_true he
      obtain ⟨hd, h64, u64⟩ := req_done T1 T2 T3 he.1 he.2
      have hout : U64R ⟨n1, n2, Y⟩ ∧ reqL ⟨n1, n2, Y⟩ (opL Y cY) = b := by
        refine ⟨⟨by dsimp only; omega, by dsimp only; omega, by dsimp only; omega, by dsimp only; omega⟩, ?_⟩
        rw [hd, req_split, HM.out.2]
        rfl
      have HO := Lib.hid hout
      obtain ⟨f1, f2⟩ := hfin (RV.cells ⟨n1, n2, Y⟩)
      have hkr := kpb_req (B := B) hrz (below_setRow (Below.refl w.heap.size WA) (Nat.le_refl _) (RV.cells ⟨n1, n2, Y⟩)).size (fun k hk => setRow_other WA w.heap.size k (RV.cells ⟨n1, n2, Y⟩) hk) hB
      have oF := oYA.kpb tYA hkr
      have tF := tYA.kpb hkr
      clear hout hd he
      go_wp2_with (first | (refine wpList_load_row qA rfl rfl rfl (by kernel_rfl) (by kernel_rfl) ?_; go_simp) | (refine wpList_store_row hrz rfl rfl rfl rfl (by kernel_rfl) rfl (by kernel_rfl) ?_; go_simp))
      exact bodyPost_ret (w := WA.setRow w.heap.size (RV.cells ⟨n1, n2, Y⟩)) (results_row2 (i := 2) (j := 3) (t := 43) rfl rfl rfl (by kernel_rfl) (by kernel_rfl) f1) rfl ⟨f2, .inl ⟨_, cY, rfl, oF, tF, HO.out.1, HM.out.1, HO.out.2⟩⟩
    · have f0 : decide (s3.bad = false ∧ s3.l = []) = false := decide_eq_false he
      have hno := req_none T1 T2 T3 (.inl (by
        cases hb : s3.bad with
        | true => exact .inl rfl
        | false => exact .inr (List.length_pos_iff.2 (fun h => he ⟨hb, h⟩))))
      obtain ⟨f1, f2⟩ := hfin zeroR.cells
      clear he
      go_wp2_with (refine wpList_store_row hrz rfl rfl rfl rfl (by kernel_rfl) rfl (by kernel_rfl) ?_; go_simp)
      refine bodyPost_ret (w := WA.setRow w.heap.size zeroR.cells) (results_row2 (i := 2) (j := 3) (t := 43) rfl rfl rfl (by kernel_rfl) (by kernel_rfl) f1) rfl ⟨f2, .inr ⟨rfl, hno⟩⟩
  · have hno := req_none T1 T2 T3 (.inr nY)
    obtain ⟨f1, f2⟩ := hfin zeroR.cells
    go_wp2_with (refine wpList_store_row hrz rfl rfl rfl rfl (by kernel_rfl) rfl (by kernel_rfl) ?_; go_simp)
    refine bodyPost_ret (w := WA.setRow w.heap.size zeroR.cells) (results_row2 (i := 2) (j := 3) (t := 43) rfl rfl rfl (by kernel_rfl) (by kernel_rfl) f1) rfl ⟨f2, .inr ⟨rfl, hno⟩⟩
end Go.Proofs.YtgeafnggodkpaaaGreat.Msg
