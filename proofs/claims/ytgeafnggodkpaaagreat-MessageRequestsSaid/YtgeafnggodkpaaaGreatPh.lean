/-
  The document's bytes of a request.
-/
import Derived.Test.YtgeafnggodkpaaaGreatPg
import Derived.Test.YtgeafnggodkpaaaGreatLl
namespace Go.Proofs.YtgeafnggodkpaaaGreat.Msg
open Go.RowKit Go.Lib Go.Proofs.YtgeafnggodkpaaaGreat.Mem Go.Proofs.YtgeafnggodkpaaaGreat.Utf Go.Proofs.YtgeafnggodkpaaaGreat.Tlv

theorem opBy_yes {v : OV} {c : OC} (h : mayOp v c = true) : opBy v c = opL v c := by unfold opBy; rw [if_pos h]
/-- RequestBytes goes on. -/
structure RyAt (w : World) (r : RV) (W : World) : Prop where
  o : W.heap[w.heap.size]? = some r.box
  bel : Below w.heap.size w W
theorem RyAt.step {w W W' : World} {r : RV} (h : RyAt w r W) (hb : Below W.heap.size W W') : RyAt w r W' := ⟨(hb.block _ (Array.getElem?_eq_some_iff.1 h.o).1).trans h.o, h.bel.trans (hb.mono h.bel.size)⟩
theorem RyAt.turn {w W W' : World} {r : RV} {B : Nat} (h : RyAt w r W) (hb : Below B W W') (hB : w.heap.size < B) : RyAt w r W' := ⟨(hb.block _ hB).trans h.o, h.bel.trans (hb.mono (Nat.le_of_lt hB))⟩

set_option maxRecDepth 100000 in
set_option maxHeartbeats 40000000 in
theorem rReqBytes_any (r : RV) (c : OC) (w : World) (ho : OpAt w r.op c) (hm : mayOp r.op c = true) (h0 : 0 ≤ r.cl) (h1 : r.cl < 18446744073709551616) (h2 : 0 ≤ r.nu) (h3 : r.nu < 18446744073709551616) :
    Calls Tryz.prog 25 #[r.val] w (GivesO w (reqL r (opBy r.op c))) := by
  have hmo : Tryz.prog.follows .mixedOrders = true := by kernel_rfl
  have hlen := (opC_all w r.op c ho).len
  rw [opBy_yes hm] at hlen ⊢
  obtain ⟨cn, hcn⟩ : ∃ n : Nat, r.cl = (n : Int) := ⟨r.cl.toNat, by omega⟩
  obtain ⟨un, hun⟩ : ∃ n : Nat, r.nu = (n : Int) := ⟨r.nu.toNat, by omega⟩
  have hc64 : cn < 18446744073709551616 := by omega
  have hu64 : un < 18446744073709551616 := by omega
  obtain ⟨V1, hV1⟩ : ∃ V, val 1 (num8 cn) = V := ⟨_, rfl⟩
  obtain ⟨V2, hV2⟩ : ∃ V, val 2 (num8 un) = V := ⟨_, rfl⟩
  obtain ⟨OB, hOB⟩ : ∃ V, opL r.op c = V := ⟨_, rfl⟩
  obtain ⟨V3, hV3⟩ : ∃ V, val 3 OB = V := ⟨_, rfl⟩
  have hz : reqL r (opL r.op c) = V1 ++ V2 ++ V3 := by unfold reqL; rw [hOB, hV3, show r.cl.toNat = cn by omega, show r.nu.toNat = un by omega, hV1, hV2]
  rw [hOB] at hlen
  have l1 : V1.length ≤ 300000 := by rw [← hV1, val_len, num8_len]; decide
  have l2 : V2.length ≤ 300000 := by rw [← hV2, val_len, num8_len]; decide
  have l3 : V3.length ≤ 5000000 := by rw [← hV3, val_len]; omega
  have lO : OB.length ≤ 4194304 := by omega
  have HZ := Lib.hid hz
  have HV1 := Lib.hid hV1
  have HV2 := Lib.hid hV2
  have HV3 := Lib.hid hV3
  have HOB := Lib.hid hOB
  have Hcn := Lib.hid hcn
  have Hun := Lib.hid hun
  clear hz hV1 hV2 hV3 hOB hcn hun hlen h0 h1 h2 h3
  have hb0 : Below w.heap.size w (w.alloc r.box) := (Below.refl _ _).alloc (Nat.le_refl _) _
  have k0 : (w.alloc r.box).heap[w.heap.size]? = some r.box := by show (w.heap.push _)[w.heap.size]? = some _; exact Array.getElem?_push_size
  unfold RV.box RV.cells at hb0 k0
  unfold RV.val RV.cells
  go_enter Tryz.func25, Tryz.ntmps25
  go_upto_region 1 with fail
  generalize hg : w.alloc _ = W0 at *
  have k0f : W0.heap[w.heap.size]? = some r.box := k0
  have s0 : RyAt w r W0 := ⟨k0f, hb0⟩
  clear hg k0 k0f hb0
  have s1 : RyAt w r W0.drew := s0.step (Below.refl _ _).drew
  have z1 : w.heap.size < W0.drew.heap.size := (Array.getElem?_eq_some_iff.1 s1.o).1
  refine wp_region_held (S := RyAt w r) hmo ?_
  change wpAnyH _ _ _ _ _ _ _ _ (World.drew W0)
  generalize World.drew W0 = W1 at *
  refine wpAnyH_take (i := 0) (v := .pointer (some ⟨w.heap.size, 0, none⟩)) rfl (by kernel_rfl) (by kernel_rfl) (by kernel_rfl) (fun _ _ _ h => h) (Or.inl ⟨by kernel_rfl, by intro _ _; kernel_rfl⟩) s1 ?_
  go_simp
  refine wpAnyH_take (i := 1) (v := .int .u64 r.cl) rfl (by kernel_rfl) (by kernel_rfl) (by kernel_rfl) (fun _ _ _ h => h) (Or.inl ⟨by kernel_rfl, by rintro w h; obtain ⟨c0, c1, c2, c3, c4, c5, c6, c7, c8, -⟩ := rbox_all h.o; go_simp⟩) s1 ?_
  go_simp
  refine wpAnyH_take (i := 3) (v := .pointer (some ⟨w.heap.size, 1, none⟩)) rfl (by kernel_rfl) (by kernel_rfl) (by kernel_rfl) (fun _ _ _ h => h) (Or.inl ⟨by kernel_rfl, by intro _ _; kernel_rfl⟩) s1 ?_
  go_simp
  refine wpAnyH_take (i := 4) (v := .int .u64 r.nu) rfl (by kernel_rfl) (by kernel_rfl) (by kernel_rfl) (fun _ _ _ h => h) (Or.inl ⟨by kernel_rfl, by rintro w h; obtain ⟨c0, c1, c2, c3, c4, c5, c6, c7, c8, -⟩ := rbox_all h.o; go_simp⟩) s1 ?_
  go_simp
  refine wpAnyH_all (rs := [2]) (by kernel_rfl) (by simp) (fun j hj => ?_)
  rw [List.mem_singleton] at hj
  subst hj
  refine wpOp_step rfl (fun K hK => ?_)
  go_simp
  rw [Hcn.out]
  refine (rnumber_any 1 cn W1 hc64).mono ?_
  rintro e W2 ⟨v2, rfl, x2, hb2⟩
  rw [HV1.out] at x2
  have s2 := s1.step hb2
  generalize hB : W1.heap.size = B at *
  have z2 : B ≤ W2.heap.size := by rw [← hB]; exact hb2.size
  go_simp
  refine hK _ _ ⟨s2, ?_⟩
  clear hK K
  refine wpAnyH_all (rs := [5]) (by kernel_rfl) (by simp) (fun j hj => ?_)
  rw [List.mem_singleton] at hj
  subst hj
  refine wpOp_step rfl (fun K hK => ?_)
  go_simp
  rw [Hun.out]
  refine (rnumber_any 2 un W2 hu64).mono ?_
  rintro e W3 ⟨v5, rfl, o5, hb3⟩
  rw [HV2.out] at o5
  have s3 := s2.step hb3
  have x3 := own_later x2 hb3
  have z3 : B ≤ W3.heap.size := Nat.le_trans z2 hb3.size
  go_simp
  refine hK _ _ ⟨s3, ?_⟩
  clear hK K
  refine wpAnyH_all (rs := [6]) (by kernel_rfl) (by simp) (fun j hj => ?_)
  rw [List.mem_singleton] at hj
  subst hj
  refine wpOp_step rfl (fun K hK => ?_)
  obtain ⟨ya, yk, e5, yr⟩ := Rd.of_own o5
  subst e5
  refine step_app rfl (.tmp 6) (.tmp 9) 25 rfl B 5 (.int .u8 0) 1 1 Tlv.byT v2 _ _ rfl x3 ya _ yk _ rfl yr (byV_one _) (by unfold maxLen; omega) (by omega) z3 ?_
  intro a6 k6 W4 x4 hg6 hb4 _
  have s4 := s3.turn hb4 z1
  have z4 : B ≤ W4.heap.size := Nat.le_trans z3 hb4.size
  clear hg6
  refine hK _ _ ⟨s4, ?_⟩
  clear hK K
  refine wpAnyH_take (i := 7) (v := .slice a6 (V1.length + V2.length) k6) rfl (by kernel_rfl) (by kernel_rfl) (by kernel_rfl) (fun _ _ _ h => h) (Or.inl ⟨by kernel_rfl, by intro _ _; kernel_rfl⟩) s4 ?_
  go_simp
  refine wpAnyH_done (by kernel_rfl) ?_ _
  obtain ⟨c0, c1, c2, c3, c4, c5, c6, c7, c8, -⟩ := rbox_all s4.o
  have hob := rOpBytes_any r.op c W4 (ho.later s4.bel) hm
  unfold OV.val at hob
  go_wp2_with fail
  refine hob.mono ?_
  rintro e W5 ⟨v7, rfl, o7, hb5⟩
  rw [HOB.out] at o7
  have s5 := s4.step hb5
  have x5 := own_later x4 hb5
  have z5 := Nat.le_trans z4 hb5.size
  obtain ⟨qa, qk, e7, qr⟩ := Rd.of_own o7
  subst e7
  clear c0 c1 c2 c3 c4 c5 c6 c7 c8 hob
  go_wp2_with fail
  refine (rvalue_any 3 OB qa _ qk W5 lO qr).mono ?_
  rintro e W6 ⟨v8, rfl, o8, hb6⟩
  rw [HV3.out] at o8
  have s6 := s5.step hb6
  have x6 := own_later x5 hb6
  have z6 := Nat.le_trans z5 hb6.size
  obtain ⟨ta, tk, e8, tr⟩ := Rd.of_own o8
  subst e8
  go_wp2_with (at_builtin; refine wpList_app _ rfl (.tmp 11) (.tmp 15) 25 rfl B 5 (.int .u8 0) 1 1 Tlv.byT (.slice a6 (V1.length + V2.length) k6) _ _ rfl x6 ta _ tk _ rfl tr (byV_one _) (by unfold maxLen; omega) (by omega) z6 ?_; intro a9 k9 W7 x7 _ hb7 _)
  have s7 := s6.turn hb7 z1
  go_ret
  refine ⟨_, rfl, own_base ?_ (Nat.le_of_lt z1), s7.bel⟩
  rw [HZ.out]
  simp only [List.length_append, byV_app]
  exact x7
end Go.Proofs.YtgeafnggodkpaaaGreat.Msg
