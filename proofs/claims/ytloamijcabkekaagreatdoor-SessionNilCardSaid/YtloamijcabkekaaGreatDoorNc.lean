/-
  Messages: all fields.
-/
import Derived.Test.YtloamijcabkekaaGreatDoorNb
import Derived.Test.YtloamijcabkekaaGreatDoorLj
namespace Go.Proofs.YtloamijcabkekaaGreatDoor.Msg
open Go.RowKit Go.Lib Go.Proofs.YtloamijcabkekaaGreatDoor.Mem

/-- All fields, by their tags; t0 .. t7: where the numbers' tags lie. -/
def allL (t0 t1 t2 t3 t4 t5 t6 t7 : Nat) : List FV := [
  plainF 118 t0 (t0 + 1),
  plainF 110 t1 (t1 + 1),
  ⟨102, .func (.func 122) #[] #[], .func (.func 123) #[] #[], .func (.func 124) #[] #[]⟩,
  plainF 99 t2 (t2 + 1),
  plainF 117 t3 (t3 + 1),
  ⟨113, .func (.func 125) #[] #[], .func (.func 126) #[] #[], .func (.func 128) #[] #[]⟩,
  ⟨114, .func (.func 131) #[] #[], .func (.func 132) #[] #[], .func (.func 134) #[] #[]⟩,
  plainF 97 t4 (t4 + 1),
  plainF 109 t5 (t5 + 1),
  plainF 98 t6 (t6 + 1),
  ⟨115, .func (.func 136) #[] #[], .func (.func 137) #[] #[], .func (.func 138) #[] #[]⟩,
  ⟨108, .func (.func 139) #[] #[], .func (.func 140) #[] #[], .func (.func 142) #[] #[]⟩,
  plainF 111 t7 (t7 + 1),
  ⟨119, .func (.func 145) #[] #[], .func (.func 146) #[] #[], .func (.func 147) #[] #[]⟩,
  ⟨101, .func (.func 149) #[] #[], .func (.func 150) #[] #[], .func (.func 152) #[] #[]⟩]
/-- The numbers' boxes. -/
structure AllAt (t0 t1 t2 t3 t4 t5 t6 t7 : Nat) (W : World) : Prop where
  a0 : plainAt W 2 (.func (.func 102) #[] #[]) t0 (t0 + 1)
  a1 : plainAt W 3 (.func (.func 103) #[] #[]) t1 (t1 + 1)
  a2 : plainAt W 5 (.func (.func 104) #[] #[]) t2 (t2 + 1)
  a3 : plainAt W 6 (.func (.func 105) #[] #[]) t3 (t3 + 1)
  a4 : plainAt W 9 (.func (.func 106) #[] #[]) t4 (t4 + 1)
  a5 : plainAt W 10 (.func (.func 107) #[] #[]) t5 (t5 + 1)
  a6 : plainAt W 11 (.func (.func 108) #[] #[]) t6 (t6 + 1)
  a7 : plainAt W 14 (.func (.func 109) #[] #[]) t7 (t7 + 1)
theorem AllAt.later {t0 t1 t2 t3 t4 t5 t6 t7 : Nat} {W W' : World} (h : AllAt t0 t1 t2 t3 t4 t5 t6 t7 W) (hb : Below W.heap.size W W') : AllAt t0 t1 t2 t3 t4 t5 t6 t7 W' :=
  ⟨h.a0.later hb, h.a1.later hb, h.a2.later hb, h.a3.later hb, h.a4.later hb, h.a5.later hb, h.a6.later hb, h.a7.later hb⟩
def PRow (pb : Nat) (W : World) : Prop := W.heap[pb]? = some (.cells (fV partsL).toArray 118)
theorem PRow.step {pb : Nat} {W W' : World} (h : PRow pb W) (hb : Below W.heap.size W W') : PRow pb W' := (hb.block _ (Array.getElem?_eq_some_iff.1 h).1).trans h
theorem prow_at {pb : Nat} {W : World} (h : PRow pb W) (j : Nat) (v : Value) (hv : (fV partsL)[j]? = some v) : W.cell? ⟨pb, j, none⟩ = some v := by
  unfold PRow at h
  simp [World.cell?, h, hv]

set_option maxRecDepth 100000 in
set_option maxHeartbeats 20000000 in
theorem all_any (w : World) : Calls Tryz.prog 79 #[] w fun e w' => ∃ b t0 t1 t2 t3 t4 t5 t6 t7, e = .returned (.slice (some ⟨b, 0, none⟩) 15 15) ∧ w'.heap[b]? = some (.cells (fV (allL t0 t1 t2 t3 t4 t5 t6 t7)).toArray 118) ∧ AllAt t0 t1 t2 t3 t4 t5 t6 t7 w' ∧ Below w.heap.size w w' ∧ w.heap.size ≤ b := by
  have hmo : Tryz.prog.follows .mixedOrders = true := by kernel_rfl
  go_enter Tryz.func79, Tryz.ntmps79
  go_wp2_with fail
  refine (parts_lay w).mono ?_
  rintro e w1 ⟨rfl, hp, hb1⟩
  obtain ⟨pb, hpb⟩ : ∃ pb, w.heap.size = pb := ⟨_, rfl⟩
  have s0 : PRow pb w1.drew := hpb ▸ hp
  rw [hpb]
  clear hp
  go_wp2_with fail
  refine wp_region_held (S := PRow pb) hmo ?_
  change wpAnyH _ _ _ _ _ _ _ _ (World.drew w1)
  replace hb1 := hb1.drew
  generalize w1.drew = V0 at *
  refine wpAnyH_take (i := 2) (v := .slice (some ⟨pb, 0, none⟩) 7 7) rfl (by kernel_rfl) (by kernel_rfl) (by kernel_rfl) (fun _ _ _ h => h) (Or.inl ⟨by kernel_rfl, by intro _ _; kernel_rfl⟩) s0 ?_
  go_simp
  refine wpAnyH_take (i := 3) (v := .pointer (some ⟨pb, 0, none⟩)) rfl (by kernel_rfl) (by kernel_rfl) (by kernel_rfl) (fun _ _ _ h => h) (Or.inl ⟨by kernel_rfl, by rintro w h; go_simp⟩) s0 ?_
  go_simp
  refine wpAnyH_take (i := 4) (v := .agg #[.int .i32 102, .func (.func 122) #[] #[], .func (.func 123) #[] #[], .func (.func 124) #[] #[]]) rfl (by kernel_rfl) (by kernel_rfl) (by kernel_rfl) (fun _ _ _ h => h) (Or.inl ⟨by kernel_rfl, by rintro w h; have c0 := prow_at h 0 _ rfl; have c1 := prow_at h 1 _ rfl; have c2 := prow_at h 2 _ rfl; have c3 := prow_at h 3 _ rfl; go_simp⟩) s0 ?_
  go_simp
  refine wpAnyH_take (i := 7) (v := .slice (some ⟨pb, 0, none⟩) 7 7) rfl (by kernel_rfl) (by kernel_rfl) (by kernel_rfl) (fun _ _ _ h => h) (Or.inl ⟨by kernel_rfl, by intro _ _; kernel_rfl⟩) s0 ?_
  go_simp
  refine wpAnyH_take (i := 8) (v := .pointer (some ⟨pb, 4, none⟩)) rfl (by kernel_rfl) (by kernel_rfl) (by kernel_rfl) (fun _ _ _ h => h) (Or.inl ⟨by kernel_rfl, by rintro w h; go_simp⟩) s0 ?_
  go_simp
  refine wpAnyH_take (i := 9) (v := .agg #[.int .i32 113, .func (.func 125) #[] #[], .func (.func 126) #[] #[], .func (.func 128) #[] #[]]) rfl (by kernel_rfl) (by kernel_rfl) (by kernel_rfl) (fun _ _ _ h => h) (Or.inl ⟨by kernel_rfl, by rintro w h; have c0 := prow_at h 4 _ rfl; have c1 := prow_at h 5 _ rfl; have c2 := prow_at h 6 _ rfl; have c3 := prow_at h 7 _ rfl; go_simp⟩) s0 ?_
  go_simp
  refine wpAnyH_take (i := 10) (v := .slice (some ⟨pb, 0, none⟩) 7 7) rfl (by kernel_rfl) (by kernel_rfl) (by kernel_rfl) (fun _ _ _ h => h) (Or.inl ⟨by kernel_rfl, by intro _ _; kernel_rfl⟩) s0 ?_
  go_simp
  refine wpAnyH_take (i := 11) (v := .pointer (some ⟨pb, 8, none⟩)) rfl (by kernel_rfl) (by kernel_rfl) (by kernel_rfl) (fun _ _ _ h => h) (Or.inl ⟨by kernel_rfl, by rintro w h; go_simp⟩) s0 ?_
  go_simp
  refine wpAnyH_take (i := 12) (v := .agg #[.int .i32 114, .func (.func 131) #[] #[], .func (.func 132) #[] #[], .func (.func 134) #[] #[]]) rfl (by kernel_rfl) (by kernel_rfl) (by kernel_rfl) (fun _ _ _ h => h) (Or.inl ⟨by kernel_rfl, by rintro w h; have c0 := prow_at h 8 _ rfl; have c1 := prow_at h 9 _ rfl; have c2 := prow_at h 10 _ rfl; have c3 := prow_at h 11 _ rfl; go_simp⟩) s0 ?_
  go_simp
  refine wpAnyH_take (i := 16) (v := .slice (some ⟨pb, 0, none⟩) 7 7) rfl (by kernel_rfl) (by kernel_rfl) (by kernel_rfl) (fun _ _ _ h => h) (Or.inl ⟨by kernel_rfl, by intro _ _; kernel_rfl⟩) s0 ?_
  go_simp
  refine wpAnyH_take (i := 17) (v := .pointer (some ⟨pb, 12, none⟩)) rfl (by kernel_rfl) (by kernel_rfl) (by kernel_rfl) (fun _ _ _ h => h) (Or.inl ⟨by kernel_rfl, by rintro w h; go_simp⟩) s0 ?_
  go_simp
  refine wpAnyH_take (i := 18) (v := .agg #[.int .i32 115, .func (.func 136) #[] #[], .func (.func 137) #[] #[], .func (.func 138) #[] #[]]) rfl (by kernel_rfl) (by kernel_rfl) (by kernel_rfl) (fun _ _ _ h => h) (Or.inl ⟨by kernel_rfl, by rintro w h; have c0 := prow_at h 12 _ rfl; have c1 := prow_at h 13 _ rfl; have c2 := prow_at h 14 _ rfl; have c3 := prow_at h 15 _ rfl; go_simp⟩) s0 ?_
  go_simp
  refine wpAnyH_take (i := 19) (v := .slice (some ⟨pb, 0, none⟩) 7 7) rfl (by kernel_rfl) (by kernel_rfl) (by kernel_rfl) (fun _ _ _ h => h) (Or.inl ⟨by kernel_rfl, by intro _ _; kernel_rfl⟩) s0 ?_
  go_simp
  refine wpAnyH_take (i := 20) (v := .pointer (some ⟨pb, 16, none⟩)) rfl (by kernel_rfl) (by kernel_rfl) (by kernel_rfl) (fun _ _ _ h => h) (Or.inl ⟨by kernel_rfl, by rintro w h; go_simp⟩) s0 ?_
  go_simp
  refine wpAnyH_take (i := 21) (v := .agg #[.int .i32 108, .func (.func 139) #[] #[], .func (.func 140) #[] #[], .func (.func 142) #[] #[]]) rfl (by kernel_rfl) (by kernel_rfl) (by kernel_rfl) (fun _ _ _ h => h) (Or.inl ⟨by kernel_rfl, by rintro w h; have c0 := prow_at h 16 _ rfl; have c1 := prow_at h 17 _ rfl; have c2 := prow_at h 18 _ rfl; have c3 := prow_at h 19 _ rfl; go_simp⟩) s0 ?_
  go_simp
  refine wpAnyH_take (i := 23) (v := .slice (some ⟨pb, 0, none⟩) 7 7) rfl (by kernel_rfl) (by kernel_rfl) (by kernel_rfl) (fun _ _ _ h => h) (Or.inl ⟨by kernel_rfl, by intro _ _; kernel_rfl⟩) s0 ?_
  go_simp
  refine wpAnyH_take (i := 24) (v := .pointer (some ⟨pb, 20, none⟩)) rfl (by kernel_rfl) (by kernel_rfl) (by kernel_rfl) (fun _ _ _ h => h) (Or.inl ⟨by kernel_rfl, by rintro w h; go_simp⟩) s0 ?_
  go_simp
  refine wpAnyH_take (i := 25) (v := .agg #[.int .i32 119, .func (.func 145) #[] #[], .func (.func 146) #[] #[], .func (.func 147) #[] #[]]) rfl (by kernel_rfl) (by kernel_rfl) (by kernel_rfl) (fun _ _ _ h => h) (Or.inl ⟨by kernel_rfl, by rintro w h; have c0 := prow_at h 20 _ rfl; have c1 := prow_at h 21 _ rfl; have c2 := prow_at h 22 _ rfl; have c3 := prow_at h 23 _ rfl; go_simp⟩) s0 ?_
  go_simp
  refine wpAnyH_take (i := 26) (v := .slice (some ⟨pb, 0, none⟩) 7 7) rfl (by kernel_rfl) (by kernel_rfl) (by kernel_rfl) (fun _ _ _ h => h) (Or.inl ⟨by kernel_rfl, by intro _ _; kernel_rfl⟩) s0 ?_
  go_simp
  refine wpAnyH_take (i := 27) (v := .pointer (some ⟨pb, 24, none⟩)) rfl (by kernel_rfl) (by kernel_rfl) (by kernel_rfl) (fun _ _ _ h => h) (Or.inl ⟨by kernel_rfl, by rintro w h; go_simp⟩) s0 ?_
  go_simp
  refine wpAnyH_take (i := 28) (v := .agg #[.int .i32 101, .func (.func 149) #[] #[], .func (.func 150) #[] #[], .func (.func 152) #[] #[]]) rfl (by kernel_rfl) (by kernel_rfl) (by kernel_rfl) (fun _ _ _ h => h) (Or.inl ⟨by kernel_rfl, by rintro w h; have c0 := prow_at h 24 _ rfl; have c1 := prow_at h 25 _ rfl; have c2 := prow_at h 26 _ rfl; have c3 := prow_at h 27 _ rfl; go_simp⟩) s0 ?_
  go_simp
  refine wpAnyH_all (rs := [0]) (by kernel_rfl) (by simp) (fun j hj => ?_)
  rw [List.mem_singleton] at hj
  subst hj
  refine wpOp_step rfl (fun K hK => ?_)
  go_simp
  refine (plain_any 118 2 102 V0).mono ?_
  rintro e V1 ⟨rfl, p0, k0, -⟩
  have s1 := s0.step k0
  obtain ⟨t0, ht0⟩ : ∃ t, V0.heap.size = t := ⟨_, rfl⟩
  rw [ht0] at p0
  simp only [FV.val, FV.cells, plainF, ht0]
  clear ht0
  go_simp
  refine hK _ _ ⟨s1, ?_⟩
  clear hK K
  refine wpAnyH_all (rs := [1]) (by kernel_rfl) (by simp) (fun j hj => ?_)
  rw [List.mem_singleton] at hj
  subst hj
  refine wpOp_step rfl (fun K hK => ?_)
  go_simp
  refine (plain_any 110 3 103 V1).mono ?_
  rintro e V2 ⟨rfl, p1, k1, -⟩
  have s2 := s1.step k1
  obtain ⟨t1, ht1⟩ : ∃ t, V1.heap.size = t := ⟨_, rfl⟩
  rw [ht1] at p1
  simp only [FV.val, FV.cells, plainF, ht1]
  clear ht1
  go_simp
  refine hK _ _ ⟨s2, ?_⟩
  clear hK K
  refine wpAnyH_all (rs := [5]) (by kernel_rfl) (by simp) (fun j hj => ?_)
  rw [List.mem_singleton] at hj
  subst hj
  refine wpOp_step rfl (fun K hK => ?_)
  go_simp
  refine (plain_any 99 5 104 V2).mono ?_
  rintro e V3 ⟨rfl, p2, k2, -⟩
  have s3 := s2.step k2
  obtain ⟨t2, ht2⟩ : ∃ t, V2.heap.size = t := ⟨_, rfl⟩
  rw [ht2] at p2
  simp only [FV.val, FV.cells, plainF, ht2]
  clear ht2
  go_simp
  refine hK _ _ ⟨s3, ?_⟩
  clear hK K
  refine wpAnyH_all (rs := [6]) (by kernel_rfl) (by simp) (fun j hj => ?_)
  rw [List.mem_singleton] at hj
  subst hj
  refine wpOp_step rfl (fun K hK => ?_)
  go_simp
  refine (plain_any 117 6 105 V3).mono ?_
  rintro e V4 ⟨rfl, p3, k3, -⟩
  have s4 := s3.step k3
  obtain ⟨t3, ht3⟩ : ∃ t, V3.heap.size = t := ⟨_, rfl⟩
  rw [ht3] at p3
  simp only [FV.val, FV.cells, plainF, ht3]
  clear ht3
  go_simp
  refine hK _ _ ⟨s4, ?_⟩
  clear hK K
  refine wpAnyH_all (rs := [13]) (by kernel_rfl) (by simp) (fun j hj => ?_)
  rw [List.mem_singleton] at hj
  subst hj
  refine wpOp_step rfl (fun K hK => ?_)
  go_simp
  refine (plain_any 97 9 106 V4).mono ?_
  rintro e V5 ⟨rfl, p4, k4, -⟩
  have s5 := s4.step k4
  obtain ⟨t4, ht4⟩ : ∃ t, V4.heap.size = t := ⟨_, rfl⟩
  rw [ht4] at p4
  simp only [FV.val, FV.cells, plainF, ht4]
  clear ht4
  go_simp
  refine hK _ _ ⟨s5, ?_⟩
  clear hK K
  refine wpAnyH_all (rs := [14]) (by kernel_rfl) (by simp) (fun j hj => ?_)
  rw [List.mem_singleton] at hj
  subst hj
  refine wpOp_step rfl (fun K hK => ?_)
  go_simp
  refine (plain_any 109 10 107 V5).mono ?_
  rintro e V6 ⟨rfl, p5, k5, -⟩
  have s6 := s5.step k5
  obtain ⟨t5, ht5⟩ : ∃ t, V5.heap.size = t := ⟨_, rfl⟩
  rw [ht5] at p5
  simp only [FV.val, FV.cells, plainF, ht5]
  clear ht5
  go_simp
  refine hK _ _ ⟨s6, ?_⟩
  clear hK K
  refine wpAnyH_all (rs := [15]) (by kernel_rfl) (by simp) (fun j hj => ?_)
  rw [List.mem_singleton] at hj
  subst hj
  refine wpOp_step rfl (fun K hK => ?_)
  go_simp
  refine (plain_any 98 11 108 V6).mono ?_
  rintro e V7 ⟨rfl, p6, k6, -⟩
  have s7 := s6.step k6
  obtain ⟨t6, ht6⟩ : ∃ t, V6.heap.size = t := ⟨_, rfl⟩
  rw [ht6] at p6
  simp only [FV.val, FV.cells, plainF, ht6]
  clear ht6
  go_simp
  refine hK _ _ ⟨s7, ?_⟩
  clear hK K
  refine wpAnyH_all (rs := [22]) (by kernel_rfl) (by simp) (fun j hj => ?_)
  rw [List.mem_singleton] at hj
  subst hj
  refine wpOp_step rfl (fun K hK => ?_)
  go_simp
  refine (plain_any 111 14 109 V7).mono ?_
  rintro e V8 ⟨rfl, p7, k7, -⟩
  have s8 := s7.step k7
  obtain ⟨t7, ht7⟩ : ∃ t, V7.heap.size = t := ⟨_, rfl⟩
  rw [ht7] at p7
  simp only [FV.val, FV.cells, plainF, ht7]
  clear ht7
  go_simp
  refine hK _ _ ⟨s8, ?_⟩
  clear hK K
  refine wpAnyH_all (rs := [29]) (by kernel_rfl) (by simp) (fun j hj => ?_)
  rw [List.mem_singleton] at hj
  subst hj
  refine wpOp_step rfl (fun K hK => ?_)
  go_simp
  generalize hg : V8.alloc _ = V9
  have e : V8.alloc (.cells (fV (allL t0 t1 t2 t3 t4 t5 t6 t7)).toArray 118) = V9 := by simp only [fV, allL, plainF, FV.cells, List.flatMap_cons, List.flatMap_nil, List.cons_append, List.nil_append, List.append_nil]; exact hg
  have hb9 : Below V8.heap.size V8 V9 := by rw [← e]; exact (Below.refl _ _).alloc (Nat.le_refl _) _
  have hk9 : V9.heap[V8.heap.size]? = some (.cells (fV (allL t0 t1 t2 t3 t4 t5 t6 t7)).toArray 118) := by rw [← e]; show (V8.heap.push _)[V8.heap.size]? = some _; exact Array.getElem?_push_size
  clear hg e
  have s9 := s8.step hb9
  refine hK _ _ ⟨s9, ?_⟩
  clear hK K
  refine wpAnyH_take (i := 30) (v := .slice (some ⟨V8.heap.size, 0, none⟩) 15 15) rfl (by kernel_rfl) (by kernel_rfl) (by kernel_rfl) (fun _ _ _ h => h) (Or.inl ⟨by kernel_rfl, by intro _ _; kernel_rfl⟩) s9 ?_
  go_simp
  refine wpAnyH_done (by kernel_rfl) ?_ _
  have hA : AllAt t0 t1 t2 t3 t4 t5 t6 t7 V9 := ⟨((((((((p0.later k1).later k2).later k3).later k4).later k5).later k6).later k7).later hb9), (((((((p1.later k2).later k3).later k4).later k5).later k6).later k7).later hb9), ((((((p2.later k3).later k4).later k5).later k6).later k7).later hb9), (((((p3.later k4).later k5).later k6).later k7).later hb9), ((((p4.later k5).later k6).later k7).later hb9), (((p5.later k6).later k7).later hb9), ((p6.later k7).later hb9), (p7.later hb9)⟩
  have hB : Below w.heap.size w V9 := ((((((((((hb1).trans (k0.mono (by have := hb1.size;  omega))).trans (k1.mono (by have := hb1.size; have := k0.size;  omega))).trans (k2.mono (by have := hb1.size; have := k0.size; have := k1.size;  omega))).trans (k3.mono (by have := hb1.size; have := k0.size; have := k1.size; have := k2.size;  omega))).trans (k4.mono (by have := hb1.size; have := k0.size; have := k1.size; have := k2.size; have := k3.size;  omega))).trans (k5.mono (by have := hb1.size; have := k0.size; have := k1.size; have := k2.size; have := k3.size; have := k4.size;  omega))).trans (k6.mono (by have := hb1.size; have := k0.size; have := k1.size; have := k2.size; have := k3.size; have := k4.size; have := k5.size;  omega))).trans (k7.mono (by have := hb1.size; have := k0.size; have := k1.size; have := k2.size; have := k3.size; have := k4.size; have := k5.size; have := k6.size;  omega))).trans (hb9.mono (by have := hb1.size; have := k0.size; have := k1.size; have := k2.size; have := k3.size; have := k4.size; have := k5.size; have := k6.size; have := k7.size;  omega)))
  have hsz : w.heap.size ≤ V8.heap.size := by have := hb1.size; have := k0.size; have := k1.size; have := k2.size; have := k3.size; have := k4.size; have := k5.size; have := k6.size; have := k7.size;  omega
  go_wp2_with fail
  go_ret
  exact ⟨_, t0, t1, t2, t3, t4, t5, t6, t7, rfl, hk9, hA, hB, hsz⟩
end Go.Proofs.YtloamijcabkekaaGreatDoor.Msg
