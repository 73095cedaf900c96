/-
  A part of the proof: what this text holds is told at each of its declarations.
-/
import Derived.Test.YtgeafnggodkpaaaGreatZabs
import Derived.Test.YtgeafnggodkpaaaGreatZabt
import Derived.Test.YtgeafnggodkpaaaGreatZaan
import Derived.Test.YtgeafnggodkpaaaGreatZaar
namespace Go.Proofs.YtgeafnggodkpaaaGreat.Msg
open Go.RowKit Go.Lib Go.Proofs.YtgeafnggodkpaaaGreat.Mem Go.Proofs.YtgeafnggodkpaaaGreat.Tlv

/-- A message of any cells. -/
def msgO (cs : Array Value) : Obj := .cells cs 74
theorem msgO_cell {W : World} {B : Nat} {cs : Array Value} (h : W.heap[B]? = some (msgO cs)) (i : Nat) (v : Value) (hv : cs[i]? = some v) : W.cell? ⟨B, i, none⟩ = some v := by
  unfold msgO at h
  simp [World.cell?, h, hv]
theorem msgO_frozen {W : World} {B : Nat} {cs : Array Value} (h : W.heap[B]? = some (msgO cs)) (i : Nat) : W.frozen? ⟨B, i, none⟩ = false := by
  unfold msgO at h
  simp [World.frozen?, h]
/-- The worlds in which a function stands in its box, and a number in a message. -/
structure FnAt (ob : Nat) (ff : Value) (fb i : Nat) (x : Value) (W : World) : Prop where
  fn : W.heap[ob]? = some (.cells #[ff] 206)
  cell : W.cell? ⟨fb, i, none⟩ = some x
theorem FnAt.get {ob : Nat} {ff : Value} {fb i : Nat} {x : Value} {W : World} (h : FnAt ob ff fb i x W) : W.cell? ⟨ob, 0, none⟩ = some ff := by
  have := h.fn
  simp [World.cell?, this]
/-- .. and a tag. -/
structure TgAt (tb : Nat) (t : Int) (ob : Nat) (ff : Value) (fb i : Nat) (x : Value) (W : World) : Prop where
  fn : W.heap[ob]? = some (.cells #[ff] 206)
  cell : W.cell? ⟨fb, i, none⟩ = some x
  tag : W.heap[tb]? = some (.cells #[.int .u8 t] 5)
theorem TgAt.get {tb : Nat} {t : Int} {ob : Nat} {ff : Value} {fb i : Nat} {x : Value} {W : World} (h : TgAt tb t ob ff fb i x W) : W.cell? ⟨ob, 0, none⟩ = some ff ∧ W.cell? ⟨tb, 0, none⟩ = some (.int .u8 t) := by
  have h1 := h.fn
  have h2 := h.tag
  simp [World.cell?, h1, h2]

theorem allp1 (b : Nat) (w : World) : Calls Tryz.prog 167 #[.pointer (some ⟨b, 0, none⟩)] w fun e w' => e = .returned (.pointer (some ⟨b, 1, none⟩)) ∧ w = w' := by
  go_enter Tryz.func167, Tryz.ntmps167
  go_wp2
  go_ret
  exact ⟨rfl, rfl⟩

set_option maxRecDepth 100000 in
set_option maxHeartbeats 2000000 in
theorem keepP1 (B tb fb ob : Nat) (cs0 cs : Array Value) (n : Int) (y0 : Value) (w : World) (h0 : w.heap[tb]? = some (msgO cs0)) (h1 : w.heap[fb]? = some (msgO cs)) (hx : cs[1]? = some (.int .u64 n)) (hy : cs0[1]? = some y0)
    (hf : w.heap[ob]? = some (.cells #[.func (.func 167) #[] #[]] 206)) (hB : B ≤ tb) :
    Calls Tryz.prog 207 #[.pointer (some ⟨tb, 0, none⟩), .pointer (some ⟨fb, 0, none⟩), .pointer (some ⟨ob, 0, none⟩)] w fun e w' => e = .returned (.tuple #[]) ∧ w'.heap[tb]? = some (msgO (cs0.setIfInBounds 1 (.int .u64 n))) ∧ Oth B tb w w' := by
  have hmo : Tryz.prog.follows .mixedOrders = true := by kernel_rfl
  have hd : Below w.heap.size w w.drew := (Below.refl _ _).drew
  have s0 : FnAt ob (.func (.func 167) #[] #[]) fb 1 (.int .u64 n) w.drew := ⟨hf, msgO_cell h1 1 _ hx⟩
  have c9 : w.drew.cell? ⟨tb, 1, none⟩ = some y0 := msgO_cell (W := w.drew) h0 1 y0 hy
  have z9 : w.drew.frozen? ⟨tb, 1, none⟩ = false := msgO_frozen (W := w.drew) h0 1
  have hO : Oth B tb w (w.drew.setCell ⟨tb, 1, none⟩ (.int .u64 n)) := ((Oth.refl B tb w).later (Nat.le_trans hB (Nat.le_of_lt (Array.getElem?_eq_some_iff.1 h0).1)) hd).set hB _ _
  have hS : (w.drew.setCell ⟨tb, 1, none⟩ (.int .u64 n)).heap[tb]? = some (msgO (cs0.setIfInBounds 1 (.int .u64 n))) := at_set (W := w.drew) h0
  go_enter Tryz.func207, Tryz.ntmps207
  go_upto_region 0 with fail
  refine wp_region_T (k := 9) (S := FnAt ob (.func (.func 167) #[] #[]) fb 1 (.int .u64 n)) hmo ?_
  change wpAnyT _ _ _ _ _ _ _ _ _ (World.drew w)
  generalize World.drew w = W0 at *
  refine wpAnyT_take (i := 0) (v := .func (.func 167) #[] #[]) rfl (by kernel_rfl) (by kernel_rfl) (by kernel_rfl) (by kernel_rfl) (by decide) (by kernel_rfl) (by kernel_rfl) (fun _ _ _ h => h) (Or.inl ⟨by kernel_rfl, by rintro w h; have c0 := h.get; have d0 := h.cell; go_simp⟩) s0 ?_
  go_simp
  refine wpAnyT_take (i := 1) (v := .pointer (some ⟨tb, 0, none⟩)) rfl (by kernel_rfl) (by kernel_rfl) (by kernel_rfl) (by kernel_rfl) (by decide) (by kernel_rfl) (by kernel_rfl) (fun _ _ _ h => h) (Or.inl ⟨by kernel_rfl, by intro _ _; kernel_rfl⟩) s0 ?_
  go_simp
  refine wpAnyT_take (i := 3) (v := .func (.func 167) #[] #[]) rfl (by kernel_rfl) (by kernel_rfl) (by kernel_rfl) (by kernel_rfl) (by decide) (by kernel_rfl) (by kernel_rfl) (fun _ _ _ h => h) (Or.inl ⟨by kernel_rfl, by rintro w h; have c0 := h.get; have d0 := h.cell; go_simp⟩) s0 ?_
  go_simp
  refine wpAnyT_take (i := 4) (v := .pointer (some ⟨fb, 0, none⟩)) rfl (by kernel_rfl) (by kernel_rfl) (by kernel_rfl) (by kernel_rfl) (by decide) (by kernel_rfl) (by kernel_rfl) (fun _ _ _ h => h) (Or.inl ⟨by kernel_rfl, by intro _ _; kernel_rfl⟩) s0 ?_
  go_simp
  refine wpAnyT_all (rs := [2]) (by kernel_rfl) (by simp) (fun j hj => ?_)
  rw [List.mem_singleton] at hj
  subst hj
  refine wpOp_step rfl (fun K hK => ?_)
  go_simp
  refine (allp1 tb W0).mono ?_
  rintro e _ ⟨rfl, rfl⟩
  go_simp
  refine hK _ _ ⟨.inr s0, ?_⟩
  clear hK K
  refine wpAnyT_all (rs := [5]) (by kernel_rfl) (by simp) (fun j hj => ?_)
  rw [List.mem_singleton] at hj
  subst hj
  refine wpOp_step rfl (fun K hK => ?_)
  go_simp
  refine (allp1 fb W0).mono ?_
  rintro e _ ⟨rfl, rfl⟩
  go_simp
  refine hK _ _ ⟨.inr s0, ?_⟩
  clear hK K
  refine wpAnyT_take (i := 6) (v := .pointer (some ⟨fb, 1, none⟩)) rfl (by kernel_rfl) (by kernel_rfl) (by kernel_rfl) (by kernel_rfl) (by decide) (by kernel_rfl) (by kernel_rfl) (fun _ _ _ h => h) (Or.inl ⟨by kernel_rfl, by intro _ _; kernel_rfl⟩) s0 ?_
  go_simp
  refine wpAnyT_take (i := 7) (v := .int .u64 n) rfl (by kernel_rfl) (by kernel_rfl) (by kernel_rfl) (by kernel_rfl) (by decide) (by kernel_rfl) (by kernel_rfl) (fun _ _ _ h => h) (Or.inl ⟨by kernel_rfl, by rintro w h; have c0 := h.get; have d0 := h.cell; go_simp⟩) s0 ?_
  go_simp
  refine wpAnyT_take (i := 8) (v := .pointer (some ⟨tb, 1, none⟩)) rfl (by kernel_rfl) (by kernel_rfl) (by kernel_rfl) (by kernel_rfl) (by decide) (by kernel_rfl) (by kernel_rfl) (fun _ _ _ h => h) (Or.inl ⟨by kernel_rfl, by intro _ _; kernel_rfl⟩) s0 ?_
  go_simp
  refine wpAnyT_last (by kernel_rfl) (by kernel_rfl) ?_
  refine wpAny_all (rs := [9]) (by kernel_rfl) (by simp) (fun j hj => ?_)
  rw [List.mem_singleton] at hj
  subst hj
  refine wpOp_step rfl (fun K hK => ?_)
  go_simp
  go_simp
  refine hK _ _ ?_
  clear hK K
  refine wpAny_done (by kernel_rfl) ?_ _
  refine bodyPost_end (results_none rfl _ _ _) rfl ?_
  exact ⟨rfl, hS, hO⟩

set_option maxRecDepth 100000 in
set_option maxHeartbeats 2000000 in
theorem putP1 (B g fb tb ob : Nat) (l : List UInt8) (v : Value) (cs : Array Value) (n : Nat) (w : World) (hw : WrAt B g l 0 v w) (hl : l.length ≤ 100000000) (h1 : w.heap[fb]? = some (msgO cs)) (hx : cs[1]? = some (.int .u64 (n : Int)))
    (hf : plainAt w 2 (.func (.func 167) #[] #[]) tb ob) :
    Calls Tryz.prog 208 #[.pointer (some ⟨g, 0, none⟩), .pointer (some ⟨fb, 0, none⟩), .pointer (some ⟨tb, 0, none⟩), .pointer (some ⟨ob, 0, none⟩)] w fun e w' => e = .returned (.tuple #[]) ∧ ∃ v', WrAt B g (l ++ val 2 (num8 n)) 0 v' w' ∧ Below B w w' ∧ KeepW g v v' w w' := by
  have hmo : Tryz.prog.follows .mixedOrders = true := by kernel_rfl
  have hd : Below w.heap.size w w.drew := (Below.refl _ _).drew
  have s0 : TgAt tb 2 ob (.func (.func 167) #[] #[]) fb 1 (.int .u64 (n : Int)) w.drew := ⟨hf.2, msgO_cell h1 1 _ hx, hf.1⟩
  have hw0 := hw.later hd
  have hlt := hw.lt
  have hle := hw.le
  go_enter Tryz.func208, Tryz.ntmps208
  go_upto_region 0 with fail
  refine wp_region_T (k := 7) (S := TgAt tb 2 ob (.func (.func 167) #[] #[]) fb 1 (.int .u64 (n : Int))) hmo ?_
  change wpAnyT _ _ _ _ _ _ _ _ _ (World.drew w)
  generalize World.drew w = W0 at *
  refine wpAnyT_take (i := 0) (v := .pointer (some ⟨g, 0, none⟩)) rfl (by kernel_rfl) (by kernel_rfl) (by kernel_rfl) (by kernel_rfl) (by decide) (by kernel_rfl) (by kernel_rfl) (fun _ _ _ h => h) (Or.inl ⟨by kernel_rfl, by intro _ _; kernel_rfl⟩) s0 ?_
  go_simp
  refine wpAnyT_take (i := 1) (v := .int .u8 2) rfl (by kernel_rfl) (by kernel_rfl) (by kernel_rfl) (by kernel_rfl) (by decide) (by kernel_rfl) (by kernel_rfl) (fun _ _ _ h => h) (Or.inl ⟨by kernel_rfl, by rintro w h; obtain ⟨c0, c1⟩ := h.get; have d0 := h.cell; go_simp⟩) s0 ?_
  go_simp
  refine wpAnyT_take (i := 2) (v := .func (.func 167) #[] #[]) rfl (by kernel_rfl) (by kernel_rfl) (by kernel_rfl) (by kernel_rfl) (by decide) (by kernel_rfl) (by kernel_rfl) (fun _ _ _ h => h) (Or.inl ⟨by kernel_rfl, by rintro w h; obtain ⟨c0, c1⟩ := h.get; have d0 := h.cell; go_simp⟩) s0 ?_
  go_simp
  refine wpAnyT_take (i := 3) (v := .pointer (some ⟨fb, 0, none⟩)) rfl (by kernel_rfl) (by kernel_rfl) (by kernel_rfl) (by kernel_rfl) (by decide) (by kernel_rfl) (by kernel_rfl) (fun _ _ _ h => h) (Or.inl ⟨by kernel_rfl, by intro _ _; kernel_rfl⟩) s0 ?_
  go_simp
  refine wpAnyT_all (rs := [4]) (by kernel_rfl) (by simp) (fun j hj => ?_)
  rw [List.mem_singleton] at hj
  subst hj
  refine wpOp_step rfl (fun K hK => ?_)
  go_simp
  refine (allp1 fb W0).mono ?_
  rintro e _ ⟨rfl, rfl⟩
  go_simp
  refine hK _ _ ⟨.inr s0, ?_⟩
  clear hK K
  refine wpAnyT_take (i := 5) (v := .pointer (some ⟨fb, 1, none⟩)) rfl (by kernel_rfl) (by kernel_rfl) (by kernel_rfl) (by kernel_rfl) (by decide) (by kernel_rfl) (by kernel_rfl) (fun _ _ _ h => h) (Or.inl ⟨by kernel_rfl, by intro _ _; kernel_rfl⟩) s0 ?_
  go_simp
  refine wpAnyT_take (i := 6) (v := .int .u64 (n : Int)) rfl (by kernel_rfl) (by kernel_rfl) (by kernel_rfl) (by kernel_rfl) (by decide) (by kernel_rfl) (by kernel_rfl) (fun _ _ _ h => h) (Or.inl ⟨by kernel_rfl, by rintro w h; obtain ⟨c0, c1⟩ := h.get; have d0 := h.cell; go_simp⟩) s0 ?_
  go_simp
  refine wpAnyT_last (by kernel_rfl) (by kernel_rfl) ?_
  refine wpAny_all (rs := [7]) (by kernel_rfl) (by simp) (fun j hj => ?_)
  rw [List.mem_singleton] at hj
  subst hj
  refine wpOp_step rfl (fun K hK => ?_)
  go_simp
  refine (wnumber2 B g l v 2 n W0 hw0 (by decide) hl).mono ?_
  rintro e W1 ⟨rfl, v1, q1, q2, q3⟩
  go_simp
  refine hK _ _ ?_
  clear hK K
  refine wpAny_done (by kernel_rfl) ?_ _
  refine bodyPost_end (results_none rfl _ _ _) rfl ?_
  exact ⟨rfl, v1, q1, (hd.mono (by omega)).trans q2, q3.after hd⟩

theorem allp6 (b : Nat) (w : World) : Calls Tryz.prog 172 #[.pointer (some ⟨b, 0, none⟩)] w fun e w' => e = .returned (.pointer (some ⟨b, 20, none⟩)) ∧ w = w' := by
  go_enter Tryz.func172, Tryz.ntmps172
  go_wp2
  go_ret
  exact ⟨rfl, rfl⟩

set_option maxRecDepth 100000 in
set_option maxHeartbeats 2000000 in
theorem keepP6 (B tb fb ob : Nat) (cs0 cs : Array Value) (n : Int) (y0 : Value) (w : World) (h0 : w.heap[tb]? = some (msgO cs0)) (h1 : w.heap[fb]? = some (msgO cs)) (hx : cs[20]? = some (.int .u64 n)) (hy : cs0[20]? = some y0)
    (hf : w.heap[ob]? = some (.cells #[.func (.func 172) #[] #[]] 206)) (hB : B ≤ tb) :
    Calls Tryz.prog 207 #[.pointer (some ⟨tb, 0, none⟩), .pointer (some ⟨fb, 0, none⟩), .pointer (some ⟨ob, 0, none⟩)] w fun e w' => e = .returned (.tuple #[]) ∧ w'.heap[tb]? = some (msgO (cs0.setIfInBounds 20 (.int .u64 n))) ∧ Oth B tb w w' := by
  have hmo : Tryz.prog.follows .mixedOrders = true := by kernel_rfl
  have hd : Below w.heap.size w w.drew := (Below.refl _ _).drew
  have s0 : FnAt ob (.func (.func 172) #[] #[]) fb 20 (.int .u64 n) w.drew := ⟨hf, msgO_cell h1 20 _ hx⟩
  have c9 : w.drew.cell? ⟨tb, 20, none⟩ = some y0 := msgO_cell (W := w.drew) h0 20 y0 hy
  have z9 : w.drew.frozen? ⟨tb, 20, none⟩ = false := msgO_frozen (W := w.drew) h0 20
  have hO : Oth B tb w (w.drew.setCell ⟨tb, 20, none⟩ (.int .u64 n)) := ((Oth.refl B tb w).later (Nat.le_trans hB (Nat.le_of_lt (Array.getElem?_eq_some_iff.1 h0).1)) hd).set hB _ _
  have hS : (w.drew.setCell ⟨tb, 20, none⟩ (.int .u64 n)).heap[tb]? = some (msgO (cs0.setIfInBounds 20 (.int .u64 n))) := at_set (W := w.drew) h0
  go_enter Tryz.func207, Tryz.ntmps207
  go_upto_region 0 with fail
  refine wp_region_T (k := 9) (S := FnAt ob (.func (.func 172) #[] #[]) fb 20 (.int .u64 n)) hmo ?_
  change wpAnyT _ _ _ _ _ _ _ _ _ (World.drew w)
  generalize World.drew w = W0 at *
  refine wpAnyT_take (i := 0) (v := .func (.func 172) #[] #[]) rfl (by kernel_rfl) (by kernel_rfl) (by kernel_rfl) (by kernel_rfl) (by decide) (by kernel_rfl) (by kernel_rfl) (fun _ _ _ h => h) (Or.inl ⟨by kernel_rfl, by rintro w h; have c0 := h.get; have d0 := h.cell; go_simp⟩) s0 ?_
  go_simp
  refine wpAnyT_take (i := 1) (v := .pointer (some ⟨tb, 0, none⟩)) rfl (by kernel_rfl) (by kernel_rfl) (by kernel_rfl) (by kernel_rfl) (by decide) (by kernel_rfl) (by kernel_rfl) (fun _ _ _ h => h) (Or.inl ⟨by kernel_rfl, by intro _ _; kernel_rfl⟩) s0 ?_
  go_simp
  refine wpAnyT_take (i := 3) (v := .func (.func 172) #[] #[]) rfl (by kernel_rfl) (by kernel_rfl) (by kernel_rfl) (by kernel_rfl) (by decide) (by kernel_rfl) (by kernel_rfl) (fun _ _ _ h => h) (Or.inl ⟨by kernel_rfl, by rintro w h; have c0 := h.get; have d0 := h.cell; go_simp⟩) s0 ?_
  go_simp
  refine wpAnyT_take (i := 4) (v := .pointer (some ⟨fb, 0, none⟩)) rfl (by kernel_rfl) (by kernel_rfl) (by kernel_rfl) (by kernel_rfl) (by decide) (by kernel_rfl) (by kernel_rfl) (fun _ _ _ h => h) (Or.inl ⟨by kernel_rfl, by intro _ _; kernel_rfl⟩) s0 ?_
  go_simp
  refine wpAnyT_all (rs := [2]) (by kernel_rfl) (by simp) (fun j hj => ?_)
  rw [List.mem_singleton] at hj
  subst hj
  refine wpOp_step rfl (fun K hK => ?_)
  go_simp
  refine (allp6 tb W0).mono ?_
  rintro e _ ⟨rfl, rfl⟩
  go_simp
  refine hK _ _ ⟨.inr s0, ?_⟩
  clear hK K
  refine wpAnyT_all (rs := [5]) (by kernel_rfl) (by simp) (fun j hj => ?_)
  rw [List.mem_singleton] at hj
  subst hj
  refine wpOp_step rfl (fun K hK => ?_)
  go_simp
  refine (allp6 fb W0).mono ?_
  rintro e _ ⟨rfl, rfl⟩
  go_simp
  refine hK _ _ ⟨.inr s0, ?_⟩
  clear hK K
  refine wpAnyT_take (i := 6) (v := .pointer (some ⟨fb, 20, none⟩)) rfl (by kernel_rfl) (by kernel_rfl) (by kernel_rfl) (by kernel_rfl) (by decide) (by kernel_rfl) (by kernel_rfl) (fun _ _ _ h => h) (Or.inl ⟨by kernel_rfl, by intro _ _; kernel_rfl⟩) s0 ?_
  go_simp
  refine wpAnyT_take (i := 7) (v := .int .u64 n) rfl (by kernel_rfl) (by kernel_rfl) (by kernel_rfl) (by kernel_rfl) (by decide) (by kernel_rfl) (by kernel_rfl) (fun _ _ _ h => h) (Or.inl ⟨by kernel_rfl, by rintro w h; have c0 := h.get; have d0 := h.cell; go_simp⟩) s0 ?_
  go_simp
  refine wpAnyT_take (i := 8) (v := .pointer (some ⟨tb, 20, none⟩)) rfl (by kernel_rfl) (by kernel_rfl) (by kernel_rfl) (by kernel_rfl) (by decide) (by kernel_rfl) (by kernel_rfl) (fun _ _ _ h => h) (Or.inl ⟨by kernel_rfl, by intro _ _; kernel_rfl⟩) s0 ?_
  go_simp
  refine wpAnyT_last (by kernel_rfl) (by kernel_rfl) ?_
  refine wpAny_all (rs := [9]) (by kernel_rfl) (by simp) (fun j hj => ?_)
  rw [List.mem_singleton] at hj
  subst hj
  refine wpOp_step rfl (fun K hK => ?_)
  go_simp
  go_simp
  refine hK _ _ ?_
  clear hK K
  refine wpAny_done (by kernel_rfl) ?_ _
  refine bodyPost_end (results_none rfl _ _ _) rfl ?_
  exact ⟨rfl, hS, hO⟩

set_option maxRecDepth 100000 in
set_option maxHeartbeats 2000000 in
theorem putP6 (B g fb tb ob : Nat) (l : List UInt8) (v : Value) (cs : Array Value) (n : Nat) (w : World) (hw : WrAt B g l 0 v w) (hl : l.length ≤ 100000000) (h1 : w.heap[fb]? = some (msgO cs)) (hx : cs[20]? = some (.int .u64 (n : Int)))
    (hf : plainAt w 10 (.func (.func 172) #[] #[]) tb ob) :
    Calls Tryz.prog 208 #[.pointer (some ⟨g, 0, none⟩), .pointer (some ⟨fb, 0, none⟩), .pointer (some ⟨tb, 0, none⟩), .pointer (some ⟨ob, 0, none⟩)] w fun e w' => e = .returned (.tuple #[]) ∧ ∃ v', WrAt B g (l ++ val 10 (num8 n)) 0 v' w' ∧ Below B w w' ∧ KeepW g v v' w w' := by
  have hmo : Tryz.prog.follows .mixedOrders = true := by kernel_rfl
  have hd : Below w.heap.size w w.drew := (Below.refl _ _).drew
  have s0 : TgAt tb 10 ob (.func (.func 172) #[] #[]) fb 20 (.int .u64 (n : Int)) w.drew := ⟨hf.2, msgO_cell h1 20 _ hx, hf.1⟩
  have hw0 := hw.later hd
  have hlt := hw.lt
  have hle := hw.le
  go_enter Tryz.func208, Tryz.ntmps208
  go_upto_region 0 with fail
  refine wp_region_T (k := 7) (S := TgAt tb 10 ob (.func (.func 172) #[] #[]) fb 20 (.int .u64 (n : Int))) hmo ?_
  change wpAnyT _ _ _ _ _ _ _ _ _ (World.drew w)
  generalize World.drew w = W0 at *
  refine wpAnyT_take (i := 0) (v := .pointer (some ⟨g, 0, none⟩)) rfl (by kernel_rfl) (by kernel_rfl) (by kernel_rfl) (by kernel_rfl) (by decide) (by kernel_rfl) (by kernel_rfl) (fun _ _ _ h => h) (Or.inl ⟨by kernel_rfl, by intro _ _; kernel_rfl⟩) s0 ?_
  go_simp
  refine wpAnyT_take (i := 1) (v := .int .u8 10) rfl (by kernel_rfl) (by kernel_rfl) (by kernel_rfl) (by kernel_rfl) (by decide) (by kernel_rfl) (by kernel_rfl) (fun _ _ _ h => h) (Or.inl ⟨by kernel_rfl, by rintro w h; obtain ⟨c0, c1⟩ := h.get; have d0 := h.cell; go_simp⟩) s0 ?_
  go_simp
  refine wpAnyT_take (i := 2) (v := .func (.func 172) #[] #[]) rfl (by kernel_rfl) (by kernel_rfl) (by kernel_rfl) (by kernel_rfl) (by decide) (by kernel_rfl) (by kernel_rfl) (fun _ _ _ h => h) (Or.inl ⟨by kernel_rfl, by rintro w h; obtain ⟨c0, c1⟩ := h.get; have d0 := h.cell; go_simp⟩) s0 ?_
  go_simp
  refine wpAnyT_take (i := 3) (v := .pointer (some ⟨fb, 0, none⟩)) rfl (by kernel_rfl) (by kernel_rfl) (by kernel_rfl) (by kernel_rfl) (by decide) (by kernel_rfl) (by kernel_rfl) (fun _ _ _ h => h) (Or.inl ⟨by kernel_rfl, by intro _ _; kernel_rfl⟩) s0 ?_
  go_simp
  refine wpAnyT_all (rs := [4]) (by kernel_rfl) (by simp) (fun j hj => ?_)
  rw [List.mem_singleton] at hj
  subst hj
  refine wpOp_step rfl (fun K hK => ?_)
  go_simp
  refine (allp6 fb W0).mono ?_
  rintro e _ ⟨rfl, rfl⟩
  go_simp
  refine hK _ _ ⟨.inr s0, ?_⟩
  clear hK K
  refine wpAnyT_take (i := 5) (v := .pointer (some ⟨fb, 20, none⟩)) rfl (by kernel_rfl) (by kernel_rfl) (by kernel_rfl) (by kernel_rfl) (by decide) (by kernel_rfl) (by kernel_rfl) (fun _ _ _ h => h) (Or.inl ⟨by kernel_rfl, by intro _ _; kernel_rfl⟩) s0 ?_
  go_simp
  refine wpAnyT_take (i := 6) (v := .int .u64 (n : Int)) rfl (by kernel_rfl) (by kernel_rfl) (by kernel_rfl) (by kernel_rfl) (by decide) (by kernel_rfl) (by kernel_rfl) (fun _ _ _ h => h) (Or.inl ⟨by kernel_rfl, by rintro w h; obtain ⟨c0, c1⟩ := h.get; have d0 := h.cell; go_simp⟩) s0 ?_
  go_simp
  refine wpAnyT_last (by kernel_rfl) (by kernel_rfl) ?_
  refine wpAny_all (rs := [7]) (by kernel_rfl) (by simp) (fun j hj => ?_)
  rw [List.mem_singleton] at hj
  subst hj
  refine wpOp_step rfl (fun K hK => ?_)
  go_simp
  refine (wnumber2 B g l v 10 n W0 hw0 (by decide) hl).mono ?_
  rintro e W1 ⟨rfl, v1, q1, q2, q3⟩
  go_simp
  refine hK _ _ ?_
  clear hK K
  refine wpAny_done (by kernel_rfl) ?_ _
  refine bodyPost_end (results_none rfl _ _ _) rfl ?_
  exact ⟨rfl, v1, q1, (hd.mono (by omega)).trans q2, q3.after hd⟩

end Go.Proofs.YtgeafnggodkpaaaGreat.Msg
