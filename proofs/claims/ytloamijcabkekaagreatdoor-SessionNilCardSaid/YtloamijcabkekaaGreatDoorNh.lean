/-
  Messages: equality where the rows are empty; requests, results.
-/
import Derived.Test.YtloamijcabkekaaGreatDoorNg
import Derived.Test.YtloamijcabkekaaGreatDoorLm
import Derived.Test.YtloamijcabkekaaGreatDoorMb
namespace Go.Proofs.YtloamijcabkekaaGreatDoor.Msg
open Go.RowKit Go.Lib Go.Proofs.YtloamijcabkekaaGreatDoor.Mem

set_option maxRecDepth 100000 in
set_option maxHeartbeats 4000000 in
theorem eqfReq_nil (f : Value) (w : World) : Calls Tryz.prog 90 #[.slice none 0 0, .slice none 0 0, f] w (GivesB true w) := by
  go_enter Tryz.func90, Tryz.ntmps90
  go_wp2_with fail
  go_loopw [17] (fun p wr => p = .int .i64 0 ∧ wr = w) (fun _ _ => 0)
  case atStart => exact ⟨rfl, rfl⟩
  case round =>
    obtain ⟨rfl, rfl⟩ := hrel
    go_wp2_with fail
    go_ret
    exact ⟨rfl, Below.refl _ _⟩

set_option maxRecDepth 100000 in
set_option maxHeartbeats 4000000 in
theorem eqfEnt_nil (f : Value) (w : World) : Calls Tryz.prog 114 #[.slice none 0 0, .slice none 0 0, f] w (GivesB true w) := by
  go_enter Tryz.func114, Tryz.ntmps114
  go_wp2_with fail
  go_loopw [17] (fun p wr => p = .int .i64 0 ∧ wr = w) (fun _ _ => 0)
  case atStart => exact ⟨rfl, rfl⟩
  case round =>
    obtain ⟨rfl, rfl⟩ := hrel
    go_wp2_with fail
    go_ret
    exact ⟨rfl, Below.refl _ _⟩

set_option maxRecDepth 100000 in
set_option maxHeartbeats 4000000 in
theorem equalU_nil (w : World) : Calls Tryz.prog 91 #[.slice none 0 0, .slice none 0 0] w (GivesB true w) := by
  go_enter Tryz.func91, Tryz.ntmps91
  go_wp2_with fail
  go_loopw [13] (fun p wr => p = .int .i64 0 ∧ wr = w) (fun _ _ => 0)
  case atStart => exact ⟨rfl, rfl⟩
  case round =>
    obtain ⟨rfl, rfl⟩ := hrel
    go_wp2_with fail
    go_ret
    exact ⟨rfl, Below.refl _ _⟩

theorem equalB_nil (w : World) : Calls Tryz.prog 43 #[.slice none 0 0, .slice none 0 0] w (GivesB true w) :=
  (equal_byt none none 0 0 0 0 [] [] w (Rd.nil _ _) (Rd.nil _ _) (by decide)).mono fun _ _ h => h

set_option maxRecDepth 100000 in
set_option maxHeartbeats 4000000 in
theorem sameReq_self (r : RV) (c : OC) (w : World) (h : OpAt w r.op c) : Calls Tryz.prog 88 #[r.val, r.val] w (GivesB true w) := by
  have hb0 : Below w.heap.size w ((w.alloc r.box).alloc r.box) := below_two w _ _
  obtain ⟨hx, hx'⟩ := two_boxes w r.box r.box
  have ho := h.later hb0
  have hcall := sameOp_any r.op r.op c c ((w.alloc r.box).alloc r.box) ho ho
  rw [show sameOp r.op c r.op c = true from same_yes ⟨rfl, rfl, rfl, rfl, rfl, rfl, rfl⟩] at hcall
  have hz : ((w.alloc r.box).alloc r.box).heap.size = w.heap.size + 1 + 1 := by simp
  clear ho
  unfold RV.box at hx hx' hb0 hcall
  unfold RV.cells at hx hx' hb0 hcall
  unfold OV.val at hcall
  unfold RV.val RV.cells
  have g1 : (r.cl == r.cl) = true := by simp
  have g2 : (r.nu == r.nu) = true := by simp
  go_enter Tryz.func88, Tryz.ntmps88
  go_wp2_with fail
  refine hcall.mono ?_
  rintro e w1 ⟨rfl, hb1⟩
  go_wp2_with fail
  go_ret
  exact ⟨rfl, hb0.trans (hb1.mono hb0.size)⟩

set_option maxRecDepth 100000 in
set_option maxHeartbeats 4000000 in
theorem sameRes_self (code : Int) (yes : Bool) (w : World) : Calls Tryz.prog 89 #[.agg #[.int .i64 code, .bool yes, .slice none 0 0, .slice none 0 0], .agg #[.int .i64 code, .bool yes, .slice none 0 0, .slice none 0 0]] w (GivesB true w) := by
  have g1 : (code == code) = true := by simp
  have g2 : (yes == yes) = true := by simp
  obtain ⟨hx, hx'⟩ := two_boxes w (.cells #[.int .i64 code, .bool yes, .slice none 0 0, .slice none 0 0] 41) (.cells #[.int .i64 code, .bool yes, .slice none 0 0, .slice none 0 0] 41)
  have hb0 := below_two w (.cells #[.int .i64 code, .bool yes, .slice none 0 0, .slice none 0 0] 41) (.cells #[.int .i64 code, .bool yes, .slice none 0 0, .slice none 0 0] 41)
  go_enter Tryz.func89, Tryz.ntmps89
  go_wp2_with fail
  refine (eqfEnt_nil _ _).mono ?_
  rintro e w1 ⟨rfl, hb1⟩
  have k1 := (hb1.block _ (by simp only [World.size_alloc]; omega)).trans hx
  have k2 := (hb1.block _ (by simp only [World.size_alloc]; omega)).trans hx'
  have hb2 := hb0.trans (hb1.mono hb0.size)
  have c1 : w1.cell? ⟨w.heap.size, 3, none⟩ = some (.slice none 0 0) := by simp [World.cell?, k1]
  have c2 : w1.cell? ⟨w.heap.size + 1, 3, none⟩ = some (.slice none 0 0) := by simp [World.cell?, k2]
  go_wp2_with fail
  refine (equalB_nil _).mono ?_
  rintro e w2 ⟨rfl, hb3⟩
  go_wp2_with fail
  go_ret
  exact ⟨rfl, hb2.trans (hb3.mono hb2.size)⟩
end Go.Proofs.YtloamijcabkekaaGreatDoor.Msg
