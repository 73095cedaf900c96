/-
  Messages: the request kept in another one, and put.
-/
import Derived.Test.YtloamijcabkekaaGreatDoorNi
namespace Go.Proofs.YtloamijcabkekaaGreatDoor.Msg
open Go.RowKit Go.Lib Go.Proofs.YtloamijcabkekaaGreatDoor.Mem Go.Proofs.YtloamijcabkekaaGreatDoor.Tlv

set_option maxRecDepth 100000 in
set_option maxHeartbeats 4000000 in
theorem indexReq_nil (f : Value) (w : World) : Calls Tryz.prog 92 #[.slice none 0 0, f] w fun e w' => e = .returned (.int .i64 (-1)) ∧ Below w.heap.size w w' := by
  go_enter Tryz.func92, Tryz.ntmps92
  go_wp2_with fail
  go_loopw [8] (fun p wr => p = .int .i64 0 ∧ wr = w) (fun _ _ => 0)
  case atStart => exact ⟨rfl, rfl⟩
  case round =>
    obtain ⟨rfl, rfl⟩ := hrel
    go_wp2_with fail
    go_ret
    exact ⟨rfl, Below.refl _ _⟩
set_option maxRecDepth 100000 in
theorem containsReq_nil (f : Value) (w : World) : Calls Tryz.prog 70 #[.slice none 0 0, f] w (GivesB false w) := by
  go_enter Tryz.func70, Tryz.ntmps70
  go_wp2_with fail
  refine (indexReq_nil f w).mono ?_
  rintro e w1 ⟨rfl, hb1⟩
  go_wp2_with fail
  go_ret
  exact ⟨rfl, hb1⟩

theorem Oth.mono {B B' b : Nat} {w W : World} (h : Oth B b w W) (hB : B' ≤ B) : Oth B' b w W := ⟨h.bel.mono hB, h.oth⟩

set_option maxRecDepth 100000 in
set_option maxHeartbeats 4000000 in
theorem keepQ (B tb fb : Nat) (m0 m : FM) (w : World) (h0 : w.heap[tb]? = some m0.box) (h1 : w.heap[fb]? = some m.box) (hB : B ≤ tb) :
    Calls Tryz.prog 125 #[.pointer (some ⟨tb, 0, none⟩), .pointer (some ⟨fb, 0, none⟩)] w fun e w' => e = .returned (.tuple #[]) ∧ w'.heap[tb]? = some (FM.box { m0 with rq := m.rq }) ∧ Oth B tb w w' := by
  have a6 : w.cell? ⟨fb, 6, none⟩ = some (.int .u64 m.rq.cl) := mbox_cells h1 6 _ rfl
  have a7 : w.cell? ⟨fb, 7, none⟩ = some (.int .u64 m.rq.nu) := mbox_cells h1 7 _ rfl
  have a8 : w.cell? ⟨fb, 8, none⟩ = some (.int .i64 m.rq.op.k) := mbox_cells h1 8 _ rfl
  have a9 : w.cell? ⟨fb, 9, none⟩ = some (.string m.rq.op.name) := mbox_cells h1 9 _ rfl
  have a10 : w.cell? ⟨fb, 10, none⟩ = some (.string m.rq.op.to) := mbox_cells h1 10 _ rfl
  have a11 : w.cell? ⟨fb, 11, none⟩ = some (.slice m.rq.op.ao m.rq.op.an m.rq.op.ac) := mbox_cells h1 11 _ rfl
  have a12 : w.cell? ⟨fb, 12, none⟩ = some (.slice m.rq.op.bo m.rq.op.bn m.rq.op.bc) := mbox_cells h1 12 _ rfl
  have a13 : w.cell? ⟨fb, 13, none⟩ = some (.slice m.rq.op.co m.rq.op.cn m.rq.op.cc) := mbox_cells h1 13 _ rfl
  have a14 : w.cell? ⟨fb, 14, none⟩ = some (.int .i64 m.rq.op.n) := mbox_cells h1 14 _ rfl
  have b6 : w.cell? ⟨tb, 6, none⟩ = some (.int .u64 m0.rq.cl) := mbox_cells h0 6 _ rfl
  have b7 : w.cell? ⟨tb, 7, none⟩ = some (.int .u64 m0.rq.nu) := mbox_cells h0 7 _ rfl
  have b8 : w.cell? ⟨tb, 8, none⟩ = some (.int .i64 m0.rq.op.k) := mbox_cells h0 8 _ rfl
  have b9 : w.cell? ⟨tb, 9, none⟩ = some (.string m0.rq.op.name) := mbox_cells h0 9 _ rfl
  have b10 : w.cell? ⟨tb, 10, none⟩ = some (.string m0.rq.op.to) := mbox_cells h0 10 _ rfl
  have b11 : w.cell? ⟨tb, 11, none⟩ = some (.slice m0.rq.op.ao m0.rq.op.an m0.rq.op.ac) := mbox_cells h0 11 _ rfl
  have b12 : w.cell? ⟨tb, 12, none⟩ = some (.slice m0.rq.op.bo m0.rq.op.bn m0.rq.op.bc) := mbox_cells h0 12 _ rfl
  have b13 : w.cell? ⟨tb, 13, none⟩ = some (.slice m0.rq.op.co m0.rq.op.cn m0.rq.op.cc) := mbox_cells h0 13 _ rfl
  have b14 : w.cell? ⟨tb, 14, none⟩ = some (.int .i64 m0.rq.op.n) := mbox_cells h0 14 _ rfl
  have f0 := mbox_frozen h0
  go_enter Tryz.func125, Tryz.ntmps125
  go_wp2_with fail
  refine bodyPost_end (results_none rfl _ _ _) rfl ?_
  have g := h0
  unfold FM.box at g
  unfold FM.cells at g
  have g6 := at_set (i := 6) (x := .int .u64 m.rq.cl) g
  have g7 := at_set (i := 7) (x := .int .u64 m.rq.nu) g6
  have g8 := at_set (i := 8) (x := .int .i64 m.rq.op.k) g7
  have g9 := at_set (i := 9) (x := .string m.rq.op.name) g8
  have g10 := at_set (i := 10) (x := .string m.rq.op.to) g9
  have g11 := at_set (i := 11) (x := .slice m.rq.op.ao m.rq.op.an m.rq.op.ac) g10
  have g12 := at_set (i := 12) (x := .slice m.rq.op.bo m.rq.op.bn m.rq.op.bc) g11
  have g13 := at_set (i := 13) (x := .slice m.rq.op.co m.rq.op.cn m.rq.op.cc) g12
  have g14 := at_set (i := 14) (x := .int .i64 m.rq.op.n) g13
  refine ⟨rfl, g14.trans (by kernel_rfl), ?_⟩
  exact ((((((((((Oth.refl B tb w).set hB 6 _).set hB 7 _).set hB 8 _).set hB 9 _).set hB 10 _).set hB 11 _).set hB 12 _).set hB 13 _).set hB 14 _)

/-- A pointer to the writer, or nothing, is given; nothing but the writer and its row turns. -/
def TurnsN (B g : Nat) (s : WS) (W : World) (e : Ending) (w' : World) : Prop := e = .returned (.tuple #[]) ∧ WrS B g s w' ∧ Below B W w' ∧ Stays g W w'

set_option maxRecDepth 100000 in
set_option maxHeartbeats 4000000 in
theorem putQ (B g fb : Nat) (s : WS) (m : FM) (c : OC) (w : World) (hw : WrS B g s w) (hl : s.l.length ≤ 100000000) (h1 : w.heap[fb]? = some m.box) (ho : OpAt w m.rq.op c) (hm : mayOp m.rq.op c = true) (hcl : 0 ≤ m.rq.cl) (hnu : 0 ≤ m.rq.nu) :
    Calls Tryz.prog 126 #[.pointer (some ⟨g, 0, none⟩), .pointer (some ⟨fb, 0, none⟩)] w (TurnsN B g (s.put 7 (reqL m.rq (opBy m.rq.op c))) w) := by
  have a6 : w.cell? ⟨fb, 6, none⟩ = some (.int .u64 m.rq.cl) := mbox_cells h1 6 _ rfl
  have a7 : w.cell? ⟨fb, 7, none⟩ = some (.int .u64 m.rq.nu) := mbox_cells h1 7 _ rfl
  have a8 : w.cell? ⟨fb, 8, none⟩ = some (.int .i64 m.rq.op.k) := mbox_cells h1 8 _ rfl
  have a9 : w.cell? ⟨fb, 9, none⟩ = some (.string m.rq.op.name) := mbox_cells h1 9 _ rfl
  have a10 : w.cell? ⟨fb, 10, none⟩ = some (.string m.rq.op.to) := mbox_cells h1 10 _ rfl
  have a11 : w.cell? ⟨fb, 11, none⟩ = some (.slice m.rq.op.ao m.rq.op.an m.rq.op.ac) := mbox_cells h1 11 _ rfl
  have a12 : w.cell? ⟨fb, 12, none⟩ = some (.slice m.rq.op.bo m.rq.op.bn m.rq.op.bc) := mbox_cells h1 12 _ rfl
  have a13 : w.cell? ⟨fb, 13, none⟩ = some (.slice m.rq.op.co m.rq.op.cn m.rq.op.cc) := mbox_cells h1 13 _ rfl
  have a14 : w.cell? ⟨fb, 14, none⟩ = some (.int .i64 m.rq.op.n) := mbox_cells h1 14 _ rfl
  have hop := opC_all w m.rq.op c ho
  rw [hm] at hop
  have hcall := reqBytes_yes m.rq c _ w ho hop hcl hnu
  have hlen := Lib.hid (reqL_len m.rq (opBy m.rq.op c))
  have hlo := hop.len
  unfold RV.val RV.cells at hcall
  go_enter Tryz.func126, Tryz.ntmps126
  go_wp2_with fail
  refine hcall.mono ?_
  rintro e w1 ⟨ao, cap, rfl, hr, hb1, hfr⟩
  have hw1 := hw.later hb1
  go_wp2_with fail
  refine (wput_any B g s 7 _ ao _ cap w1 hw1 hl (by rw [hlen.out]; omega) hr (fun h0 a ha v hv => fresh_dis hw hb1 (hfr a ha) hv)).mono ?_
  rintro e w2 ⟨rfl, hw2, hb2, hs2⟩
  go_wp2_with fail
  refine bodyPost_end (results_none rfl _ _ _) rfl ?_
  exact ⟨rfl, hw2, (hb1.mono hw.le).trans hb2, (Stays.of_below hb1).trans hs2⟩
end Go.Proofs.YtloamijcabkekaaGreatDoor.Msg
