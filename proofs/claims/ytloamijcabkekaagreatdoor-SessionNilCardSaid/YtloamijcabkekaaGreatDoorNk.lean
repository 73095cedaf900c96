/-
  Messages: a request's message is well where its operation may be.
-/
import Derived.Test.YtloamijcabkekaaGreatDoorNj
import Derived.Test.YtloamijcabkekaaGreatDoorNw
namespace Go.Proofs.YtloamijcabkekaaGreatDoor.Msg
open Go.RowKit Go.Lib Go.Proofs.YtloamijcabkekaaGreatDoor.Mem Go.Proofs.YtloamijcabkekaaGreatDoor.Tlv

/-- A request's message. -/
def reqM (r : RV) : FM := ⟨1, 0, 0, 0, 0, 0, r, 0, false, 0, 0, 0, 0, false⟩
/-- The only field of a request's message. -/
def fldQ : FV := ⟨113, .func (.func 125) #[] #[], .func (.func 126) #[] #[], .func (.func 128) #[] #[]⟩
theorem ofL_req (t0 t1 t2 t3 t4 t5 t6 t7 : Nat) : ofL 1 false t0 t1 t2 t3 t4 t5 t6 t7 = [fldQ] := rfl

/-- A message of a request's kind without anything. -/
def bareQ : FM := ⟨1, 0, 0, 0, 0, 0, zeroR, 0, false, 0, 0, 0, 0, false⟩
/-- The two messages, as well goes on. -/
structure WellAt (r : RV) (w : World) (M : FM) (W : World) : Prop where
  bel : Below w.heap.size w W
  msg : W.heap[w.heap.size]? = some (reqM r).box
  bare : W.heap[w.heap.size + 1]? = some M.box
theorem WellAt.lt {r : RV} {w : World} {M : FM} {W : World} (h : WellAt r w M W) : w.heap.size + 1 < W.heap.size := (Array.getElem?_eq_some_iff.1 h.bare).1
theorem WellAt.later {r : RV} {w : World} {M : FM} {W W' : World} (h : WellAt r w M W) (hb : Below W.heap.size W W') : WellAt r w M W' :=
  ⟨h.bel.trans (hb.mono h.bel.size), (hb.block _ (Nat.lt_of_succ_lt h.lt)).trans h.msg, (hb.block _ h.lt).trans h.bare⟩

set_option maxRecDepth 100000 in
set_option maxHeartbeats 4000000 in
theorem well_req (r : RV) (c : OC) (w : World) (ho : OpAt w r.op c) : Calls Tryz.prog 49 #[(reqM r).val] w (GivesB (mayOp r.op c) w) := by
  have hb0 : Below w.heap.size w (w.alloc (reqM r).box) := (Below.refl _ _).alloc (Nat.le_refl _) _
  have k0 : (w.alloc (reqM r).box).heap[w.heap.size]? = some (reqM r).box := by show (w.heap.push _)[w.heap.size]? = some _; exact Array.getElem?_push_size
  have hz0 : (w.alloc (reqM r).box).heap.size = w.heap.size + 1 := by simp
  unfold reqM at hb0 k0 hz0
  unfold FM.box FM.cells at hb0 k0 hz0
  unfold reqM FM.val FM.cells
  dsimp only at hb0 k0 hz0 ⊢
  go_enter Tryz.func49, Tryz.ntmps49
  go_upto_region 1 with fail
  generalize hg : w.alloc _ = W0 at *
  have k0f : W0.heap[w.heap.size]? = some (reqM r).box := k0
  have c0 : W0.cell? ⟨w.heap.size, 0, none⟩ = some (.int .i64 1) := mbox_cells k0f 0 _ rfl
  have HZ := Lib.hid hz0
  clear hg k0 hz0
  go_upto_region 2 with (refine wpList_store_new rfl rfl rfl rfl (by kernel_rfl) rfl (by kernel_rfl) ?_; go_simp)
  generalize hg : W0.alloc _ = W1
  have hz0 := HZ.out
  have hb1 : Below W0.heap.size W0 W1 := by rw [← hg]; exact (Below.refl _ _).alloc (Nat.le_refl _) _
  have k1 : W1.heap[w.heap.size + 1]? = some bareQ.box := by rw [← hg, ← hz0]; show (W0.heap.push _)[W0.heap.size]? = some _; exact Array.getElem?_push_size
  have hA : WellAt r w bareQ W1 := ⟨hb0.trans (hb1.mono hb0.size), (hb1.block _ (by rw [hz0]; omega)).trans k0f, k1⟩
  rw [hz0]
  clear hg c0 k1 hb1 k0f hz0 hb0 HZ
  have a0 : W1.cell? ⟨w.heap.size, 0, none⟩ = some (.int .i64 1) := mbox_cells hA.msg 0 _ rfl
  have a25 : W1.cell? ⟨w.heap.size, 25, none⟩ = some (.bool false) := mbox_cells hA.msg 25 _ rfl
  go_wp2_with fail
  refine (of_any 1 false W1).mono ?_
  rintro e W2 ⟨b, t0, t1, t2, t3, t4, t5, t6, t7, m, n, rfl, hm, hrd, hat, hb2⟩
  rw [ofL_req] at hm hrd
  have hm1 : m = 1 := hm
  subst hm1
  have hA2 := hA.later hb2
  have hn1 : 0 < n := hrd.2.1
  clear hat hm hA a0 a25
  go_wp2_with fail
  go_loopw [17] (fun p wr => (p = .int .i64 0 ∧ WellAt r w bareQ wr ∧ Rd wr 4 (some ⟨b, 0, none⟩) 1 n (fV [fldQ])) ∨ (p = .int .i64 1 ∧ WellAt r w (reqM r) wr)) (fun p _ => 1 - (intOf p).toNat)
  case atStart => exact .inl ⟨rfl, hA2, hrd⟩
  case round =>
    rcases hrel with ⟨rfl, hB, hr⟩ | ⟨rfl, hB⟩
    · obtain ⟨-, -, q3⟩ := hr.2.2.2.2 hn1 _ rfl
      have f0 : wr.cell? ⟨b, 0, none⟩ = some (.int .i32 113) := q3 0 _ rfl
      have f1 : wr.cell? ⟨b, 1, none⟩ = some (.func (.func 125) #[] #[]) := q3 1 _ rfl
      have f2 : wr.cell? ⟨b, 2, none⟩ = some (.func (.func 126) #[] #[]) := q3 2 _ rfl
      have f3 : wr.cell? ⟨b, 3, none⟩ = some (.func (.func 128) #[] #[]) := q3 3 _ rfl
      clear q3 hr
      go_upto_region 6 with fail
      generalize hg : wr.alloc _ = W3
      have hb3 : Below wr.heap.size wr W3 := by rw [← hg]; exact (Below.refl _ _).alloc (Nat.le_refl _) _
      have kf : W3.heap[wr.heap.size]? = some fldQ.box := by rw [← hg]; show (wr.heap.push _)[wr.heap.size]? = some _; exact Array.getElem?_push_size
      have hB3 := hB.later hb3
      obtain ⟨-, g1, -, -, -⟩ := fbox_all kf
      have g1' : W3.cell? ⟨wr.heap.size, 1, none⟩ = some (.func (.func 125) #[] #[]) := g1
      clear hg f0 f1 f2 f3 g1 kf
      go_wp2_with fail
      refine (keepQ w.heap.size (w.heap.size + 1) w.heap.size bareQ (reqM r) W3 hB3.bare hB3.msg (by omega)).mono ?_
      rintro e W4 ⟨rfl, hbare, hoth⟩
      have hB4 : WellAt r w (reqM r) W4 := ⟨hB3.bel.trans hoth.bel, (hoth.oth _ (Nat.lt_of_succ_lt hB3.lt) (by omega)).trans hB3.msg, hbare⟩
      go_wp2_with fail
      go_roundw
      case rel => exact .inr ⟨rfl, hB4⟩
      case measure => simp [intOf]
    · have hsame := same_self (reqM r) c wr (ho.later hB.bel)
      go_wp2_with (first | (refine wpList_load_row hB.msg rfl rfl rfl (by kernel_rfl) (by kernel_rfl) ?_; go_simp) | (refine wpList_load_row hB.bare rfl rfl rfl (by kernel_rfl) (by kernel_rfl) ?_; go_simp))
      refine hsame.mono ?_
      rintro e W5 ⟨rfl, hb5⟩
      have hB5 := hB.later hb5
      clear hsame
      have a3 : W5.cell? ⟨w.heap.size, 3, none⟩ = some (.int .i64 0) := mbox_cells hB5.msg 3 _ rfl
      have a22 : W5.cell? ⟨w.heap.size, 22, none⟩ = some (.slice none 0 0) := mbox_cells hB5.msg 22 _ rfl
      have a23 : W5.cell? ⟨w.heap.size, 23, none⟩ = some (.slice none 0 0) := mbox_cells hB5.msg 23 _ rfl
      have a26 : W5.cell? ⟨w.heap.size, 26, none⟩ = some (.slice none 0 0) := mbox_cells hB5.msg 26 _ rfl
      go_wp2_with fail
      refine (containsReq_nil _ W5).mono ?_
      rintro e W6 ⟨rfl, hb6⟩
      have hB6 := hB5.later hb6
      clear a3 a22 a23 a26
      have a0 : W6.cell? ⟨w.heap.size, 0, none⟩ = some (.int .i64 1) := mbox_cells hB6.msg 0 _ rfl
      have a6 : W6.cell? ⟨w.heap.size, 6, none⟩ = some (.int .u64 r.cl) := mbox_cells hB6.msg 6 _ rfl
      have a7 : W6.cell? ⟨w.heap.size, 7, none⟩ = some (.int .u64 r.nu) := mbox_cells hB6.msg 7 _ rfl
      have a8 : W6.cell? ⟨w.heap.size, 8, none⟩ = some (.int .i64 r.op.k) := mbox_cells hB6.msg 8 _ rfl
      have a9 : W6.cell? ⟨w.heap.size, 9, none⟩ = some (.string r.op.name) := mbox_cells hB6.msg 9 _ rfl
      have a10 : W6.cell? ⟨w.heap.size, 10, none⟩ = some (.string r.op.to) := mbox_cells hB6.msg 10 _ rfl
      have a11 : W6.cell? ⟨w.heap.size, 11, none⟩ = some (.slice r.op.ao r.op.an r.op.ac) := mbox_cells hB6.msg 11 _ rfl
      have a12 : W6.cell? ⟨w.heap.size, 12, none⟩ = some (.slice r.op.bo r.op.bn r.op.bc) := mbox_cells hB6.msg 12 _ rfl
      have a13 : W6.cell? ⟨w.heap.size, 13, none⟩ = some (.slice r.op.co r.op.cn r.op.cc) := mbox_cells hB6.msg 13 _ rfl
      have a14 : W6.cell? ⟨w.heap.size, 14, none⟩ = some (.int .i64 r.op.n) := mbox_cells hB6.msg 14 _ rfl
      have hop := opC_all W6 r.op c (ho.later hB6.bel)
      have hmay := mayReq_any r c _ _ W6 (ho.later hB6.bel) hop
      unfold RV.val RV.cells at hmay
      go_wp2_with fail
      refine hmay.mono ?_
      rintro e W7 ⟨rfl, hb7⟩
      go_wp2_with fail
      go_ret
      exact ⟨rfl, (hB6.later hb7).bel⟩
end Go.Proofs.YtloamijcabkekaaGreatDoor.Msg
