/-
  Messages: a request's message is packed; its bytes.
-/
import Derived.Test.YtloamijcabkekaaGreatDoorNk
namespace Go.Proofs.YtloamijcabkekaaGreatDoor.Msg
open Go.RowKit Go.Lib Go.Proofs.YtloamijcabkekaaGreatDoor.Mem Go.Proofs.YtloamijcabkekaaGreatDoor.Tlv

/-- A request's message's bytes. -/
def packQ (r : RV) (c : OC) : List UInt8 := val 1 (num8 1) ++ val 7 (reqL r (opBy r.op c))
theorem packQ_len (r : RV) (c : OC) : (packQ r c).length = (opBy r.op c).length + 49 := by simp only [packQ, List.length_append, val_len, num8_len, reqL_len]; omega
theorem put_one : (⟨[], 0⟩ : WS).put 1 (num8 1) = ⟨val 1 (num8 1), 0⟩ := rfl
theorem put_two (l : List UInt8) : (⟨val 1 (num8 1), 0⟩ : WS).put 7 l = ⟨val 1 (num8 1) ++ val 7 l, 0⟩ := rfl
/-- pack goes on. -/
structure PackAt (r : RV) (w : World) (g : Nat) (s : WS) (W : World) : Prop where
  bel : Below w.heap.size w W
  msg : W.heap[w.heap.size]? = some (reqM r).box
  wr : WrS g g s W
  lt : w.heap.size < g
theorem PackAt.later {r : RV} {w : World} {g : Nat} {s : WS} {W W' : World} (h : PackAt r w g s W) (hb : Below W.heap.size W W') : PackAt r w g s W' :=
  ⟨h.bel.trans (hb.mono h.bel.size), (hb.block _ (Nat.lt_of_lt_of_le h.lt h.wr.le)).trans h.msg, h.wr.later hb, h.lt⟩
theorem PackAt.turn {r : RV} {w : World} {g : Nat} {s s' : WS} {W W' : World} (h : PackAt r w g s W) (hb : Below g W W') (hw : WrS g g s' W') : PackAt r w g s' W' :=
  ⟨h.bel.trans (hb.mono (Nat.le_of_lt h.lt)), (hb.block _ h.lt).trans h.msg, hw, h.lt⟩

set_option maxRecDepth 100000 in
set_option maxHeartbeats 4000000 in
theorem pack_req (r : RV) (c : OC) (w : World) (ho : OpAt w r.op c) (hm : mayOp r.op c = true) (hcl : 0 ≤ r.cl) (hnu : 0 ≤ r.nu) : Calls Tryz.prog 50 #[(reqM r).val] w (GivesQ w (packQ r c)) := by
  have hb0 : Below w.heap.size w (w.alloc (reqM r).box) := (Below.refl _ _).alloc (Nat.le_refl _) _
  have k0 : (w.alloc (reqM r).box).heap[w.heap.size]? = some (reqM r).box := by show (w.heap.push _)[w.heap.size]? = some _; exact Array.getElem?_push_size
  have hz0 : (w.alloc (reqM r).box).heap.size = w.heap.size + 1 := by simp
  unfold reqM at hb0 k0 hz0
  unfold FM.box FM.cells at hb0 k0 hz0
  unfold reqM FM.val FM.cells
  dsimp only at hb0 k0 hz0 ⊢
  go_enter Tryz.func50, Tryz.ntmps50
  go_upto_region 1 with fail
  generalize hg : w.alloc _ = W0 at *
  have k0f : W0.heap[w.heap.size]? = some (reqM r).box := k0
  have c0 : W0.cell? ⟨w.heap.size, 0, none⟩ = some (.int .i64 1) := mbox_cells k0f 0 _ rfl
  have hlt : w.heap.size < W0.heap.size := by rw [hz0]; exact Nat.lt_succ_self _
  have g0 : WrS W0.heap.size W0.heap.size ⟨[], 0⟩ (W0.alloc (.cells #[.slice none 0 0, .int .i64 0] 146)) := ⟨_, by show (W0.heap.push _)[W0.heap.size]? = some _; exact Array.getElem?_push_size, Nat.le_refl _, World.ownsRow_nil _ _ _ _⟩
  have hA0 : PackAt r w W0.heap.size ⟨[], 0⟩ (W0.alloc (.cells #[.slice none 0 0, .int .i64 0] 146)) :=
    ⟨hb0.trans (((Below.refl _ _).alloc (Nat.le_refl _) _).mono (Nat.le_of_lt hlt)), by rw [← k0f]; exact ((Below.refl _ W0).alloc (Nat.le_refl _) _).block _ hlt, g0, hlt⟩
  have c1 : (W0.alloc (.cells #[.slice none 0 0, .int .i64 0] 146)).cell? ⟨w.heap.size, 0, none⟩ = some (.int .i64 1) := mbox_cells hA0.msg 0 _ rfl
  clear hg k0 hz0 hb0 hlt k0f c0
  go_wp2_with fail
  refine (wnum_any W0.heap.size W0.heap.size ⟨[], 0⟩ 1 1 _ g0 (by decide)).mono ?_
  rintro e W1 ⟨rfl, g1, hb1, -⟩
  rw [put_one] at g1
  have hA1 := hA0.turn hb1 g1
  clear hA0 g0 g1 hb1 c1
  generalize W0.heap.size = g at *
  have a0 : W1.cell? ⟨w.heap.size, 0, none⟩ = some (.int .i64 1) := mbox_cells hA1.msg 0 _ rfl
  have a25 : W1.cell? ⟨w.heap.size, 25, none⟩ = some (.bool false) := mbox_cells hA1.msg 25 _ rfl
  go_wp2_with fail
  refine (of_any 1 false W1).mono ?_
  rintro e W2 ⟨b, t0, t1, t2, t3, t4, t5, t6, t7, m, n, rfl, hm2, hrd, hat, hb2⟩
  rw [ofL_req] at hm2 hrd
  have hm1 : m = 1 := hm2
  subst hm1
  have hA2 := hA1.later hb2
  have hn1 : 0 < n := hrd.2.1
  clear hat hm2 hA1 a0 a25 hb2
  go_wp2_with fail
  go_loopw [18] (fun p wr => (p = .int .i64 0 ∧ PackAt r w g ⟨val 1 (num8 1), 0⟩ wr ∧ Rd wr 4 (some ⟨b, 0, none⟩) 1 n (fV [fldQ])) ∨ (p = .int .i64 1 ∧ PackAt r w g ⟨packQ r c, 0⟩ wr)) (fun p _ => 1 - (intOf p).toNat)
  case atStart => exact .inl ⟨rfl, hA2, hrd⟩
  case round =>
    rcases hrel with ⟨rfl, hB, hr⟩ | ⟨rfl, hB⟩
    · obtain ⟨-, -, q3⟩ := hr.2.2.2.2 hn1 _ rfl
      have f0 : wr.cell? ⟨b, 0, none⟩ = some (.int .i32 113) := q3 0 _ rfl
      have f1 : wr.cell? ⟨b, 1, none⟩ = some (.func (.func 125) #[] #[]) := q3 1 _ rfl
      have f2 : wr.cell? ⟨b, 2, none⟩ = some (.func (.func 126) #[] #[]) := q3 2 _ rfl
      have f3 : wr.cell? ⟨b, 3, none⟩ = some (.func (.func 128) #[] #[]) := q3 3 _ rfl
      clear q3 hr
      go_upto_region 5 with fail
      generalize hg : wr.alloc _ = W3
      have hb3 : Below wr.heap.size wr W3 := by rw [← hg]; exact (Below.refl _ _).alloc (Nat.le_refl _) _
      have kf : W3.heap[wr.heap.size]? = some fldQ.box := by rw [← hg]; show (wr.heap.push _)[wr.heap.size]? = some _; exact Array.getElem?_push_size
      have hB3 := hB.later hb3
      obtain ⟨-, -, g1, -, -⟩ := fbox_all kf
      have g1' : W3.cell? ⟨wr.heap.size, 2, none⟩ = some (.func (.func 126) #[] #[]) := g1
      clear hg f0 f1 f2 f3 g1 kf hb3 hB
      go_wp2_with fail
      refine (putQ g g w.heap.size ⟨val 1 (num8 1), 0⟩ (reqM r) c W3 hB3.wr (by decide) hB3.msg (ho.later hB3.bel) hm hcl hnu).mono ?_
      rintro e W4 ⟨rfl, hw4, hb4, -⟩
      rw [put_two] at hw4
      have hB4 : PackAt r w g ⟨packQ r c, 0⟩ W4 := hB3.turn hb4 hw4
      go_wp2_with fail
      go_roundw
      case rel => exact .inr ⟨rfl, hB4⟩
      case measure => simp [intOf]
    · obtain ⟨v, hv⟩ := hB.wr
      have hlen : (packQ r c).length ≤ 100000000 := by have := (opC_all wr r.op c (ho.later hB.bel)).len; rw [packQ_len]; omega
      go_wp2_with fail
      refine (wend_ok g g (packQ r c) v wr hv hlen).mono ?_
      rintro e W5 ⟨v5, rfl, hown, hb5⟩
      obtain ⟨ao, cap, rfl, hr5⟩ := Rd.of_own hown
      have hfr := own_fresh hown
      have hle := hB.bel.size
      have hB5 := hB.later hb5
      clear hlen
      go_wp2_with fail
      go_ret2
      exact ⟨ao, cap, rfl, hr5, hB5.bel, fun a ha => Nat.le_trans hle (hfr a ha)⟩

/-- Bytes of a message that may not be. -/
def GivesBad (w : World) (e : Ending) (w' : World) : Prop := e = .returned (.tuple #[.slice none 0 0, .int .i64 2]) ∧ Below w.heap.size w w'

set_option maxRecDepth 100000 in
set_option maxHeartbeats 8000000 in
theorem bytes_req (r : RV) (c : OC) (w : World) (ho : OpAt w r.op c) (hm : mayOp r.op c = true) (hcl : 0 ≤ r.cl) (hnu : 0 ≤ r.nu) : Calls Tryz.prog 33 #[(reqM r).val] w (GivesQ w (packQ r c)) := by
  have hb0 : Below w.heap.size w (w.alloc (reqM r).box) := (Below.refl _ _).alloc (Nat.le_refl _) _
  have k0 : (w.alloc (reqM r).box).heap[w.heap.size]? = some (reqM r).box := by show (w.heap.push _)[w.heap.size]? = some _; exact Array.getElem?_push_size
  unfold reqM at hb0 k0
  unfold FM.box FM.cells at hb0 k0
  unfold reqM FM.val FM.cells
  dsimp only at hb0 k0 ⊢
  go_enter Tryz.func33, Tryz.ntmps33
  go_upto_region 1 with fail
  generalize hg : w.alloc _ = W0 at *
  have k0f : W0.heap[w.heap.size]? = some (reqM r).box := k0
  clear hg k0
  have hwell := well_req r c W0 (ho.later hb0)
  rw [hm] at hwell
  go_wp2_with (refine wpList_load_row k0f rfl rfl rfl (by kernel_rfl) (by kernel_rfl) ?_; go_simp)
  refine hwell.mono ?_
  rintro e W1 ⟨rfl, hb1⟩
  have k1 : W1.heap[w.heap.size]? = some (reqM r).box := (hb1.block _ (Array.getElem?_eq_some_iff.1 k0f).1).trans k0f
  have hB1 := hb0.trans (hb1.mono hb0.size)
  have hpack := pack_req r c W1 (ho.later hB1) hm hcl hnu
  have hlen := (opC_all W1 r.op c (ho.later hB1)).len
  have hl2 : (packQ r c).length ≤ 8388608 := by rw [packQ_len]; omega
  have hl3 : (decide ((8388608 : Int) < (((packQ r c).length : Nat) : Int))) = false := by simp; omega
  clear hlen hwell hb1 hb0 k0f
  go_wp2_with (refine wpList_load_row k1 rfl rfl rfl (by kernel_rfl) (by kernel_rfl) ?_; go_simp)
  refine hpack.mono ?_
  rintro e W2 ⟨ao, cap, rfl, hr2, hb2, hf2⟩
  have hB2 := hB1.trans (hb2.mono hB1.size)
  have hH := Lib.hid hl2
  clear hpack hl2 hb2 k1
  go_wp2_with fail
  go_ret2
  exact ⟨ao, cap, rfl, hr2, hB2, fun a ha => Nat.le_trans hB1.size (hf2 a ha)⟩
end Go.Proofs.YtloamijcabkekaaGreatDoor.Msg
