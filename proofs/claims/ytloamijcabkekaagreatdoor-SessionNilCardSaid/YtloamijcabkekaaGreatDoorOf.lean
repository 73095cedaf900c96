/-
  The statement's own rows: known; the walk of SessionNil.
-/
import Derived.Test.YtloamijcabkekaaGreatDoorOe
namespace Go.Proofs.YtloamijcabkekaaGreatDoor.Msg
open Go.RowKit Go.Lib Go.Proofs.YtloamijcabkekaaGreatDoor.Mem Go.Proofs.YtloamijcabkekaaGreatDoor.Tlv

/-- The lookup of 'a'. -/
def lookA : OV := ⟨6, ⟨#[97]⟩, ⟨#[]⟩, none, 0, 0, none, 0, 0, none, 0, 0, 0⟩
def noC0 : OC := ⟨[], [], []⟩
theorem lookA_name : mayName ⟨#[97]⟩ = true := by
  unfold mayName
  rw [decide_eq_true (by decide), decide_eq_true (by decide)]
  rfl
theorem empty_name : mayName ⟨#[]⟩ = true := by
  unfold mayName
  rw [decide_eq_true (by decide), decide_eq_true (by decide)]
  rfl
theorem lookA_may : mayOp lookA noC0 = true := by
  have h1 : fieldsOf lookA.k = [110] := rfl
  have h2 : sameOp lookA noC0 (keepL [110] lookA) (keepC [110] noC0) = true := by
    unfold sameOp
    exact decide_eq_true (by decide)
  unfold mayOp mayOpA
  rw [h1, h2, show mayName lookA.name = true from lookA_name, show mayName lookA.to = true from empty_name]
  rfl
theorem lookA_at (W : World) : OpAt W lookA noC0 := ⟨Rd.nil _ _, Rd.nil _ _, Rd.nil _ _, by decide, by decide, by decide⟩

set_option maxRecDepth 100000 in
set_option maxHeartbeats 4000000 in
theorem known_any (w : World) : Calls Tryz.prog 14 #[] w (GivesB true w) := by
  have hnew := new_any 1 3 w
  go_enter Tryz.func14, Tryz.ntmps14
  go_wp2_with fail
  refine hnew.mono ?_
  rintro e w1 he
  unfold GivesN at he
  rw [if_pos (by decide)] at he
  obtain ⟨rfl, e1⟩ := he
  have hb1 : Below w.heap.size w w1 := by rw [e1]; exact (Below.refl _ _).alloc (Nat.le_refl _) _
  have k1 : w1.heap[w.heap.size]? = some (newS 1 3).box := by rw [e1]; show (w.heap.push _)[w.heap.size]? = some _; exact Array.getElem?_push_size
  clear e1 hnew
  go_upto_region 3 with (refine wpList_store_new rfl rfl rfl rfl (by kernel_rfl) rfl (by kernel_rfl) ?_; go_simp)
  generalize hg : w1.alloc _ = w2
  have hb2 : Below w1.heap.size w1 w2 := by rw [← hg]; exact (Below.refl _ _).alloc (Nat.le_refl _) _
  have q2 : w2.heap[w1.heap.size]? = some lookA.box := by rw [← hg]; show (w1.heap.push _)[w1.heap.size]? = some _; exact Array.getElem?_push_size
  have hlt1 := (Array.getElem?_eq_some_iff.1 k1).1
  have k2 := (hb2.block _ hlt1).trans k1
  have hB2 := hb1.trans (hb2.mono hb1.size)
  clear hg k1 hb2
  have hask := ask_ok w.heap.size w.heap.size (newS 1 3) lookA noC0 w2 k2 (Nat.le_refl _) (lookA_at _) lookA_may rfl (by decide) (by decide) (by decide) (by decide) (by decide) (by decide) (by decide)
  go_wp2_with (refine wpList_load_row q2 rfl rfl rfl (by kernel_rfl) (by kernel_rfl) ?_; go_simp)
  refine hask.mono ?_
  rintro e w3 ⟨rb, u, l, ov, rfl, hl, k3, -, -, -, -, hoth, -⟩
  have q3 := (hoth.oth _ (Array.getElem?_eq_some_iff.1 q2).1 (by omega)).trans q2
  have hB3 := hB2.trans hoth.bel
  have hst := ask_state lookA noC0 _ w.heap.size ⟨rb, 0, none⟩ w3 k3 (lookA_at _) (show (0 : Int) < 3 by decide) lookA_may rfl
  clear hask
  go_wp2_with (refine wpList_load_row q3 rfl rfl rfl (by kernel_rfl) (by kernel_rfl) ?_; go_simp)
  refine hst.mono ?_
  rintro e w4 ⟨rfl, hb4⟩
  have hB4 := hB3.trans (hb4.mono hB3.size)
  clear hst
  dsimp only [newS]
  go_wp2_with fail
  go_ret
  exact ⟨rfl, hB4⟩

theorem neqS (w : World) : Sem.run Tryz.prog (binOp BinOp.neq 27 (.pointer none) (.pointer none)) w = .ok (.bool false) w := by kernel_rfl

/-- The worlds behind the row of the two. -/
def InNil (w W : World) : Prop := W.heap[w.heap.size]? = some zeroS.box ∧ W.heap[w.heap.size + 1]? = some (.cells #[.pointer none, .pointer (some ⟨w.heap.size, 0, none⟩)] 27) ∧ Below w.heap.size w W
theorem InNil.step {w W W' : World} (h : InNil w W) (hb : Below W.heap.size W W') : InNil w W' :=
  ⟨(hb.block _ (Array.getElem?_eq_some_iff.1 h.1).1).trans h.1, (hb.block _ (Array.getElem?_eq_some_iff.1 h.2.1).1).trans h.2.1, h.2.2.trans (hb.mono h.2.2.size)⟩
def pAt (w : World) (k : Nat) : Option Nat := if k = 0 then none else some w.heap.size
theorem InNil.gone {w W : World} (h : InNil w W) (k : Nat) : Gone (pAt w k) W := by
  intro g hg
  have : g = w.heap.size := by
    unfold pAt at hg
    split at hg
    · cases hg
    · exact (Option.some.inj hg).symm
  subst this
  exact h.1
theorem InNil.cell {w W : World} (h : InNil w W) (k : Nat) (hk : k < 2) : W.cell? ⟨w.heap.size + 1, 0 + k * 1, none⟩ = some (ptr (pAt w k)) := by
  have h2 := h.2.1
  rcases (by omega : k = 0 ∨ k = 1) with rfl | rfl
  · simp [World.cell?, h2, ptr, pAt]
  · simp [World.cell?, h2, ptr, pAt]

set_option maxRecDepth 100000 in
set_option maxHeartbeats 4000000 in
theorem sessionNil_any (w : World) : Calls Tryz.prog 3 #[] w (GivesB true w) := by
  go_enter Tryz.func3, Tryz.ntmps3
  go_wp2_with fail
  generalize hg : (w.alloc _).alloc _ = W0
  have hs0 : InNil w W0 := by
    obtain ⟨h1, h2⟩ := two_boxes w zeroS.box (.cells #[.pointer none, .pointer (some ⟨w.heap.size, 0, none⟩)] 27)
    rw [← hg]
    exact ⟨h1, h2, below_two w _ _⟩
  clear hg
  go_loopw [3] (fun p wr => ∃ k : Nat, k ≤ 2 ∧ p = .int .i64 (k : Int) ∧ InNil w wr) (fun p _ => 2 - (intOf p).toNat)
  case atStart => exact ⟨0, by omega, rfl, hs0⟩
  case round =>
    obtain ⟨k, hk, rfl, hs⟩ := hrel
    by_cases hk2 : k < 2
    · have c1 := hs.cell k hk2
      rw [Nat.zero_add, Nat.mul_one] at c1
      have i0 : (0 : Int) ≤ (k : Int) := by omega
      have i1 : (k : Int) < (2 : Int) := by omega
      obtain ⟨p, hp⟩ : ∃ p, pAt w k = p := ⟨_, rfl⟩
      have hG : ∀ W, InNil w W → Gone p W := fun W h => hp ▸ h.gone k
      rw [hp] at c1
      clear hp
      have hask := ask_gone p ⟨8, ⟨#[]⟩, ⟨#[]⟩, none, 0, 0, none, 0, 0, none, 0, 0, 0⟩ wr (hG _ hs)
      unfold OV.val at hask
      dsimp only at hask
      go_wp2_with fail
      refine hask.mono ?_
      rintro e w1 ⟨rfl, hb1⟩
      have s1 := hs.step hb1
      clear c1 hask
      go_wp2_with fail
      refine (take_gone p w1 (hG _ s1)).mono ?_
      rintro e w2 ⟨rfl, hb2⟩
      have s2 := s1.step hb2
      go_upto_region 9 with (refine wpList_store_new rfl rfl rfl rfl (by kernel_rfl) rfl (by kernel_rfl) ?_; go_simp)
      generalize hg3 : w2.alloc _ = w3
      have s3 : InNil w w3 := s2.step (by rw [← hg3]; exact (Below.refl _ _).alloc (Nat.le_refl _) _)
      clear hg3
      go_wp2_with fail
      refine (under_gone p w3 (hG _ s3)).mono ?_
      rintro e w4 ⟨rfl, hb4⟩
      have s4 := s3.step hb4
      go_upto_region 10 with (refine wpList_store_new rfl rfl rfl rfl (by kernel_rfl) rfl (by kernel_rfl) ?_; go_simp)
      generalize hg5 : w4.alloc _ = w5
      have s5 : InNil w w5 := s4.step (by rw [← hg5]; exact (Below.refl _ _).alloc (Nat.le_refl _) _)
      clear hg5
      go_wp2_with fail
      refine (last_gone p w5 (hG _ s5)).mono ?_
      rintro e w6 ⟨rfl, hb6⟩
      have s6 := s5.step hb6
      go_upto_region 11 with (refine wpList_store_new rfl rfl rfl rfl (by kernel_rfl) rfl (by kernel_rfl) ?_; go_simp)
      generalize hg7 : w6.alloc _ = w7
      have s7 : InNil w w7 := s6.step (by rw [← hg7]; exact (Below.refl _ _).alloc (Nat.le_refl _) _)
      clear hg7
      go_wp2_with fail
      refine (tick_gone p w7 (hG _ s7)).mono ?_
      rintro e w8 ⟨rfl, rfl⟩
      go_wp2_with fail
      refine (view_gone p w8 (hG _ s7)).mono ?_
      rintro e w9 ⟨rfl, rfl⟩
      go_wp2_with fail
      refine (client_gone p w9 (hG _ s7)).mono ?_
      rintro e w10 ⟨rfl, rfl⟩
      go_wp2_with fail
      refine (num_gone p w10 (hG _ s7)).mono ?_
      rintro e w11 ⟨rfl, rfl⟩
      go_wp2_with fail
      refine (dropped_gone p w11 (hG _ s7)).mono ?_
      rintro e w12 ⟨rfl, rfl⟩
      go_wp2_with fail
      refine (copy_gone p w12 (hG _ s7)).mono ?_
      rintro e w13 ⟨rfl, rfl⟩
      have hpn := neqS w13
      go_wp2_with fail
      go_roundw
      case rel => exact ⟨k + 1, by omega, by go_num, s7⟩
      case measure => simp [intOf]; omega
    · have hkn2 : k = 2 := by omega
      subst hkn2
      go_wp2_with fail
      refine (known_any wr).mono ?_
      rintro e w1 ⟨rfl, hb1⟩
      go_wp2_with fail
      go_ret
      exact ⟨rfl, (hs.step hb1).2.2⟩
end Go.Proofs.YtloamijcabkekaaGreatDoor.Msg
