/-
  The walk of LogNil.
-/
import Derived.Test.YtienfppidmjfpaaLt
namespace Go.Proofs.Ytienfppidmjfpaa.Msg
open Go.RowKit Go.Lib Go.Proofs.Ytienfppidmjfpaa.Mem Go.Proofs.Ytienfppidmjfpaa.Tlv

/-- The worlds behind the row of the two. -/
def InNil (w W : World) : Prop := W.heap[w.heap.size]? = some (.cells #[.bool false, .int .u64 0, .slice none 0 0, .slice none 0 0] 42) ∧ W.heap[w.heap.size + 1]? = some (.cells #[.pointer none, .pointer (some ⟨w.heap.size, 0, none⟩)] 23) ∧ Below w.heap.size w W
theorem InNil.step {w W W' : World} (h : InNil w W) (hb : Below W.heap.size W W') : InNil w W' :=
  ⟨(hb.block _ (Array.getElem?_eq_some_iff.1 h.1).1).trans h.1, (hb.block _ (Array.getElem?_eq_some_iff.1 h.2.1).1).trans h.2.1, h.2.2.trans (hb.mono h.2.2.size)⟩
def pAt (w : World) (k : Nat) : Option Nat := if k = 0 then none else some w.heap.size
theorem InNil.gone {w W : World} (h : InNil w W) (k : Nat) : Gone (pAt w k) W := by
  intro g hg
  have : g = w.heap.size := by
    unfold pAt at hg
    split at hg
    · cases hg
    · exact (Option.some.inj hg).symm
  subst this
  exact ⟨h.1, Rd.nil _ _, Rd.nil _ _⟩
theorem InNil.cell {w W : World} (h : InNil w W) (k : Nat) (hk : k < 2) : W.cell? ⟨w.heap.size + 1, 0 + k * 1, none⟩ = some (ptr (pAt w k)) := by
  have h2 := h.2.1
  rcases (by omega : k = 0 ∨ k = 1) with rfl | rfl
  · simp [World.cell?, h2, ptr, pAt]
  · simp [World.cell?, h2, ptr, pAt]

set_option maxRecDepth 100000 in
set_option maxHeartbeats 4000000 in
theorem logNil_any (w : World) : Calls Try.prog 4 #[] w (GivesB true w) := by
  go_enter Try.func4, Try.ntmps4
  go_wp2_with fail
  generalize hg : (w.alloc _).alloc _ = W0
  have hs0 : InNil w W0 := by
    obtain ⟨h1, h2⟩ := two_boxes w (.cells #[.bool false, .int .u64 0, .slice none 0 0, .slice none 0 0] 42) (.cells #[.pointer none, .pointer (some ⟨w.heap.size, 0, none⟩)] 23)
    rw [← hg]
    exact ⟨h1, h2, below_two w _ _⟩
  clear hg
  go_loopw [3] (fun p wr => ∃ k : Nat, k ≤ 2 ∧ p = .int .i64 (k : Int) ∧ InNil w wr) (fun p _ => 2 - (intOf p).toNat)
  case atStart => exact ⟨0, by omega, rfl, hs0⟩
  case round =>
    obtain ⟨k, hk, rfl, hs⟩ := hrel
    by_cases hk2 : k < 2
    · have c1 := hs.cell k hk2
      rw [Nat.zero_add, Nat.mul_one] at c1
      have i0 : (0 : Int) ≤ (k : Int) := by omega
      have i1 : (k : Int) < (2 : Int) := by omega
      obtain ⟨p, hp⟩ : ∃ p, pAt w k = p := ⟨_, rfl⟩
      have hG : ∀ W, InNil w W → Gone p W := fun W h => hp ▸ h.gone k
      rw [hp] at c1
      clear hp
      have happ := append_gone p zeroR wr (hG _ hs)
      unfold RV.val RV.cells zeroR zeroV at happ
      go_wp2_with fail
      refine happ.mono ?_
      rintro e w1 ⟨rfl, hb1⟩
      have s1 := hs.step hb1
      clear c1 happ
      go_wp2_with fail
      refine (at_gone p 1 w1 (hG _ s1)).mono ?_
      rintro e w2 ⟨rfl, hb2⟩
      have s2 := s1.step hb2
      simp only [RV.val, RV.cells, zeroR, zeroV]
      go_wp2_with fail
      generalize hg3 : w2.alloc _ = w3
      have s3 : InNil w w3 := s2.step (by rw [← hg3]; exact (Below.refl _ _).alloc (Nat.le_refl _) _)
      clear hg3
      refine (from_gone p 0 w3 (hG _ s3)).mono ?_
      rintro e w4 ⟨rfl, rfl⟩
      go_wp2_with fail
      refine (cut_gone p 0 w4 (hG _ s3)).mono ?_
      rintro e w5 ⟨rfl, rfl⟩
      go_wp2_with fail
      refine (drop_gone p 0 w5 (hG _ s3)).mono ?_
      rintro e w6 ⟨rfl, rfl⟩
      go_wp2_with fail
      refine (base_gone p w6 (hG _ s3)).mono ?_
      rintro e w7 ⟨rfl, rfl⟩
      go_wp2_with fail
      refine (end_gone p w7 (hG _ s3)).mono ?_
      rintro e w8 ⟨rfl, q, rfl⟩
      have s8 := s3.step (below_drewN (Below.refl _ _) q)
      generalize w7.drewN q = W8 at *
      go_wp2_with fail
      refine (len_gone p W8 (hG _ s8)).mono ?_
      rintro e w9 ⟨rfl, rfl⟩
      go_wp2_with fail
      refine (size_gone p w9 (hG _ s8)).mono ?_
      rintro e w10 ⟨rfl, rfl⟩
      go_wp2_with fail
      refine (newLog_any w10).mono ?_
      rintro e w11 ⟨rfl, e11⟩
      have s11 : InNil w w11 := s8.step (by rw [e11]; exact (Below.refl _ _).alloc (Nat.le_refl _) _)
      clear e11
      go_wp2_with fail
      refine (begins_gone p _ w11 (hG _ s11)).mono ?_
      rintro e w12 ⟨rfl, rfl⟩
      go_wp2_with fail
      refine (newLog_any w12).mono ?_
      rintro e w13 ⟨rfl, e13⟩
      have s13 : InNil w w13 := s11.step (by rw [e13]; exact (Below.refl _ _).alloc (Nat.le_refl _) _)
      have hL : LogR true w12.heap.size 0 0 none 0 none 0 [] [] w13 := ⟨by rw [e13]; show (w12.heap.push _)[w12.heap.size]? = some _; exact Array.getElem?_push_size, Rd.nil _ _, Rd.nil _ _⟩
      clear e13
      go_wp2_with fail
      refine (begins_of_gone p _ w13 (hG _ s13) hL).mono ?_
      rintro e w14 ⟨rfl, rfl⟩
      go_wp2_with fail
      refine (copy_gone p w14 (hG _ s13)).mono ?_
      rintro e w15 ⟨rfl, rfl⟩
      have hpn := neq_none w15
      go_wp2_with fail
      go_roundw
      case rel => exact ⟨k + 1, by omega, by go_num, s13⟩
      case measure => simp [intOf]; omega
    · have hkn2 : k = 2 := by omega
      subst hkn2
      go_wp2_with fail
      refine (of_arg wr).mono ?_
      rintro e w1 ⟨rfl, rfl⟩
      go_wp2_with fail
      refine (known_any w1).mono ?_
      rintro e w2 ⟨rfl, hb2⟩
      go_wp2_with fail
      go_ret
      exact ⟨rfl, hs.2.2.trans (hb2.mono hs.2.2.size)⟩
end Go.Proofs.Ytienfppidmjfpaa.Msg
