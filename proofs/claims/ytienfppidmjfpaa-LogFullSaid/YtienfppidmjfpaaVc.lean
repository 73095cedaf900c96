/-
  The walk of slices.Clone at bytes.
-/
import Derived.Test.YtienfppidmjfpaaVb
namespace Go.Proofs.Ytienfppidmjfpaa.Tlv
open Go.RowKit Go.Proofs.Ytienfppidmjfpaa.Mem

theorem byT : SliceT Try.prog 29 5 (.int .u8 0) 1 1 := ⟨Try.underlying29, by kernel_rfl, rfl, by decide⟩

theorem nil_no (a : Addr) (n cap : Nat) (w : World) : Sem.run Try.prog (binOp BinOp.eql 29 (.slice (some a) n cap) (.slice none 0 0)) w = .ok (.bool false) w := by kernel_rfl
theorem nil_yes (n cap : Nat) (w : World) : Sem.run Try.prog (binOp BinOp.eql 29 (.slice none n cap) (.slice none 0 0)) w = .ok (.bool true) w := by kernel_rfl

/-- Bytes that were laid anew. -/
def GivesC (w : World) (l : List UInt8) (e : Ending) (w' : World) : Prop := ∃ ao cap, e = .returned (.slice ao l.length cap) ∧ Rd w' 1 ao l.length cap (byV l) ∧ Below w.heap.size w w' ∧ (ao = none ∨ ∃ b, w.heap.size ≤ b ∧ ao = some ⟨b, 0, none⟩)

/-- .. and that are owned. -/
def GivesO (w : World) (l : List UInt8) (e : Ending) (w' : World) : Prop := ∃ v, e = .returned v ∧ w'.ownsRow w.heap.size 5 1 v l.length (byV l) ∧ Below w.heap.size w w'
theorem gives_of {w : World} {l : List UInt8} {e : Ending} {w1 : World} (h : GivesO w l e w1) : GivesC w l e w1 := by
  obtain ⟨v, rfl, ho, hb⟩ := h
  obtain ⟨ao, cap, rfl, hr⟩ := Rd.of_own ho
  refine ⟨ao, cap, rfl, hr, hb, ?_⟩
  rcases ho.2 with ⟨h, _⟩ | ⟨g, c, cur, h, hg, _⟩
  · exact .inl (Value.slice.inj h).1
  · exact .inr ⟨g, hg, (Value.slice.inj h).1⟩
theorem gives_own {w w1 : World} {l : List UInt8} {n : Nat} {ao : Option Addr} {cap : Nat} (hl : l.length = n) (ho : w1.ownsRow w.heap.size 5 1 (.slice ao (0 + n) cap) (0 + n) (byV [] ++ byV l)) (hb : Below w.heap.size w w1) : GivesO w l (.returned (.slice ao n cap)) w1 := by
  subst hl
  rw [Nat.zero_add] at ho
  exact ⟨_, rfl, ho, hb⟩

set_option maxRecDepth 100000 in
theorem clone_own (ao : Option Addr) (n cap : Nat) (l : List UInt8) (w : World) (hr : Rd w 1 ao n cap (byV l)) (hn : n ≤ 1000000000) :
    Calls Try.prog 51 #[.slice ao n cap] w (GivesO w l) := by
  have ll : l.length = n := by have := hr.1; rw [byV_len] at this; omega
  cases ao with
  | none =>
    have hc := hr.2.2.2.1 rfl
    obtain ⟨h0, hx⟩ := hr.empty hc
    subst hc; subst h0
    have hl : l = [] := List.eq_nil_of_length_eq_zero ll
    subst hl
    have hn0 := nil_yes 0 0 w
    go_enter Try.func51, Try.ntmps51
    go_wp2
    go_ret
    exact ⟨_, rfl, World.ownsRow_nil _ _ _ _, Below.refl _ _⟩
  | some a =>
    have hn0 := nil_no a n cap w
    go_enter Try.func51, Try.ntmps51
    have ho0 : (w.alloc (.cells #[] 5)).ownsRow w.heap.size 5 1 (.slice (some ⟨w.heap.size, 0, none⟩) 0 0) 0 (byV []) := by
      refine ⟨rfl, .inr ⟨w.heap.size, 0, #[], rfl, ?_⟩⟩
      exact ⟨Nat.le_refl _, (by show (w.heap.push _)[w.heap.size]? = some _; simp), Nat.le_refl _, Nat.zero_le _, rfl, rfl⟩
    go_wp2_with (at_builtin; refine wpList_app _ rfl (.tmp 5) (.tmp 6) 29 rfl w.heap.size 5 (.int .u8 0) 1 1 byT _ 0 (byV []) rfl ho0 (some a) n cap (byV l) rfl (hr.later ((Below.refl _ w).alloc (Nat.le_refl _) _)) (byV_one _) (by unfold maxLen; omega) (by omega) (by simp) ?_; intro ao' cap' w1 ho1 _ hb1 _)
    go_ret
    exact gives_own ll ho1 (((Below.refl _ w).alloc (Nat.le_refl _) _).trans hb1)
theorem clone_any (ao : Option Addr) (n cap : Nat) (l : List UInt8) (w : World) (hr : Rd w 1 ao n cap (byV l)) (hn : n ≤ 1000000000) :
    Calls Try.prog 51 #[.slice ao n cap] w (GivesC w l) := (clone_own ao n cap l w hr hn).mono fun _ _ h => gives_of h
end Go.Proofs.Ytienfppidmjfpaa.Tlv
