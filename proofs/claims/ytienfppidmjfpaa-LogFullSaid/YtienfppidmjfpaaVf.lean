/-
  tlv.All, and the reference's All.
-/
import Derived.Test.YtienfppidmjfpaaVe
import Derived.Deep.RegionHeld3
namespace Go.Proofs.Ytienfppidmjfpaa.Tlv
open Go.RowKit Go.Proofs.Ytienfppidmjfpaa.Mem

theorem allF_any (ao : Option Addr) (n cap : Nat) (w : World) : Calls Try.prog 76 #[.slice ao n cap] w fun e w' => e = .returned (.func (.func 81) #[] #[.pointer (some ⟨w.heap.size, 0, none⟩)]) ∧ w.alloc (.cells #[.slice ao n cap] 29) = w' := by
  go_enter Try.func76, Try.ntmps76
  go_wp2
  go_ret
  exact ⟨rfl, rfl⟩

/-- The cells of items. -/
def itV (xs : List El) : List Value := xs.flatMap fun x => [.int .u8 (x.it.1.toNat : Int), .slice x.ao x.it.2.length x.cap]
theorem itV_app (a b : List El) : itV (a ++ b) = itV a ++ itV b := by simp [itV]
theorem itV_len (a : List El) : (itV a).length = a.length * 2 := by
  induction a with
  | nil => rfl
  | cons x a ih => simp only [itV, List.flatMap_cons, List.length_append] at ih ⊢; simp at ih ⊢; omega
/-- An element's bytes lie below a block. -/
def elLow (B : Nat) (x : El) : Prop := 0 < x.cap → ∀ a, x.ao = some a → a.block < B
def allEl (B : Nat) (xs : List El) (W : World) : Prop := ∀ x ∈ xs, elG x W ∧ elLow B x
theorem allEl.below {B : Nat} {xs : List El} {W W' : World} (h : allEl B xs W) (hb : Below B W W') : allEl B xs W' := fun x hx => ⟨Rd.below (h x hx).1 hb (h x hx).2, (h x hx).2⟩
theorem allEl.snoc {B : Nat} {xs : List El} {W : World} {x : El} (h : allEl B xs W) (h1 : elG x W) (h2 : elLow B x) : allEl B (xs ++ [x]) W := by
  intro y hy
  rcases List.mem_append.1 hy with hy | hy
  · exact h y hy
  · rw [List.mem_singleton] at hy; subst hy; exact ⟨h1, h2⟩

/-- What the reference's All answers. -/
def GivesAll (w : World) (b : List UInt8) (e : Ending) (w' : World) : Prop := ∃ ao cap xs, e = .returned (.tuple #[.slice ao (its b).length cap, .int .i64 (ip (its b) (its b).length : Nat)]) ∧ came xs = its b ∧
  Rd w' 2 ao (its b).length cap (itV xs) ∧ allEl w.heap.size xs w' ∧ Below w.heap.size w w' ∧ (0 < cap → ∀ a, ao = some a → w.heap.size ≤ a.block)

/-- First of what stands from a place on. -/
def AnsAt (B : Nat) (w : World) (l : List UInt8) (e : Ending) (w' : World) : Prop := Below w.heap.size w w' ∧
  ((fs l = 0 ∧ e = .returned (.tuple #[.int .u8 0, .slice none 0 0, .int .i64 0])) ∨
   (fs l ≠ 0 ∧ ∃ x : El, x.it = hd1 l ∧ e = .returned (.tuple #[.int .u8 (x.it.1.toNat : Int), .slice x.ao x.it.2.length x.cap, .int .i64 (fs l : Int)]) ∧ elG x w' ∧ elLow B x))
end Go.Proofs.Ytienfppidmjfpaa.Tlv
