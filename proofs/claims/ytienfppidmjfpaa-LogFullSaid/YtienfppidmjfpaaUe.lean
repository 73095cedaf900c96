/-
  The walks of runes that are put as bytes: utf.put, utf.Encode and the reference's Put, Encode.
-/
import Derived.Test.YtienfppidmjfpaaUx
import Derived.Test.YtienfppidmjfpaaMem
import Derived.Deep.RegionHeld3
import Derived.Deep.DrawnRows
namespace Go.Proofs.Ytienfppidmjfpaa.Utf
open Go.RowKit Go.Proofs.Ytienfppidmjfpaa.Mem
attribute [local go_sem ↓] Go.wp_at_zero Go.wp_at_succ

theorem byT : SliceT Try.prog 29 5 (.int .u8 0) 1 1 := ⟨Try.underlying29, by kernel_rfl, rfl, by decide⟩
/-- A slice of bytes is answered; what was there is as it was. -/
def GivesB (w : World) (l : List UInt8) (e : Ending) (w' : World) : Prop := ∃ ao cap, e = .returned (.slice ao l.length cap) ∧ Rd w' 1 ao l.length cap (byV l) ∧ Below w.heap.size w w'

theorem byV_enc (r : Int) (h : may r = true) : byV (enc r) = (nums r).map (Value.int .u8) := by
  unfold byV enc
  rw [List.map_map]
  refine List.map_congr_left fun n hn => ?_
  have := nums_bd r h n hn
  simp only [Function.comp]
  rw [ofN_toNat n this.1 this.2]
theorem byV_eq (l : List UInt8) (r : Int) (c : List Int) (h : may r = true) (hc : nums r = c) : byV (l ++ enc r) = byV l ++ c.map (Value.int .u8) := by rw [byV_app, byV_enc r h, hc]

/-- A row of bytes of one's own is answered. -/
def OwnsB (base : Nat) (w : World) (l : List UInt8) (e : Ending) (w' : World) : Prop := ∃ ao cap, e = .returned (.slice ao l.length cap) ∧ w'.ownsRow base 5 1 (.slice ao l.length cap) l.length (byV l) ∧ Below base w w'

theorem wraps_i64' (n : Int) (h₀ : 0 ≤ n) (h₁ : n < 2 ^ 63) : IntKind.i64.wrap n = n := by rw [IntKind.wrap_i64]; omega
theorem owns_of {base : Nat} {w w2 : World} {l : List UInt8} {r : Int} {c : List Int} {ao : Option Addr} {n cap : Nat} {xs : List Value} (hm : may r = true) (hc : nums r = c) (hn : n = l.length + c.length) (hx : xs = byV l ++ c.map (Value.int .u8)) (ho : w2.ownsRow base 5 1 (.slice ao n cap) n xs) (hb : Below base w w2) :
    OwnsB base w (l ++ enc r) (.returned (.slice ao n cap)) w2 := by
  subst hn; subst hx
  have hl : (l ++ enc r).length = l.length + c.length := by rw [List.length_append, enc_len, hc]
  refine ⟨ao, cap, by rw [hl], ?_, hb⟩
  rw [hl, byV_eq l r c hm hc]
  exact ho

end Go.Proofs.Ytienfppidmjfpaa.Utf
