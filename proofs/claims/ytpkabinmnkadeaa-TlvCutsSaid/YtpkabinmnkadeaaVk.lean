/-
  The statement's 'known' of layer 2.
-/
import Derived.Test.YtpkabinmnkadeaaVj
import Derived.Test.YtpkabinmnkadeaaVg
namespace Go.Proofs.Ytpkabinmnkadeaa.Tlv
open Go.RowKit Go.Proofs.Ytpkabinmnkadeaa.Mem

theorem WrAt.new (W : World) : WrAt W.heap.size W.heap.size [] 0 (.slice none 0 0) (W.alloc (.cells #[.slice none 0 0, .int .i64 0] 72)) :=
  ⟨by show (W.heap.push _)[W.heap.size]? = some _; simp, Nat.le_refl _, World.ownsRow_nil _ _ _ _⟩

set_option maxRecDepth 100000 in
theorem known_any (W : World) : Calls Try.prog 13 #[] W (Utf.GivesTrue W) := by
  go_enter Try.func13, Try.ntmps13
  go_wp2_with fail
  refine (wnumber_any W.heap.size W.heap.size [] (.slice none 0 0) 7 258 _ (WrAt.new W) (by decide) (by simp)).mono ?_
  rintro e w1 ⟨rfl, v1, hw1, hb1, _⟩
  go_wp2_with fail
  refine (wend_ok _ _ _ _ _ hw1 (by decide)).mono ?_
  rintro e w2 ⟨v2, rfl, ho2, hb2⟩
  rw [show ([] : List UInt8) ++ val 7 (num8 258) = [7, 0, 0, 0, 8, 0, 0, 0, 0, 0, 0, 1, 2] from (by decide)] at ho2
  obtain ⟨ao, cap, rfl, hr⟩ := Rd.of_own ho2
  have hs := run_strD ao 13 cap _ w2 hr
  have hb : Below W.heap.size W w2 := ((((Below.refl _ W).alloc (Nat.le_refl _) _).trans hb1)).trans (hb2.mono (by have := hw1.lt; omega))
  go_wp2
  go_ret
  exact ⟨rfl, hb⟩
end Go.Proofs.Ytpkabinmnkadeaa.Tlv
