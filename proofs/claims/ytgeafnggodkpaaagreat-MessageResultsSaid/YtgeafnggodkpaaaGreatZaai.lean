/-
  A part of the proof: what this text holds is told at each of its declarations.
-/
import Derived.Deep.RegionHeld3
import Derived.Deep.DrawnRows
import Derived.Deep.RegionLaw
import Derived.Test.YtgeafnggodkpaaaGreatZaag
namespace Go.Proofs.YtgeafnggodkpaaaGreat.Msg
open Go.RowKit Go.Lib Go.Proofs.YtgeafnggodkpaaaGreat.Mem Go.Proofs.YtgeafnggodkpaaaGreat.Utf

theorem any_next {α : Type} (p : α → Bool) (x : List α) (k : Nat) (u : α) (h : x[k]? = some u) (h1 : (x.take k).any p = false) (h2 : p u = false) : (x.take (k + 1)).any p = false := by
  obtain ⟨hl, e⟩ := List.getElem?_eq_some_iff.1 h
  rw [List.take_succ_eq_append_getElem hl, List.any_append, h1, e]
  simp [h2]
theorem any_here {α : Type} (p : α → Bool) (x : List α) (k : Nat) (u : α) (h : x[k]? = some u) (h2 : p u = true) : x.any p = true := List.any_eq_true.2 ⟨u, List.mem_of_getElem? h, h2⟩

/-- A place is given, or none. -/
def GivesI (b : Bool) (w : World) (e : Ending) (w' : World) : Prop := ∃ r : Int, e = .returned (.int .i64 r) ∧ decide (0 ≤ r) = b ∧ Below w.heap.size w w'

end Go.Proofs.YtgeafnggodkpaaaGreat.Msg
namespace Go.Proofs.YtgeafnggodkpaaaGreat.Msg
open Go.RowKit Go.Lib Go.Proofs.YtgeafnggodkpaaaGreat.Mem Go.Proofs.YtgeafnggodkpaaaGreat.Utf

/-- The worlds behind an operation's box. -/
def InBox (w : World) (v : OV) (W : World) : Prop := W.heap[w.heap.size]? = some v.box ∧ Below w.heap.size w W
theorem InBox.step {w W W' : World} {v : OV} (h : InBox w v W) (hb : Below W.heap.size W W') : InBox w v W' :=
  ⟨(hb.block _ (Array.getElem?_eq_some_iff.1 h.1).1).trans h.1, h.2.trans (hb.mono h.2.size)⟩
theorem InBox.drew {w W : World} {v : OV} (h : InBox w v W) : InBox w v W.drew := ⟨h.1, h.2.drew⟩
theorem InBox.new (w : World) (v : OV) : InBox w v (w.alloc v.box) := ⟨by show (w.heap.push _)[w.heap.size]? = some _; exact Array.getElem?_push_size, (Below.refl _ _).alloc (Nat.le_refl _) _⟩
theorem InBox.at_ {w W : World} {v : OV} {c : OC} (h : InBox w v W) (ho : OpAt w v c) : OpAt W v c := ho.later h.2

/-- What stands behind MayOp's first condition. -/
def restOp (v : OV) (c : OC) (attrs : Bool) : Bool :=
  if v.k = 1 then attrs else if v.k = 5 then decide (v.an = 1) else decide (v.bn ≤ 8) && !(c.parts.any fun u => !mayName u) && decide (v.cn ≤ 4000) && decide (0 ≤ v.n) && decide (v.n ≤ 1000)
/-- May an operation be? -/
def mayOpA (v : OV) (c : OC) (attrs : Bool) : Bool :=
  decide (fieldsOf v.k ≠ []) && sameOp v c (keepL (fieldsOf v.k) v) (keepC (fieldsOf v.k) c) && mayName v.name && mayName v.to && decide (v.an ≤ 50) && !(c.attrs.any fun u => !mayAttr u) && restOp v c attrs

end Go.Proofs.YtgeafnggodkpaaaGreat.Msg
