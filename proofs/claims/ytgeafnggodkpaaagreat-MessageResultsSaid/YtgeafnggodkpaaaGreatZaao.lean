/-
  A part of the proof: what this text holds is told at each of its declarations.
-/
import Derived.Laws.CopyOwn
import Derived.Deep.Cut
import Derived.Test.YtgeafnggodkpaaaGreatZaal
import Derived.Test.YtgeafnggodkpaaaGreatZaag
import Derived.Test.YtgeafnggodkpaaaGreatZaam
import Derived.Test.YtgeafnggodkpaaaGreatZaan
namespace Go.Proofs.YtgeafnggodkpaaaGreat.Msg
open Go.RowKit Go.Lib Go.Proofs.YtgeafnggodkpaaaGreat.Mem Go.Proofs.YtgeafnggodkpaaaGreat.Utf

/-- bare goes on: what is asked, the result's cell, what is built. -/
structure InBare (w : World) (v u : OV) (W : World) : Prop where
  o : W.heap[w.heap.size]? = some v.box
  r : W.heap[w.heap.size + 1]? = some zeroV.box
  b : W.heap[w.heap.size + 1 + 1]? = some u.box
  bel : Below w.heap.size w W
theorem InBare.set {w W : World} {v u : OV} (h : InBare w v u W) (i : Nat) (x : Value) (u' : OV) (hc : ∀ cs, u.box = .cells cs 27 → u'.box = .cells (cs.setIfInBounds i x) 27) : InBare w v u' (W.setCell ⟨w.heap.size + 1 + 1, i, none⟩ x) := by
  obtain ⟨h1, h2, h3, h4⟩ := h
  refine ⟨at_other h1 (by omega), at_other h2 (by omega), ?_, h4.setCell (p := ⟨w.heap.size + 1 + 1, i, none⟩) (by dsimp only; omega) x⟩
  have e := hc _ rfl
  rw [e]
  unfold OV.box at h3
  exact at_set h3
theorem InBare.done {w W : World} {v u : OV} (h : InBare w v u W) (cs : Array Value) (_hc : u.box = .cells cs 27) : (W.setRow (w.heap.size + 1) cs).heap[w.heap.size + 1]? = some (.cells cs 27) ∧ Below w.heap.size w (W.setRow (w.heap.size + 1) cs) := by
  have hr := h.r
  unfold OV.box at hr
  exact ⟨setRow_at' hr, below_setRow h.bel (by omega) _⟩

end Go.Proofs.YtgeafnggodkpaaaGreat.Msg
