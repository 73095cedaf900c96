/-
  A part of the proof: what this text holds is told at each of its declarations.
-/
import Derived.Test.YtgeafnggodkpaaaGreatZaaz
namespace Go.Proofs.YtgeafnggodkpaaaGreat.Msg
open Go.RowKit Go.Lib Go.Proofs.YtgeafnggodkpaaaGreat.Mem Go.Proofs.YtgeafnggodkpaaaGreat.Tlv

/-- A row that is told to change: its cells stay there, and good. -/
def RowW (t : TypeId) (m : Nat) (good : Value → Prop) (lo hi : Nat) (ao : Option Addr) (W : World) : Prop := 0 < m → ∃ g cur, ao = some ⟨g, 0, none⟩ ∧ lo ≤ g ∧ g < hi ∧ W.heap[g]? = some (.cells cur t (0, 0)) ∧ ∀ j, j < m → ∃ x, cur[j]? = some x ∧ good x
theorem RowW.of_own {t : TypeId} {W : World} {B lo n size m k : Nat} {ao : Option Addr} {xs : List Value} {good : Value → Prop} (h : W.ownsRow B t size (.slice ao n k) n xs) (hm : n * size = m) (hB : lo ≤ B) (hg : ∀ x ∈ xs, good x) : RowW t m good lo W.heap.size ao W := fun h0 => by
  rcases h.2 with ⟨_, hn⟩ | ⟨g, cap, cur, hv, hb, hc, h1, h2, h3, h4⟩
  · subst hn; rw [Nat.zero_mul] at hm; omega
  · cases hv
    refine ⟨g, cur, rfl, Nat.le_trans hB hb, (Array.getElem?_eq_some_iff.1 hc).1, hc, fun j hj => ?_⟩
    have hl := h.1
    obtain ⟨y, hx⟩ : ∃ y, xs[j]? = some y := ⟨_, List.getElem?_eq_getElem (by omega)⟩
    refine ⟨y, ?_, hg _ (List.mem_of_getElem? hx)⟩
    rw [← h4, List.getElem?_take] at hx
    split at hx
    · rw [← hx, Array.getElem?_toList]
    · cases hx
theorem RowW.set {t t' : TypeId} {W : World} {b i m lo hi : Nat} {cs : Array Value} {fr : Nat × Nat} {ao : Option Addr} {good : Value → Prop} {x : Value} (h : RowW t m good lo hi ao W) (hb : W.heap[b]? = some (.cells cs t' fr)) (hx : t' = t → good x) : RowW t m good lo hi ao (W.setCell ⟨b, i, none⟩ x) := fun h0 => by
  obtain ⟨g, cur, ha, hl, hh, hg, hc⟩ := h h0
  by_cases e : g = b
  · subst e
    rw [hg] at hb
    cases hb
    refine ⟨g, _, ha, hl, hh, at_set hg, fun j hj => ?_⟩
    obtain ⟨y, hy, gy⟩ := hc j hj
    have hjs := (Array.getElem?_eq_some_iff.1 hy).1
    by_cases e : i = j
    · subst e
      exact ⟨x, by rw [Array.getElem?_setIfInBounds]; simp [hjs], hx rfl⟩
    · exact ⟨y, by rw [Array.getElem?_setIfInBounds]; simp [e, hy], gy⟩
  · exact ⟨g, cur, ha, hl, hh, at_other hg e, hc⟩

theorem RowW.later {t : TypeId} {W W' : World} {m lo hi : Nat} {ao : Option Addr} {good : Value → Prop} (h : RowW t m good lo hi ao W) (hb : Below W.heap.size W W') : RowW t m good lo hi ao W' := fun h0 => by
  obtain ⟨g, cur, ha, hl, hh, hg, hc⟩ := h h0
  exact ⟨g, cur, ha, hl, hh, (hb.block _ (Array.getElem?_eq_some_iff.1 hg).1).trans hg, hc⟩
/-- A byte. -/
def IsU8 (x : Value) : Prop := ∃ z : Int, x = .int .u8 z
/-- A row of one's own beside a box that is written. -/
theorem own_box {W : World} {B b i size n : Nat} {e t : TypeId} {v x : Value} {xs : List Value} {cs : Array Value} {fr : Nat × Nat} (h : W.ownsRow B e size v n xs) (hb : W.heap[b]? = some (.cells cs t fr)) (ht : t ≠ e) : (W.setCell ⟨b, i, none⟩ x).ownsRow B e size v n xs :=
  own_kept h (fun k hk => Below.heap_setCell _ _ _ _ (fun e2 => by
    obtain ⟨_, _, cur, hc⟩ := own_blk h hk
    have e3 : k = b := e2
    rw [e3, hb] at hc
    cases hc
    exact ht rfl))
end Go.Proofs.YtgeafnggodkpaaaGreat.Msg
