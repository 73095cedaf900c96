/-
  TlvMeans: in plain Lean, and the loop over values.
-/
import Derived.Test.YtpkabinmnkadeaaWe
import Derived.Test.YtpkabinmnkadeaaVw
namespace Go.Proofs.Ytpkabinmnkadeaa.Tlv
open Go.RowKit Go.Shelf Go.Proofs.Ytpkabinmnkadeaa.Mem

/-- All values stand at the beginning. -/
theorem vals_its (n : Nat) : ∀ l : List UInt8, l.length ≤ n → ∃ r, l = vals (its l) ++ r := by
  induction n with
  | zero =>
    intro l hl
    have : l = [] := List.eq_nil_of_length_eq_zero (by omega)
    subst this
    exact ⟨[], rfl⟩
  | succ n ih =>
    intro l hl
    by_cases h : fs l = 0
    · exact ⟨l, by rw [its_none l h]; rfl⟩
    · have h5 := fs_five l h
      have hle := fs_le l
      obtain ⟨r, hr⟩ := ih (l.drop (fs l)) (by rw [List.length_drop]; omega)
      have h1 := (val_hd1 l h).1
      refine ⟨r, ?_⟩
      rw [its_step l h, vals_cons, List.append_assoc, ← hr]
      exact h1
theorem vals_take (l : List UInt8) : (vals (its l)).length ≤ l.length ∧ l.take (vals (its l)).length = vals (its l) := by
  obtain ⟨r, hr⟩ := vals_its l.length l (Nat.le_refl _)
  constructor
  · have := congrArg List.length hr
    rw [List.length_append] at this
    omega
  · have h2 : l.take (vals (its l)).length = (vals (its l) ++ r).take (vals (its l)).length := congrArg (List.take _) hr
    rw [h2]
    exact List.take_left
theorem its_good (l : List UInt8) (k : Nat) (x : It) (hk : k < (its l).length) (hx : (its l)[k]?.getD (0, []) = x) : goodIt x := by
  obtain ⟨h1, h2, _⟩ := its_at l k hk
  rw [hx] at h1
  subst h1
  exact ⟨(val_hd1 _ h2).2.1, (val_hd1 _ h2).2.2⟩
theorem spart_good {b : List UInt8} {k : Nat} {pre : List El} {x : El} (hk : pre.length = k) (h : SPart (its b) (pre ++ [x])) : goodIt x.it := by
  obtain ⟨h1, h2, _⟩ := ip_snoc hk h
  exact its_good b k x.it h1 (came_last hk (by rw [h2]; simp [hk]))
theorem vals_snoc (pre : List El) (x : El) : vals (came (pre ++ [x])) = vals (came pre) ++ val x.it.1 x.it.2 := by
  simp [came, vals]
theorem vals_part_len {b : List UInt8} {pre : List El} (h : came pre = (its b).take pre.length) : (vals (came pre)).length ≤ b.length := by
  rw [h]
  have h1 := (vals_take b).1
  have h2 : vals (its b) = vals ((its b).take pre.length) ++ vals ((its b).drop pre.length) := by rw [← vals_app, List.take_append_drop]
  rw [h2, List.length_append] at h1
  omega

/-- The loop over values behind a number of rounds: g the writer, ib its variable's box, B the place from which all is new. -/
structure MeansAt (w : World) (B g ib : Nat) (b : List UInt8) (pre : List El) (W : World) : Prop where
  bx : Boxed W ib 63 (.pointer (some ⟨g, 0, none⟩))
  wr : WrS B g ⟨vals (came pre), 0⟩ W
  ps : came pre = (its b).take pre.length
  bel : Below B w W
theorem meansAt_own (w : World) (B g ib : Nat) (b : List UInt8) (B' : Nat) (hB : B ≤ B') (hw : B ≤ w.heap.size) : OwnFrom B' (MeansAt w B g ib b) := by
  intro pre X Y row h hg hr
  have hr2 : ∀ r, row = some r → ∃ o : Obj, X.heap[r]? = some o ∧ o.isCells = false := fun r e => (hr r e).2
  obtain ⟨v, hv⟩ := h.wr
  refine ⟨boxed_own _ _ (fun _ : Unit => Value.pointer (some ⟨g, 0, none⟩)) () X Y row h.bx hg hr2, ⟨v, hv.grown hg ?_ ?_⟩, h.ps, h.bel.grown hg (Nat.le_trans hw h.bel.size) (fun k e => by have := (hr k e).1; omega)⟩
  · intro e
    obtain ⟨o, ho, hc⟩ := hr2 g e.symm
    rw [hv.at_] at ho
    rw [← Option.some.inj ho] at hc
    cases hc
  · intro k hk e
    obtain ⟨o, ho, hc⟩ := hr2 k e.symm
    rcases hv.own.2 with ⟨h1, _⟩ | ⟨g', cap, cur, h1, _, h3, _⟩
    · rw [h1] at hk; cases hk
    · rw [h1] at hk
      have : g' = k := by simpa [Value.ownBlock] using hk
      subst this
      rw [h3] at ho
      rw [← Option.some.inj ho] at hc
      cases hc
/-- One round: the bytes lie apart from the writer's. -/
theorem apart_of {w W0 W : World} {B g ib : Nat} {b : List UInt8} {pre : List El} {x : El} (h0 : MeansAt w B g ib b pre W0) (hf : elFr x W0) (hk : CelKept W0 W) : 0 < x.cap → ∀ a, x.ao = some a → ∀ v, WrAt B g (vals (came pre)) 0 v W → some a.block ≠ v.ownBlock := by
  intro _ a ha v hv e
  obtain ⟨v0, hv0⟩ := h0.wr
  have h1 := hk g _ hv0.at_ rfl
  rw [hv.at_] at h1
  have h2 : v = v0 := by
    have := Option.some.inj h1
    simp only [Obj.cells.injEq] at this
    simpa using this.1
  subst h2
  have h3 := (own_blk hv0.own e.symm).2
  have := hf a ha
  omega
theorem stays_others {g : Nat} {W W' : World} (h : Stays g W W') (hb : W.heap.size ≤ W'.heap.size) {o : Obj} (hg : W.heap[g]? = some o) (hc : o.isCells = true) : KeepsOthers W W' :=
  ⟨hb, fun k u hk hu => h k u hk (by rintro rfl; rw [hk] at hg; cases Option.some.inj hg; rw [hc] at hu; cases hu) (by rintro c fr rfl; cases hu)⟩
end Go.Proofs.Ytpkabinmnkadeaa.Tlv
