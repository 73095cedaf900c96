/-
  A range over a function whose elements point into memory: the loop's law with one word more for the body: what an element points to lies in the world in which it is handed over (G).
-/
import Derived.WalkKit
import Derived.WalkSpells
import Derived.RangeFuncFrom
import Derived.RangeFuncBox
import Derived.RangeFuncCalls
namespace Go.Proofs.Ytienfppidmjfpaa.Tlv
open Go Go.RowKit

/-- All blocks of cells stay. -/
def CelKept (W W' : World) : Prop := ∀ (k : Nat) (o : Obj), W.heap[k]? = some o → o.isCells = true → W'.heap[k]? = some o
theorem CelKept.of_below {W W' : World} (h : Below W.heap.size W W') : CelKept W W' := fun k _ hk _ => (h.block k (Array.getElem?_eq_some_iff.1 hk).1).trans hk
theorem CelKept.trans {A B C : World} (h : CelKept A B) (k : CelKept B C) : CelKept A C := fun j o h1 h2 => k j o (h j o h1 h2) h2
theorem CelKept.put {A B : World} (h : CelKept A B) {l : Nat} {o o' : Obj} (hl : B.heap[l]? = some o) (ho : o.isCells = false) : CelKept A (B.putObj l o') := by
  intro j u h1 h2
  have h3 := h j u h1 h2
  have : j ≠ l := by rintro rfl; rw [h3] at hl; cases hl; rw [h2] at ho; cases ho
  exact (World.putObj_heap_other this).trans h3
/-- An iterator's contract: whatever it hands over has G where it is handed over. -/
def SeqG {α : Type} (F : Fence) (n : Nat) (P : Program) (g : Nat) (lb : Array Value) (encs : α → Array Value) (Kp : World → World → Prop) (G Fr : α → World → Prop) (S Sp : List α → Prop) (N : Nat) (w : World) : Prop :=
  ∀ (l : Nat) (J Jx : List α → World → Prop) (W : World), Below w.heap.size w W → AbidesFrom W.heap.size J → AbidesFrom W.heap.size Jx →
    (∀ pre x W1, G x W1 → Sp (pre ++ [x]) → (∃ W0, J pre W0 ∧ Fr x W0 ∧ CelKept W0 W1) → J pre W1 → pre.length < N → YieldAt F (n - 1) P l (encs x) W1 fun e W' =>
      (e = .returned (.bool true) ∧ J (pre ++ [x]) W' ∧ Kp W1 W') ∨ (e = .returned (.bool false) ∧ Jx (pre ++ [x]) W')) →
    J [] W → CallsIn F n P g (#[.func (.yield l) #[] #[]] ++ lb) W fun e W' => (∃ v, e = .returned v) ∧ ((∃ xs, S xs ∧ J xs W') ∨ (∃ pre, Sp pre ∧ Jx pre W'))

/-- How a round's body ends. -/
def endsG {α : Type} (Kp : World → World → Prop) (I : List α → World → Prop) (Ix : List α → World → Prop) (xs : List α) (W : World) : Exit → Act → World → Prop
  | .normal, _, W' => KeepsOthers W W' ∧ Kp W W' ∧ I xs W'
  | .ret, _, W' => KeepsOthers W W' ∧ Ix xs W'
  | _, _, _ => False

/-- The record of the loop. -/
def recG (fn : Nat) (a : Act) (ps : Array Tmp) (assign body : Code) (D : Nat) (st : LoopState) (pe : Option Code) : Loop := { state := st, pending := pe, fn, tmps := a.tmps, params := ps, assign, body, defers := D }

/-- The two blocks that the loop lays: the rounds' deferred calls at D, its record behind it. -/
structure LaidG (D : Nat) (lp : Loop) (W : World) : Prop where
  loop : W.heap[D + 1]? = some (.loop lp)
  defers : W.heap[D]? = some (.deferred (some []))
theorem LaidG.lt {D : Nat} {lp : Loop} {W : World} (h : LaidG D lp W) : D + 1 < W.heap.size := (Array.getElem?_eq_some_iff.1 h.loop).1
theorem LaidG.turn {D : Nat} {lp : Loop} {W : World} (h : LaidG D lp W) (lp' : Loop) : LaidG D lp' (W.putObj (D + 1) (.loop lp')) :=
  ⟨World.putObj_heap_same h.lt, (World.putObj_heap_other (by omega)).trans h.defers⟩
theorem LaidG.keeps {D : Nat} {lp : Loop} {W W' : World} (h : LaidG D lp W) (k : KeepsOthers W W') : LaidG D lp W' := ⟨k.same _ _ h.loop rfl, k.same _ _ h.defers rfl⟩
theorem LaidG.walks {D B : Nat} {lp : Loop} {W W' : World} {row : Option Nat} (h : LaidG D lp W) (hg : W.grownBy W' row) (hr : ∀ r, row = some r → B ≤ r ∧ ∃ o : Obj, W.heap[r]? = some o ∧ o.isWalk = true) : LaidG D lp W' :=
  ⟨(grownBy_keeps hg (fun r e => (hr r e).2) h.loop rfl).trans h.loop, (grownBy_keeps hg (fun r e => (hr r e).2) h.defers rfl).trans h.defers⟩

theorem range_G {α : Type} {F : Fence} {n : Nat} {P : Program} {g : Operand} {ps : Array Tmp} {assign body : Code} {Q : Exit → Act → World → Prop} {a : Act} {w : World}
    (hro : F.round = none) (h1 : 1 ≤ n) {gf : Nat} {lb : Array Value} (hg : a.eval g = .func (.func gf) #[] lb) (hFg : F.fn gf) (eg : ∀ args w, (callFunc gf args).run P w = .ok (.enter gf args) w)
    {encs : α → Array Value} {Kp : World → World → Prop} {G Fr : α → World → Prop} {S Sp : List α → Prop} {N : Nat} {w0 : World} (hseq : SeqG F (n - 1) P gf lb encs Kp G Fr S Sp N w0)
    (hKt : ∀ {A B C : World}, Kp A B → Kp B C → Kp A C) (hKb : ∀ (W : World) (l : Nat) (o o' : Obj), w.heap.size ≤ l → W.heap[l]? = some o → o.isCells = false → o.isWalk = false → Kp W (W.putObj l o'))
    (hb0 : Below w0.heap.size w0 w) (hps : ∀ x, (encs x).size = ps.size)
    (I Ix : List α → World → Prop) (hI : OwnFrom w.heap.size I) (hIx : OwnFrom w.heap.size Ix) (hG : OwnFrom w.heap.size G) (h0 : I [] w) (a₁ : α → Act)
    (hassign : ∀ (l : Nat) (x : α) (W : World) (K : Act → World → Prop), K (a₁ x) W →
      assign.wpIn (F.inRound l) (n - 1 - 1) P (Exit.then K (fun _ _ _ => False)) { tmps := (ps.zip (encs x)).foldl (fun t (p, v) => t.setIfInBounds p v) a.tmps, defers := [] } W)
    (hbody : ∀ (l : Nat) (pre : List α) (x : α) (W : World), G x W → Sp (pre ++ [x]) → (∃ W0, I pre W0 ∧ Fr x W0 ∧ CelKept W0 W) → I pre W → pre.length < N → body.wpIn (F.inRound l) (n - 1 - 1) P (endsG Kp I Ix (pre ++ [x]) W) (a₁ x) W)
    (hdone : ∀ (D : Nat) (xs : List α) (W : World), w.heap.size ≤ D → S xs → I xs W → W.heap[D]? = some (.deferred (some [])) → Q .normal { a with defers := { target := .collected D, args := #[] } :: a.defers } W)
    (hstop : ∀ (D : Nat) (pre : List α) (W : World), w.heap.size ≤ D → Sp pre → Ix pre W → W.heap[D]? = some (.deferred (some [])) → Code.ret.wpIn F n P Q { a with defers := { target := .collected D, args := #[] } :: a.defers } W) :
    (Code.rangeFunc g ps assign body).wpIn F n P Q a w := by
  refine wpIn_rangeFunc fun fn hfn => ?_
  rw [hro]
  -- the first world of the loop
  obtain ⟨V, hV⟩ : ∃ V, V = (w.alloc (.deferred (some []))).alloc (.loop (recG fn a ps assign body w.heap.size .ready none)) := ⟨_, rfl⟩
  have hsz : V.heap.size = w.heap.size + 2 := by rw [hV]; simp
  have laid : LaidG w.heap.size (recG fn a ps assign body w.heap.size .ready none) V := by
    rw [hV]
    exact ⟨by have := World.alloc_heap_new (w.alloc (.deferred (some []))) (.loop (recG fn a ps assign body w.heap.size .ready none)); rwa [World.size_alloc] at this,
      (Below.heap_alloc _ _ _ (by simp)).trans (World.alloc_heap_new w _)⟩
  have hIV : I [] V := by rw [hV]; exact hI.alloc _ (hI.alloc _ h0)
  have hbV : Below w0.heap.size w0 V := by
    rw [hV]; exact hb0.trans ((((Below.refl _ w).alloc (Nat.le_refl _) _).alloc (by simp) _).mono hb0.size)
  have notWalk : ∀ {A : World} {row : Option Nat}, (∀ r, row = some r → V.heap.size ≤ r ∧ ∃ o : Obj, A.heap[r]? = some o ∧ o.isWalk = true) → ∀ r, row = some r → w.heap.size ≤ r ∧ ∃ o : Obj, A.heap[r]? = some o ∧ o.isCells = false :=
    fun hr r e => by obtain ⟨hB, o, ho, hw⟩ := hr r e; exact ⟨by omega, o, ho, Obj.not_cells_of_walk hw⟩
  refine ⟨w.heap.size + 1, [{ target := .collected w.heap.size, args := #[] }], V, { target := .fn (.func gf) lb, args := #[.func (.yield (w.heap.size + 1)) #[] #[]] }, V, gf,
    #[.func (.yield (w.heap.size + 1)) #[] #[]] ++ lb, V, by rw [hV]; exact run_enterLoop_outer _ _ _ _ _, by simp only [resolve, hg]; simp [go_sem], ?_, by simp [invoke, go_sem, eg], fun _ => h1, ?_⟩
  · intro f' hf'
    simp [Target.leads] at hf'
    subst hf'
    exact hFg
  refine (hseq (w.heap.size + 1) (fun pre W => I pre W ∧ LaidG w.heap.size (recG fn a ps assign body w.heap.size .ready none) W)
    (fun pre W => Ix pre W ∧ LaidG w.heap.size (recG fn a ps assign body w.heap.size .done (some .ret)) W) V hbV
    (fun s A B row h hg' hr => ⟨hI s A B row h.1 hg' (notWalk hr), h.2.walks hg' hr⟩) (fun s A B row h hg' hr => ⟨hIx s A B row h.1 hg' (notWalk hr), h.2.walks hg' hr⟩) ?round ⟨hIV, laid⟩).mono ?behind
  case round =>
    rintro pre x W hGx hSx ⟨W0, ⟨hI0, _⟩, hF0, hk0⟩ ⟨hIW, lW⟩ hlen
    have hy := run_yield (P := P) (args := encs x) lW.loop (by exact hps x)
    refine ⟨fn, _, assign, body, hy, roundIn_of_wpIn hfn (hassign _ x W _ ⟨_, run_beginRound lW.loop rfl, ?_⟩)⟩
    have lB := lW.turn { recG fn a ps assign body w.heap.size .ready none with state := .busy }
    have kB := hKb W (w.heap.size + 1) _ (.loop { recG fn a ps assign body w.heap.size .ready none with state := .busy }) (by omega) lW.loop rfl rfl
    refine wpIn_mono (hbody _ pre x _ (hG.putObj _ hGx (by omega) lW.loop rfl) hSx ⟨W0, hI0, hF0, hk0.put lW.loop rfl⟩ (hI.putObj _ hIW (by omega) lW.loop rfl) hlen) ?_
    rintro e a3 W3 hp
    cases e with
    | normal =>
      obtain ⟨k3, kp3, hI3⟩ := hp
      have l3 := lB.keeps k3
      exact ⟨_, _, run_endRound (P := P) none l3.loop, .inl ⟨rfl, ⟨hI.putObj _ hI3 (by omega) l3.loop rfl, l3.turn _⟩, hKt (hKt kB kp3) (hKb _ _ _ _ (by omega) l3.loop rfl rfl)⟩⟩
    | ret =>
      obtain ⟨k3, hI3⟩ := hp
      have l3 := lB.keeps k3
      exact ⟨_, _, run_endRound (P := P) (some .ret) l3.loop, .inr ⟨rfl, hIx.putObj _ hI3 (by omega) l3.loop rfl, l3.turn _⟩⟩
    | exit id => exact hp.elim
    | goto t => exact hp.elim
    | panic ch => exact hp.elim
    | outgrown => exact hp.elim
  case behind =>
    rintro e W2 ⟨⟨v, rfl⟩, (⟨xs, hS, hi, lW⟩ | ⟨pre, hSp, hi, lW⟩)⟩
    · exact ⟨none, _, run_endLoop (P := P) lW.loop (by simp [recG]), hdone _ xs _ (Nat.le_refl _) hS (hI.putObj _ hi (by omega) lW.loop rfl) ((World.putObj_heap_other (by omega)).trans lW.defers)⟩
    · exact ⟨some .ret, _, run_endLoop (P := P) lW.loop (by simp [recG]), hstop _ pre _ (Nat.le_refl _) hSp (hIx.putObj _ hi (by omega) lW.loop rfl) ((World.putObj_heap_other (by omega)).trans lW.defers)⟩
end Go.Proofs.Ytienfppidmjfpaa.Tlv
