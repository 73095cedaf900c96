/-
  A part of the proof: what this text holds is told at each of its declarations.
-/
import Derived.Test.YtgeafnggodkpaaaGreatZaaf
import Derived.Test.YtgeafnggodkpaaaGreatZaam
import Derived.Test.YtgeafnggodkpaaaGreatZaai
import Derived.Test.YtgeafnggodkpaaaGreatZaac
namespace Go.Proofs.YtgeafnggodkpaaaGreat.Msg
open Go.RowKit Go.Proofs.YtgeafnggodkpaaaGreat.Mem

/-- A slice that holds what another one holds, laid anew; nil of nil. -/
def GivesCp (w : World) (size : Nat) (xs : List Value) (n : Nat) (ao0 : Option Addr) (e : Ending) (w' : World) : Prop :=
  ∃ ao cap, e = .returned (.slice ao n cap) ∧ Rd w' size ao n cap xs ∧ Below w.heap.size w w' ∧ (∀ a, ao = some a → w.heap.size ≤ a.block) ∧ (ao0 = none → ao = none ∧ cap = 0)
theorem atV_one (l : List (ByteArray × ByteArray)) : ∀ u ∈ atV l, u.oneCell' = true := by
  intro u hu; simp only [atV, List.mem_flatMap, List.mem_cons, List.not_mem_nil, or_false] at hu; obtain ⟨c, _, rfl | rfl⟩ := hu <;> rfl
theorem gives_cp {w w1 : World} {t : TypeId} {size : Nat} {xs : List Value} {n : Nat} {a0 : Addr} {ao : Option Addr} {cap : Nat} (ho : w1.ownsRow w.heap.size t size (.slice ao (0 + n) cap) (0 + n) ([] ++ xs)) (hb : Below w.heap.size w w1) : GivesCp w size xs n (some a0) (.returned (.slice ao n cap)) w1 := by
  rw [Nat.zero_add, List.nil_append] at ho
  refine ⟨ao, cap, rfl, Rd.of_own_slice ho, hb, fun a ha => ?_, fun h => by cases h⟩
  rcases ho.2 with ⟨h, _⟩ | ⟨g, c, cur, h, hg, _⟩
  · have := (Value.slice.inj h).1; rw [ha] at this; cases this
  · have := (Value.slice.inj h).1; rw [ha] at this; cases this; exact hg

theorem sliceT_byt : SliceT Tryz.prog 25 5 (.int .u8 0) 1 1 := ⟨Tryz.underlying25, by kernel_rfl, rfl, by decide⟩
set_option maxRecDepth 100000 in
theorem clone_byt (ao : Option Addr) (n cap : Nat) (l : List UInt8) (w : World) (hr : Rd w 1 ao n cap (byV l)) (hn : n ≤ 1000000000) :
    Calls Tryz.prog 102 #[.slice ao n cap] w (GivesCp w 1 (byV l) n ao) := by
  cases ao with
  | none =>
    have hc := hr.2.2.2.1 rfl
    obtain ⟨h0, hx⟩ := hr.empty hc
    subst hc; subst h0
    have hn0 : Sem.run Tryz.prog (binOp BinOp.eql 25 (.slice none 0 0) (.slice none 0 0)) w = .ok (.bool true) w := by kernel_rfl
    go_enter Tryz.func102, Tryz.ntmps102
    go_wp2
    go_ret
    exact ⟨none, 0, rfl, hr, Below.refl _ _, (fun a ha => by cases ha), fun _ => ⟨rfl, rfl⟩⟩
  | some a =>
    have hn0 : Sem.run Tryz.prog (binOp BinOp.eql 25 (.slice (some a) n cap) (.slice none 0 0)) w = .ok (.bool false) w := by kernel_rfl
    go_enter Tryz.func102, Tryz.ntmps102
    have ho0 : (w.alloc (.cells #[] 5)).ownsRow w.heap.size 5 1 (.slice (some ⟨w.heap.size, 0, none⟩) 0 0) 0 [] := by
      refine ⟨rfl, .inr ⟨w.heap.size, 0, #[], rfl, ?_⟩⟩
      exact ⟨Nat.le_refl _, (by show (w.heap.push _)[w.heap.size]? = some _; simp), Nat.le_refl _, Nat.zero_le _, rfl, rfl⟩
    go_wp2_with (at_builtin; refine wpList_app _ rfl (.tmp 5) (.tmp 6) 25 rfl w.heap.size 5 (.int .u8 0) 1 1 sliceT_byt _ 0 [] rfl ho0 (some a) n cap (byV l) rfl (hr.later ((Below.refl _ w).alloc (Nat.le_refl _) _)) (byV_one _) (by unfold maxLen; omega) (by omega) (by simp) ?_; intro ao' cap' w1 ho1 _ hb1 _)
    go_ret
    exact gives_cp ho1 (((Below.refl _ w).alloc (Nat.le_refl _) _).trans hb1)

theorem sliceT_att : SliceT Tryz.prog 23 53 (.agg #[.string ⟨#[]⟩, .string ⟨#[]⟩]) 2 32 := ⟨Tryz.underlying23, by kernel_rfl, rfl, by decide⟩
set_option maxRecDepth 100000 in
theorem clone_att (ao : Option Addr) (n cap : Nat) (l : List (ByteArray × ByteArray)) (w : World) (hr : Rd w 2 ao n cap (atV l)) (hn : n ≤ 1000000000) :
    Calls Tryz.prog 129 #[.slice ao n cap] w (GivesCp w 2 (atV l) n ao) := by
  cases ao with
  | none =>
    have hc := hr.2.2.2.1 rfl
    obtain ⟨h0, hx⟩ := hr.empty hc
    subst hc; subst h0
    have hn0 : Sem.run Tryz.prog (binOp BinOp.eql 23 (.slice none 0 0) (.slice none 0 0)) w = .ok (.bool true) w := by kernel_rfl
    go_enter Tryz.func129, Tryz.ntmps129
    go_wp2
    go_ret
    exact ⟨none, 0, rfl, hr, Below.refl _ _, (fun a ha => by cases ha), fun _ => ⟨rfl, rfl⟩⟩
  | some a =>
    have hn0 : Sem.run Tryz.prog (binOp BinOp.eql 23 (.slice (some a) n cap) (.slice none 0 0)) w = .ok (.bool false) w := by kernel_rfl
    go_enter Tryz.func129, Tryz.ntmps129
    have ho0 : (w.alloc (.cells #[] 53)).ownsRow w.heap.size 53 2 (.slice (some ⟨w.heap.size, 0, none⟩) 0 0) 0 [] := by
      refine ⟨rfl, .inr ⟨w.heap.size, 0, #[], rfl, ?_⟩⟩
      exact ⟨Nat.le_refl _, (by show (w.heap.push _)[w.heap.size]? = some _; simp), Nat.le_refl _, Nat.zero_le _, rfl, rfl⟩
    go_wp2_with (at_builtin; refine wpList_app _ rfl (.tmp 5) (.tmp 6) 23 rfl w.heap.size 53 (.agg #[.string ⟨#[]⟩, .string ⟨#[]⟩]) 2 32 sliceT_att _ 0 [] rfl ho0 (some a) n cap (atV l) rfl (hr.later ((Below.refl _ w).alloc (Nat.le_refl _) _)) (atV_one _) (by unfold maxLen; omega) (by omega) (by simp) ?_; intro ao' cap' w1 ho1 _ hb1 _)
    go_ret
    exact gives_cp ho1 (((Below.refl _ w).alloc (Nat.le_refl _) _).trans hb1)
end Go.Proofs.YtgeafnggodkpaaaGreat.Msg
namespace Go.Proofs.YtgeafnggodkpaaaGreat.Msg
open Go.RowKit Go.Lib Go.Proofs.YtgeafnggodkpaaaGreat.Mem

/-- An operation that holds the same, in slices laid anew. -/
structure CopyOf (w : World) (v u : OV) : Prop where
  ek : u.k = v.k
  ename : u.name = v.name
  eto : u.to = v.to
  en : u.n = v.n
  ean : u.an = v.an
  ebn : u.bn = v.bn
  ecn : u.cn = v.cn
  fa : ∀ a, u.ao = some a → w.heap.size ≤ a.block
  fb : ∀ a, u.bo = some a → w.heap.size ≤ a.block
  fc : ∀ a, u.co = some a → w.heap.size ≤ a.block
  na : v.ao = none → u.ao = none ∧ u.ac = 0
  nb : v.bo = none → u.bo = none ∧ u.bc = 0
  nc : v.co = none → u.co = none ∧ u.cc = 0
/-- The worlds behind an operation's box and a result's. -/
def InTwo (w : World) (v : OV) (W : World) : Prop := InBox w v W ∧ W.heap[w.heap.size + 1]? = some zeroV.box
theorem InTwo.step {w W W' : World} {v : OV} (h : InTwo w v W) (hb : Below W.heap.size W W') : InTwo w v W' :=
  ⟨h.1.step hb, (hb.block _ (Array.getElem?_eq_some_iff.1 h.2).1).trans h.2⟩

theorem rd_set {W : World} {size : Nat} {ao : Option Addr} {n cap : Nat} {xs : List Value} (h : Rd W size ao n cap xs) (p : Addr) (x : Value) (hd : ∀ a, ao = some a → a.block ≠ p.block) : Rd (W.setCell p x) size ao n cap xs := by
  obtain ⟨h1, h2, h3, h4, h5⟩ := h
  refine ⟨h1, h2, h3, h4, fun h0 a ha => ?_⟩
  obtain ⟨s, l, c⟩ := h5 h0 a ha
  exact ⟨s, by simpa using l, fun j u hu => (World.cell?_of_block (a := ⟨a.block, a.off + j, none⟩) (Below.heap_setCell W p x _ (hd a ha))).trans (c j u hu)⟩
theorem OpAt.set {W : World} {u : OV} {c : OC} (h : OpAt W u c) (p : Addr) (x : Value) (fa : ∀ a, u.ao = some a → a.block ≠ p.block) (fb : ∀ a, u.bo = some a → a.block ≠ p.block) (fc : ∀ a, u.co = some a → a.block ≠ p.block) : OpAt (W.setCell p x) u c :=
  ⟨rd_set h.a p x fa, rd_set h.b p x fb, rd_set h.c p x fc, h.la, h.lb, h.lc⟩
end Go.Proofs.YtgeafnggodkpaaaGreat.Msg
namespace Go.Proofs.YtgeafnggodkpaaaGreat.Msg
open Go.RowKit Go.Lib Go.Proofs.YtgeafnggodkpaaaGreat.Mem Go.Proofs.YtgeafnggodkpaaaGreat.Tlv

/-- Attributes' bytes, parts' bytes. -/
def attB (l : List (ByteArray × ByteArray)) : List UInt8 := l.flatMap fun x => val 3 (val 1 x.1.data.toList ++ val 2 x.2.data.toList)
def parB (l : List ByteArray) : List UInt8 := l.flatMap fun x => val 1 x.data.toList
/-- A letter's value. -/
def letV (v : OV) (c : OC) (l : UInt8) : List UInt8 :=
  if l = 110 then val 2 v.name.data.toList else if l = 116 then val 3 v.to.data.toList else if l = 97 then val 4 (attB c.attrs) else if l = 112 then val 5 (parB c.parts)
  else if l = 99 then val 6 c.cursor else val 7 (num8 v.n.toNat)
/-- An operation's bytes. -/
def opTo (v : OV) (c : OC) (l : List UInt8) : List UInt8 := val 1 (num8 v.k.toNat) ++ l.flatMap (letV v c)
def opL (v : OV) (c : OC) : List UInt8 := opTo v c (fieldsOf v.k)
theorem opTo_next (v : OV) (c : OC) (l : List UInt8) (j : Nat) (x : UInt8) (h : l[j]? = some x) : opTo v c (l.take (j + 1)) = opTo v c (l.take j) ++ letV v c x := by
  obtain ⟨hl, e⟩ := List.getElem?_eq_some_iff.1 h
  rw [List.take_succ_eq_append_getElem hl, e]
  simp [opTo]

/-- What is small enough to be put. -/
structure Fits (v : OV) (c : OC) : Prop where
  k0 : 0 ≤ v.k
  k8 : v.k ≤ 8
  name : v.name.size ≤ 1000
  to_ : v.to.size ≤ 1000
  cur : c.cursor.length ≤ 4000
  n0 : 0 ≤ v.n
  n1 : v.n ≤ 1000
  lens : ∀ x, (letV v c x).length ≤ 10000000
/-- Behind j letters. -/
structure PutAt (w : World) (it : Nat) (v : OV) (c : OC) (j : Nat) (wr : World) : Prop where
  bel : Below w.heap.size w wr
  h1 : wr.heap[w.heap.size]? = some v.box
  wr_ : WrS (w.heap.size + 1) (w.heap.size + 1) ⟨opTo v c ((fieldsOf v.k).take j), 0⟩ wr
  hi : wr.heap[it]? = some (.stringIter ⟨(fieldsOf v.k).toArray⟩ j)
theorem PutAt.put {w wi w2 : World} {it j : Nat} {v : OV} {c : OC} {x t : UInt8} {b : List UInt8} {e : Ending} (hb : Below w.heap.size w wi) (h1 : wi.heap[w.heap.size]? = some v.box) (hi : wi.heap[it]? = some (.stringIter ⟨(fieldsOf v.k).toArray⟩ (j + 1)))
    (hit : it ≠ w.heap.size + 1) (hx : (fieldsOf v.k)[j]? = some x) (ht : t.toNat ≠ 0) (hv : val t b = letV v c x)
    (h : Turns (w.heap.size + 1) (w.heap.size + 1) (WS.put ⟨opTo v c ((fieldsOf v.k).take j), 0⟩ t b) wi e w2) : PutAt w it v c (j + 1) w2 := by
  obtain ⟨-, h2, h3, h4⟩ := h
  refine ⟨hb.trans (h3.mono (by omega)), (h3.block _ (by omega)).trans h1, ?_, h4 it _ hi hit (fun _ _ e => by cases e)⟩
  rw [opTo_next v c _ j x hx, ← hv]
  simpa [WS.put, ht] using h2
theorem PutAt.skip {w wr : World} {it j : Nat} {v : OV} {c : OC} (h : PutAt w it v c j wr) (hit : w.heap.size + 1 < it) :
    Below w.heap.size w (wr.iterAt it ⟨(fieldsOf v.k).toArray⟩ (j + 1)) ∧ (wr.iterAt it ⟨(fieldsOf v.k).toArray⟩ (j + 1)).heap[w.heap.size]? = some v.box ∧
      WrS (w.heap.size + 1) (w.heap.size + 1) ⟨opTo v c ((fieldsOf v.k).take j), 0⟩ (wr.iterAt it ⟨(fieldsOf v.k).toArray⟩ (j + 1)) ∧ (wr.iterAt it ⟨(fieldsOf v.k).toArray⟩ (j + 1)).heap[it]? = some (.stringIter ⟨(fieldsOf v.k).toArray⟩ (j + 1)) := by
  refine ⟨below_iterAt h.bel (by omega) _ _, (iterAt_other _ _ _ _ _ (by omega)).trans h.h1, ?_, iterAt_heap _ _ _ _ _ h.hi⟩
  obtain ⟨y, hy⟩ := h.wr_
  refine ⟨y, (iterAt_other _ _ _ _ _ (by omega)).trans hy.at_, hy.le, ?_⟩
  obtain ⟨o1, o2⟩ := hy.own
  refine ⟨o1, ?_⟩
  rcases o2 with o2 | ⟨g', cap, cur, e1, e2, e3, e4⟩
  · exact .inl o2
  · refine .inr ⟨g', cap, cur, e1, e2, (iterAt_other _ _ _ _ _ (fun e => ?_)).trans e3, e4⟩
    subst e
    rw [h.hi] at e3
    cases e3

end Go.Proofs.YtgeafnggodkpaaaGreat.Msg
