/-
  Small general laws on memory, over any program: what a slice reads as; append from whatever source that can be read, onto a row of one's own or where it must grow.
-/
import Derived.WalkKit
import Derived.WalkSpells
import Derived.WalkLawsBesides
import Derived.OwnWalkIn
import Derived.Lib.Hide
import Derived.ProofKit
namespace Go.Proofs.Ytienfppidmjfpaa.Mem
open Go.RowKit

/-- The slice with address ao, n elements, room for cap reads as the cells xs (size cells an element). -/
def Rd (w : World) (size : Nat) (ao : Option Addr) (n cap : Nat) (xs : List Value) : Prop :=
  xs.length = n * size ∧ n ≤ cap ∧ cap ≤ maxLen ∧ (ao = none → cap = 0) ∧
    (0 < cap → ∀ a, ao = some a → a.spot = none ∧ a.block < w.heap.size ∧ ∀ j u, xs[j]? = some u → w.cell? ⟨a.block, a.off + j, none⟩ = some u)

theorem Rd.nil (w : World) (size : Nat) : Rd w size none 0 0 [] := ⟨by simp, Nat.le_refl _, Nat.zero_le _, fun _ => rfl, fun _ _ h => by cases h⟩
theorem Rd.len {w : World} {size : Nat} {ao : Option Addr} {n cap : Nat} {xs : List Value} (h : Rd w size ao n cap xs) : xs.length = n * size := h.1
theorem Rd.le {w : World} {size : Nat} {ao : Option Addr} {n cap : Nat} {xs : List Value} (h : Rd w size ao n cap xs) : n ≤ cap := h.2.1
theorem Rd.empty {w : World} {size : Nat} {ao : Option Addr} {n cap : Nat} {xs : List Value} (h : Rd w size ao n cap xs) (h0 : cap = 0) : n = 0 ∧ xs = [] := by
  have hn : n = 0 := by have := h.2.1; omega
  subst hn
  exact ⟨rfl, List.eq_nil_of_length_eq_zero (by simpa using h.1)⟩
theorem Rd.lt {w : World} {size : Nat} {ao : Option Addr} {n cap : Nat} {xs : List Value} (h : Rd w size ao n cap xs) (h0 : 0 < cap) : ∀ a, ao = some a → a.block < w.heap.size := fun a ha => (h.2.2.2.2 h0 a ha).2.1
theorem Rd.below {w w' : World} {B size : Nat} {ao : Option Addr} {n cap : Nat} {xs : List Value} (h : Rd w size ao n cap xs) (hb : Below B w w') (hlt : 0 < cap → ∀ a, ao = some a → a.block < B) : Rd w' size ao n cap xs := by
  obtain ⟨h1, h2, h3, h4, h5⟩ := h
  refine ⟨h1, h2, h3, h4, fun h0 a ha => ?_⟩
  obtain ⟨s, l, c⟩ := h5 h0 a ha
  exact ⟨s, Nat.lt_of_lt_of_le l hb.size, fun j u hu => (hb.cell (p := ⟨a.block, a.off + j, none⟩) (hlt h0 a ha)).trans (c j u hu)⟩
theorem Rd.later {w w' : World} {size : Nat} {ao : Option Addr} {n cap : Nat} {xs : List Value} (h : Rd w size ao n cap xs) (hb : Below w.heap.size w w') : Rd w' size ao n cap xs := h.below hb h.lt
theorem Rd.some {w : World} {size : Nat} {ao : Option Addr} {n cap : Nat} {xs : List Value} (h : Rd w size ao n cap xs) (hn : 0 < cap) : ∃ b off, ao = some ⟨b, off, none⟩ ∧ b < w.heap.size ∧ ∀ j u, xs[j]? = Option.some u → w.cell? ⟨b, off + j, none⟩ = Option.some u := by
  cases ao with
  | none => have := h.2.2.2.1 rfl; omega
  | some a =>
    obtain ⟨s, l, c⟩ := h.2.2.2.2 hn a rfl
    obtain ⟨b, off, sp⟩ := a
    dsimp only at s l c
    subst s
    exact ⟨b, off, rfl, l, c⟩
theorem Rd.of_own {w : World} {base : Nat} {e : TypeId} {size : Nat} {v : Value} {n : Nat} {xs : List Value} (h : w.ownsRow base e size v n xs) : ∃ ao cap, v = .slice ao n cap ∧ Rd w size ao n cap xs := by
  have h' := h
  obtain ⟨h1, h2⟩ := h
  rcases h2 with ⟨rfl, rfl⟩ | ⟨g, cap, cur, rfl, hb, hg, hn, hc, hs, ht⟩
  · exact ⟨none, 0, rfl, by simpa using h1, Nat.le_refl _, Nat.zero_le _, fun _ => rfl, fun _ _ h => by cases h⟩
  · refine ⟨_, cap, rfl, h1, hn, hc, (fun h => by cases h), fun _ a ha => ?_⟩
    cases ha
    refine ⟨rfl, (Array.getElem?_eq_some_iff.1 hg).1, fun j u hu => ?_⟩
    have := h'.cells (g := g) rfl j u hu
    rw [Addr.add_lit] at this; exact this
theorem Rd.of_own_slice {w : World} {base : Nat} {e : TypeId} {size : Nat} {ao : Option Addr} {n cap : Nat} {xs : List Value} (h : w.ownsRow base e size (.slice ao n cap) n xs) : Rd w size ao n cap xs := by
  obtain ⟨a', c', he, hr⟩ := Rd.of_own h
  cases he
  exact hr
theorem own_later {w w' : World} {base : Nat} {e : TypeId} {size : Nat} {v : Value} {n : Nat} {xs : List Value} (h : w.ownsRow base e size v n xs) (hb : Below w.heap.size w w') : w'.ownsRow base e size v n xs := by
  obtain ⟨h1, h2⟩ := h
  refine ⟨h1, ?_⟩
  rcases h2 with h2 | ⟨g, cap, cur, hv, hbg, hg, rest⟩
  · exact .inl h2
  · exact .inr ⟨g, cap, cur, hv, hbg, (hb.block g (Array.getElem?_eq_some_iff.1 hg).1).trans hg, rest⟩
/-- A block that was just laid, whole. -/
theorem Rd.new (w : World) (xs : List Value) (t : TypeId) (fr : Nat × Nat) (size n : Nat) (hl : xs.length = n * size) (hm : n ≤ maxLen) : Rd (w.alloc (.cells xs.toArray t fr)) size (Option.some ⟨w.heap.size, 0, none⟩) n n xs := by
  refine ⟨hl, Nat.le_refl _, hm, (fun h => by cases h), fun _ a ha => ?_⟩
  cases ha
  refine ⟨rfl, by simp, fun j u hu => ?_⟩
  rw [Nat.zero_add, World.cell?_alloc_mark]
  simpa using hu

/-- What an element type's row of the table says. -/
structure SliceT (P : Program) (t e : TypeId) (z : Value) (size bytes : Nat) : Prop where
  ht : P.underlying t = some (.slice e)
  info : (P.info? e).map (fun i => (i.zero, i.size, i.bytes)) = some (some z, size, bytes)
  hzs : z.cells.size = size
  hsz : 0 < size

section
variable {P : Program} (w : World)
theorem Rd.adds {w : World} {size : Nat} {a : Addr} {n cap : Nat} {xs : List Value} (h : Rd w size (Option.some a) n cap xs) : ∀ j u, xs[j]? = Option.some u → w.cell? (a.add j) = Option.some u := by
  intro j u hu
  by_cases h0 : cap = 0
  · rw [(h.empty h0).2] at hu; cases hu
  · obtain ⟨s, l, cc⟩ := h.2.2.2.2 (by omega) a rfl
    have := cc j u hu
    obtain ⟨b, off, sp⟩ := a
    dsimp only at s; subst s
    rw [Addr.add_lit]; exact this
/-- append(v, x...), v a row of the call's own, x whatever can be read. -/
theorem run_app (base : Nat) (t ty e : TypeId) (z : Value) (size bytes : Nat) (T : SliceT P t e z size bytes)
    (v : Value) (n : Nat) (xs : List Value) (hown : w.ownsRow base e size v n xs) (ao : Option Addr) (m c : Nat) (news : List Value) (hr : Rd w size ao m c news) (h1 : ∀ u ∈ news, u.oneCell' = true)
    (h63 : n + m ≤ maxLen) (hbytes : (n + m) * bytes ≤ 140737488355328) (hbase : base ≤ w.heap.size) :
    ∃ ao' cap' w', (Builtin.append_ #[t, t] ty #[v, .slice ao m c]).run P w = .ok (.slice ao' (n + m) cap') w' ∧ w'.ownsRow base e size (.slice ao' (n + m) cap') (n + m) (xs ++ news) ∧ w.grownBy w' v.ownBlock ∧ Below base w w' ∧
      (ao' = none ↔ v = .slice none 0 0 ∧ m = 0) := by
  obtain ⟨i, hi, hz, hs, hby⟩ := info_parts T.info
  have key : ∃ v' w', (Builtin.append_ #[t, t] ty #[v, .slice ao m c]).run P w = .ok v' w' ∧ w'.ownsRow base e size v' (n + m) (xs ++ news) ∧ w.grownBy w' v.ownBlock ∧ (v' = .slice none 0 0 ↔ v = .slice none 0 0 ∧ m = 0) := by
    cases ao with
    | none =>
      have h0 : c = 0 := hr.2.2.2.1 rfl
      have hm : m = 0 := by have := hr.2.1; omega
      subst h0; subst hm
      have : news = [] := List.eq_nil_of_length_eq_zero (by simpa using hr.1)
      subst this
      exact ⟨v, w, run_append_owned_none (P := P) w base t ty e i size T.ht hi v n xs hown, by simpa using hown, World.grownBy.refl _ _, by simp⟩
    | some a =>
      exact run_append_own (P := P) w base t ty e i z size bytes T.ht hi hz hs hby T.hzs T.hsz v n xs hown a m c news hr.1 hr.adds h1 h63 hbytes hbase
  obtain ⟨v', w', hrun, ho, hg, hn⟩ := key
  obtain ⟨ao', cap', rfl, hr'⟩ := Rd.of_own ho
  refine ⟨ao', cap', w', hrun, ho, hg, (Below.refl base w).grown hg hbase (fun k hk => (hown.lt k hk).1), ?_⟩
  rw [← hn]
  constructor
  · rintro rfl
    have hc0 := hr'.2.2.2.1 rfl
    have := hr'.2.1
    have hz0 : n + m = 0 := by omega
    rw [hz0, hc0]
  · intro h
    exact (Value.slice.inj h).1

/-- append(v, x...) where v has not room enough: a new row. -/
theorem run_grow (t ty e : TypeId) (z : Value) (size bytes : Nat) (T : SliceT P t e z size bytes) (ao0 : Option Addr) (n cap : Nat) (xs : List Value) (hr0 : Rd w size ao0 n cap xs)
    (ao : Option Addr) (m c : Nat) (news : List Value) (hr : Rd w size ao m c news) (h1 : ∀ u ∈ news, u.oneCell' = true) (hg : cap < n + m) (h63 : n + m ≤ maxLen) (hbytes : (n + m) * bytes ≤ 140737488355328) :
    ∃ g cap' w', (Builtin.append_ #[t, t] ty #[.slice ao0 n cap, .slice ao m c]).run P w = .ok (.slice (some ⟨g, 0, none⟩) (n + m) cap') w' ∧ w'.ownsRow w.heap.size e size (.slice (some ⟨g, 0, none⟩) (n + m) cap') (n + m) (xs ++ news) ∧ Below w.heap.size w w' := by
  obtain ⟨i, hi, hz, hs, hby⟩ := info_parts T.info
  have hm : 0 < m := by have := hr0.2.1; omega
  obtain ⟨b, off, rfl, _, hc⟩ := hr.some (by have := hr.2.1; omega)
  have hc' : ∀ j u, news[j]? = some u → w.cell? ((⟨b, off, none⟩ : Addr).add j) = some u := fun j u hu => by rw [Addr.add_lit]; exact hc j u hu
  cases ao0 with
  | none =>
    have h0 : cap = 0 := hr0.2.2.2.1 rfl
    have hn : n = 0 := by have := hr0.2.1; omega
    subst h0; subst hn
    have hx : xs = [] := List.eq_nil_of_length_eq_zero (by simpa using hr0.1)
    subst hx
    obtain ⟨v', w', hrun, ho, hgr, hnil⟩ := run_append_own (P := P) w w.heap.size t ty e i z size bytes T.ht hi hz hs hby T.hzs T.hsz (.slice none 0 0) 0 [] (World.ownsRow_nil _ _ _ _) ⟨b, off, none⟩ m c news hr.1 hc'
      h1 h63 hbytes (Nat.le_refl _)
    rcases ho.2 with ⟨rfl, h0⟩ | ⟨g, cap', cur, rfl, _⟩
    · omega
    · exact ⟨g, cap', w', hrun, by simpa using ho, (Below.refl _ w).grown hgr (Nat.le_refl _) (fun k hk => by cases hk)⟩
  | some a0 =>
    obtain ⟨v', w', hrun, ho, hgr⟩ := run_append_arg_grows (P := P) w t ty e i z size bytes T.ht hi hz hs hby T.hzs T.hsz a0 n cap xs hr0.1 hr0.adds ⟨b, off, none⟩ m c news hr.1 hc' hg h63 hbytes
    rcases ho.2 with ⟨rfl, h0⟩ | ⟨g, cap', cur, rfl, _⟩
    · omega
    · exact ⟨g, cap', w', hrun, ho, (Below.refl _ w).grown hgr (Nat.le_refl _) (fun k hk => by cases hk)⟩

/-- The two, for the walk. -/
theorem wpList_app {ops : Array Oper} {rest : List Oper} {o : Oper} {a : Act} {Q : Exit → Act → World → Prop} (hgd : o.guard = none) (s x : Operand) (t : TypeId)
    (ho : o.op = .call { callee := .builtin .append, args := #[s, x], argTypes := #[t, t] }) (base : Nat) (e : TypeId) (z : Value) (size bytes : Nat) (T : SliceT P t e z size bytes)
    (v : Value) (n : Nat) (xs : List Value) (hs : a.eval s = v) (hown : w.ownsRow base e size v n xs) (ao : Option Addr) (m c : Nat) (news : List Value) (hx : a.eval x = .slice ao m c) (hr : Rd w size ao m c news) (h1 : ∀ u ∈ news, u.oneCell' = true)
    (h63 : n + m ≤ maxLen) (hbytes : (n + m) * bytes ≤ 140737488355328) (hbase : base ≤ w.heap.size)
    (h : ∀ ao' cap' w', w'.ownsRow base e size (.slice ao' (n + m) cap') (n + m) (xs ++ news) → w.grownBy w' v.ownBlock → Below base w w' → (ao' = none ↔ v = .slice none 0 0 ∧ m = 0) → wpList P ops Q rest (a.put o.dst (.slice ao' (n + m) cap')) w') :
    wpList P ops Q (o :: rest) a w := by
  refine wpList_plain hgd fun K hK => ?_
  obtain ⟨ao', cap', w', hrun, r1, r2, r3, r4⟩ := run_app (P := P) w base t o.type e z size bytes T v n xs hown ao m c news hr h1 h63 hbytes hbase
  unfold Oper.wp execOp
  simp only [ho, resolve, invoke, builtin, Sem.run_bind, Sem.run_pure, Result.andThen_ok, List.map_toArray, List.map_cons, List.map_nil, hs, hx, hrun]
  exact hK _ _ (h ao' cap' w' r1 r2 r3 r4)
theorem wpListIn_app {F : Fence} {k : Nat} {ops : Array Oper} {rest : List Oper} {o : Oper} {a : Act} {Q : Exit → Act → World → Prop} (hgd : o.guard = none) (s x : Operand) (t : TypeId)
    (ho : o.op = .call { callee := .builtin .append, args := #[s, x], argTypes := #[t, t] }) (base : Nat) (e : TypeId) (z : Value) (size bytes : Nat) (T : SliceT P t e z size bytes)
    (v : Value) (n : Nat) (xs : List Value) (hs : a.eval s = v) (hown : w.ownsRow base e size v n xs) (ao : Option Addr) (m c : Nat) (news : List Value) (hx : a.eval x = .slice ao m c) (hr : Rd w size ao m c news) (h1 : ∀ u ∈ news, u.oneCell' = true)
    (h63 : n + m ≤ maxLen) (hbytes : (n + m) * bytes ≤ 140737488355328) (hbase : base ≤ w.heap.size)
    (h : ∀ ao' cap' w', w'.ownsRow base e size (.slice ao' (n + m) cap') (n + m) (xs ++ news) → w.grownBy w' v.ownBlock → Below base w w' → (ao' = none ↔ v = .slice none 0 0 ∧ m = 0) → wpListIn F k P ops Q rest (a.put o.dst (.slice ao' (n + m) cap')) w') :
    wpListIn F k P ops Q (o :: rest) a w := by
  refine wpListIn_plain hgd fun K hK => ?_
  obtain ⟨ao', cap', w', hrun, r1, r2, r3, r4⟩ := run_app (P := P) w base t o.type e z size bytes T v n xs hown ao m c news hr h1 h63 hbytes hbase
  unfold Oper.wpIn
  refine ⟨?_, ?_⟩
  · simp [Oper.about, ho, resolve, Target.leads, Sem.run_pure]
  · rw [Oper.semAt_plain F _ _ (by rw [ho]; intro c hc'; cases hc')]
    simp [execOp, ho, resolve, invoke, builtin, hs, hx, hrun, Result.andThen]
    exact hK _ _ (h ao' cap' w' r1 r2 r3 r4)
theorem wpList_grow {ops : Array Oper} {rest : List Oper} {o : Oper} {a : Act} {Q : Exit → Act → World → Prop} (hgd : o.guard = none) (s x : Operand) (t : TypeId)
    (ho : o.op = .call { callee := .builtin .append, args := #[s, x], argTypes := #[t, t] }) (e : TypeId) (z : Value) (size bytes : Nat) (T : SliceT P t e z size bytes)
    (ao0 : Option Addr) (n cap : Nat) (xs : List Value) (hs : a.eval s = .slice ao0 n cap) (hr0 : Rd w size ao0 n cap xs) (ao : Option Addr) (m c : Nat) (news : List Value) (hx : a.eval x = .slice ao m c) (hr : Rd w size ao m c news) (h1 : ∀ u ∈ news, u.oneCell' = true)
    (hg : cap < n + m) (h63 : n + m ≤ maxLen) (hbytes : (n + m) * bytes ≤ 140737488355328)
    (h : ∀ g cap' w', w'.ownsRow w.heap.size e size (.slice (some ⟨g, 0, none⟩) (n + m) cap') (n + m) (xs ++ news) → Below w.heap.size w w' → wpList P ops Q rest (a.put o.dst (.slice (some ⟨g, 0, none⟩) (n + m) cap')) w') :
    wpList P ops Q (o :: rest) a w := by
  refine wpList_plain hgd fun K hK => ?_
  obtain ⟨g, cap', w', hrun, r1, r2⟩ := run_grow (P := P) w t o.type e z size bytes T ao0 n cap xs hr0 ao m c news hr h1 hg h63 hbytes
  unfold Oper.wp execOp
  simp only [ho, resolve, invoke, builtin, Sem.run_bind, Sem.run_pure, Result.andThen_ok, List.map_toArray, List.map_cons, List.map_nil, hs, hx, hrun]
  exact hK _ _ (h g cap' w' r1 r2)

/-- append(v, x, y ..): the new elements lie in a block that was just laid. -/
theorem wpList_lit {ops : Array Oper} {rest : List Oper} {o : Oper} {a : Act} {Q : Exit → Act → World → Prop} (hgd : o.guard = none) (s x : Operand) (t : TypeId)
    (ho : o.op = .call { callee := .builtin .append, args := #[s, x], argTypes := #[t, t] }) (base : Nat) (e : TypeId) (z : Value) (size bytes : Nat) (T : SliceT P t e z size bytes) (hby : bytes ≤ 10000)
    (v : Value) (n : Nat) (xs : List Value) (hs : a.eval s = v) (hown : w.ownsRow base e size v n xs) (m : Nat) (news : List Value) (hx : a.eval x = .slice (some ⟨w.heap.size, 0, none⟩) m m) (hl : news.length = m * size) (h1 : ∀ u ∈ news, u.oneCell' = true)
    (hbase : base ≤ w.heap.size) (hN : n + m ≤ 10000000000)
    (h : ∀ ao' cap' w', w'.ownsRow base e size (.slice ao' (n + m) cap') (n + m) (xs ++ news) → (w.alloc (.cells news.toArray e)).grownBy w' v.ownBlock → Below base w w' → (ao' = none ↔ v = .slice none 0 0 ∧ m = 0) → wpList P ops Q rest (a.put o.dst (.slice ao' (n + m) cap')) w') :
    wpList P ops Q (o :: rest) a (w.alloc (.cells news.toArray e)) := by
  have hb : (n + m) * bytes ≤ 140737488355328 := by
    have := Nat.mul_le_mul hN hby
    omega
  refine wpList_app _ hgd s x t ho base e z size bytes T v n xs hs (hown.alloc _) _ m m news hx (Rd.new w news e (0, 0) size m hl (by unfold maxLen; omega)) h1 (by unfold maxLen; omega) hb (by simp; omega) ?_
  intro ao' cap' w' h1' h2' h3' h4'
  exact h ao' cap' w' h1' h2' (((Below.refl base w).alloc hbase _).trans h3') h4'
theorem wpListIn_lit {F : Fence} {k : Nat} {ops : Array Oper} {rest : List Oper} {o : Oper} {a : Act} {Q : Exit → Act → World → Prop} (hgd : o.guard = none) (s x : Operand) (t : TypeId)
    (ho : o.op = .call { callee := .builtin .append, args := #[s, x], argTypes := #[t, t] }) (base : Nat) (e : TypeId) (z : Value) (size bytes : Nat) (T : SliceT P t e z size bytes) (hby : bytes ≤ 10000)
    (v : Value) (n : Nat) (xs : List Value) (hs : a.eval s = v) (hown : w.ownsRow base e size v n xs) (m : Nat) (news : List Value) (hx : a.eval x = .slice (some ⟨w.heap.size, 0, none⟩) m m) (hl : news.length = m * size) (h1 : ∀ u ∈ news, u.oneCell' = true)
    (hbase : base ≤ w.heap.size) (hN : n + m ≤ 10000000000)
    (h : ∀ ao' cap' w', w'.ownsRow base e size (.slice ao' (n + m) cap') (n + m) (xs ++ news) → (w.alloc (.cells news.toArray e)).grownBy w' v.ownBlock → Below base w w' → (ao' = none ↔ v = .slice none 0 0 ∧ m = 0) → wpListIn F k P ops Q rest (a.put o.dst (.slice ao' (n + m) cap')) w') :
    wpListIn F k P ops Q (o :: rest) a (w.alloc (.cells news.toArray e)) := by
  have hb : (n + m) * bytes ≤ 140737488355328 := by
    have := Nat.mul_le_mul hN hby
    omega
  refine wpListIn_app _ hgd s x t ho base e z size bytes T v n xs hs (hown.alloc _) _ m m news hx (Rd.new w news e (0, 0) size m hl (by unfold maxLen; omega)) h1 (by unfold maxLen; omega) hb (by simp; omega) ?_
  intro ao' cap' w' h1' h2' h3' h4'
  exact h ao' cap' w' h1' h2' (((Below.refl base w).alloc hbase _).trans h3') h4'
/-- The same, as a step of a region that draws its order. -/
theorem step_lit {ops : Array Oper} {o : Oper} {a : Act} {K : Act → World → Prop} {Q : Exit → Act → World → Prop} {E : Prop} (hgd : o.guard = none) (s x : Operand) (t : TypeId)
    (ho : o.op = .call { callee := .builtin .append, args := #[s, x], argTypes := #[t, t] }) (base : Nat) (e : TypeId) (z : Value) (size bytes : Nat) (T : SliceT P t e z size bytes) (hby : bytes ≤ 10000)
    (v : Value) (n : Nat) (xs : List Value) (hs : a.eval s = v) (hown : w.ownsRow base e size v n xs) (m : Nat) (news : List Value) (hx : a.eval x = .slice (some ⟨w.heap.size, 0, none⟩) m m) (hl : news.length = m * size) (h1 : ∀ u ∈ news, u.oneCell' = true)
    (hbase : base ≤ w.heap.size) (hN : n + m ≤ 10000000000)
    (h : ∀ ao' cap' w', w'.ownsRow base e size (.slice ao' (n + m) cap') (n + m) (xs ++ news) → (w.alloc (.cells news.toArray e)).drew.grownBy w' v.ownBlock → Below base w w' → (ao' = none ↔ v = .slice none 0 0 ∧ m = 0) → K (a.put o.dst (.slice ao' (n + m) cap')) w') :
    if Region.wanted o (yielded ops a.tmps) = true then Oper.wp P o a (w.alloc (.cells news.toArray e)).drew K Q else E := by
  have hw : Region.wanted o (yielded ops a.tmps) = true := by simp [Region.wanted, hgd]
  rw [if_pos hw]
  have hb : (n + m) * bytes ≤ 140737488355328 := by
    have := Nat.mul_le_mul hN hby
    omega
  obtain ⟨ao', cap', w', hrun, r1, r2, r3, r4⟩ := run_app (P := P) (w.alloc (.cells news.toArray e)).drew base t o.type e z size bytes T v n xs (hown.alloc _).drew (some ⟨w.heap.size, 0, none⟩) m m news
    (show Rd (w.alloc (.cells news.toArray e)).drew size (some ⟨w.heap.size, 0, none⟩) m m news from Rd.new w.drew news e (0, 0) size m hl (by unfold maxLen; omega)) h1 (by unfold maxLen; omega) hb (by simp; omega)
  unfold Oper.wp execOp
  simp only [ho, resolve, invoke, builtin, Sem.run_bind, Sem.run_pure, Result.andThen_ok, List.map_toArray, List.map_cons, List.map_nil, hs, hx, hrun]
  exact h ao' cap' w' r1 r2 (((Below.refl base w).alloc hbase _).drew.trans r3) r4
theorem one1 (x : Value) (h : x.oneCell' = true) : ∀ u ∈ [x], u.oneCell' = true := by
  intro u hu; rw [List.mem_singleton] at hu; subst hu; exact h

/-- Bytes as cells. -/
def byV (l : List UInt8) : List Value := l.map fun c => .int .u8 (c.toNat : Int)
theorem byV_len (l : List UInt8) : (byV l).length = l.length := by simp [byV]
theorem byV_app (a b : List UInt8) : byV (a ++ b) = byV a ++ byV b := by simp [byV]
theorem byV_one (l : List UInt8) : ∀ u ∈ byV l, u.oneCell' = true := by
  intro u hu; simp only [byV, List.mem_map] at hu; obtain ⟨c, _, rfl⟩ := hu; rfl
/-- string(b). -/
theorem run_str (src dst e : TypeId) (hs : P.underlying src = some (.slice e)) (he : P.underlying e = some (.int .u8)) (hd : P.underlying dst = some .string) (ao : Option Addr) (n cap : Nat) (l : List UInt8) (hr : Rd w 1 ao n cap (byV l)) :
    (convert src dst (.slice ao n cap)).run P w = .ok (.string ⟨l.toArray⟩) w := by
  have hl : l.length = n := by have := hr.1; rw [byV_len] at this; omega
  subst hl
  cases ao with
  | none =>
    have h0 : cap = 0 := hr.2.2.2.1 rfl
    have hz : l = [] := List.eq_nil_of_length_eq_zero (by have := hr.2.1; omega)
    subst hz; subst h0
    exact run_convert_bytes_nil w src e hs he 0 0 dst hd
  | some a =>
    refine run_convert_bytes_back w src dst e _ cap l hs he hd (fun j hj => ?_)
    exact hr.adds j _ (by simp [byV, hj])
end
/-- What comes in: a slice of numbers, read by the form, reads so. -/
theorem open_rd {H : Type} {enc : TypeId × Value → H} {P : Program} {W : World} {t e : TypeId} {k : IntKind} {ao : Option Addr} {n cap : Nat} {d : DataW H} {ps : List MemPlace} (ht : P.underlying t = some (.slice e)) (he : P.underlying e = some (.int k)) (hc : P.cellsOf e = 1)
    (h : DataW.Trod enc P W 0 (fun _ => true) true t (.slice ao n cap) d ps) : ∃ zs : List Int, Rd W 1 ao n cap (zs.map (Value.int k)) ∧ ∀ z ∈ zs, (Lit.int k z).wf = true := by
  obtain ⟨fuel, hf⟩ := h
  rcases ChangeShapes.open_ints ht he hc hf with ⟨hcs, _⟩ | ⟨a, l, c, zs, hcs, _, hl, hm, hz, hx, hcell, hwz⟩
  · simp [Value.cells] at hcs
    obtain ⟨rfl, rfl, rfl⟩ := hcs
    exact ⟨[], Rd.nil _ _, fun _ h => by cases h⟩
  · simp [Value.cells] at hcs
    obtain ⟨rfl, rfl, rfl⟩ := hcs
    simp only [if_true] at hz
    refine ⟨zs.take n, ⟨by rw [List.length_map, List.length_take]; omega, hl, hm, (fun h => by cases h), fun h0 a' ha => ?_⟩, fun z hz' => hwz z (List.mem_of_mem_take hz')⟩
    cases ha
    have hc0 := hcell 0 (by omega)
    have hs : a.spot = none := by simpa [Addr.add] using World.cell?_spot hc0
    obtain ⟨b, off, sp⟩ := a
    dsimp only at hs; subst hs
    refine ⟨rfl, World.block_lt_of_cell? W _ hc0, fun j u hu => ?_⟩
    have hj : j < n := by
      rcases Nat.lt_or_ge j n with h | h
      · exact h
      · rw [List.getElem?_eq_none (by rw [List.length_map, List.length_take]; omega)] at hu; cases hu
    have := hcell j (by omega)
    rw [Addr.add_lit] at this
    rw [this]
    rw [List.getElem?_map, List.getElem?_take_of_lt hj] at hu
    rw [List.getD_eq_getElem?_getD]
    rw [List.getElem?_eq_getElem (by omega)] at hu ⊢
    simpa using hu
end Go.Proofs.Ytienfppidmjfpaa.Mem
