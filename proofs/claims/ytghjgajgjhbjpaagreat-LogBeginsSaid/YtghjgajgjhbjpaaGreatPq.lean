/-
  Requests alike; what an append leaves of operations that lie elsewhere.
-/
import Derived.Test.YtghjgajgjhbjpaaGreatPn
import Derived.Test.YtghjgajgjhbjpaaGreatPl
namespace Go.Proofs.YtghjgajgjhbjpaaGreat.Msg
open Go.RowKit Go.Lib Go.Proofs.YtghjgajgjhbjpaaGreat.Mem Go.Proofs.YtghjgajgjhbjpaaGreat.Tlv

/-- Two operations alike, but for where their slices lie. -/
structure Alike (v u : OV) : Prop where
  ek : u.k = v.k
  ename : u.name = v.name
  eto : u.to = v.to
  en : u.n = v.n
  ean : u.an = v.an
  ebn : u.bn = v.bn
  ecn : u.cn = v.cn
theorem Alike.refl (v : OV) : Alike v v := ⟨rfl, rfl, rfl, rfl, rfl, rfl, rfl⟩
theorem Alike.trans {v u t : OV} (h : Alike v u) (h' : Alike u t) : Alike v t := ⟨h'.ek.trans h.ek, h'.ename.trans h.ename, h'.eto.trans h.eto, h'.en.trans h.en, h'.ean.trans h.ean, h'.ebn.trans h.ebn, h'.ecn.trans h.ecn⟩
theorem CopyOf.alike {w : World} {v u : OV} (h : CopyOf w v u) : Alike v u := ⟨h.ek, h.ename, h.eto, h.en, h.ean, h.ebn, h.ecn⟩
theorem Alike.may {v u : OV} (h : Alike v u) (c : OC) : mayOp u c = mayOp v c := by
  obtain ⟨k, n, t, ao, an, ac, bo, bn, bc, co, cn, cc, m⟩ := v
  obtain ⟨k', n', t', ao', an', ac', bo', bn', bc', co', cn', cc', m'⟩ := u
  obtain ⟨h1, h2, h3, h4, h5, h6, h7⟩ := h
  dsimp only at h1 h2 h3 h4 h5 h6 h7
  subst h1 h2 h3 h4 h5 h6 h7
  rfl
theorem Alike.opL {v u : OV} (h : Alike v u) (c : OC) : opL u c = opL v c := by
  obtain ⟨k, n, t, ao, an, ac, bo, bn, bc, co, cn, cc, m⟩ := v
  obtain ⟨k', n', t', ao', an', ac', bo', bn', bc', co', cn', cc', m'⟩ := u
  obtain ⟨h1, h2, h3, h4, h5, h6, h7⟩ := h
  dsimp only at h1 h2 h3 h4 h5 h6 h7
  subst h1 h2 h3 h4 h5 h6 h7
  rfl
theorem Alike.opBy {v u : OV} (h : Alike v u) (c : OC) : opBy u c = opBy v c := by unfold Msg.opBy; rw [h.may, h.opL]
theorem Alike.same {v u v' u' : OV} (h : Alike v u) (h' : Alike v' u') (c c' : OC) : sameOp u c u' c' = sameOp v c v' c' := by
  unfold sameOp; rw [h.ek, h.ename, h.eto, h.en, h'.ek, h'.ename, h'.eto, h'.en]

/-- Two requests alike. -/
structure TwinP (p q : RP) : Prop where
  cl : q.1.cl = p.1.cl
  nu : q.1.nu = p.1.nu
  op : Alike p.1.op q.1.op
  c : q.2 = p.2
theorem TwinP.refl (p : RP) : TwinP p p := ⟨rfl, rfl, Alike.refl _, rfl⟩
theorem TwinP.may {p q : RP} (h : TwinP p q) : mayP q = mayP p := by unfold mayP; rw [h.c, h.op.may]
theorem TwinP.sz {p q : RP} (h : TwinP p q) : szP q = szP p := by unfold szP; rw [h.c, h.op.opBy]
theorem TwinP.same {p q p' q' : RP} (h : TwinP p q) (h' : TwinP p' q') : sameReq q.1 q.2 q'.1 q'.2 = sameReq p.1 p.2 p'.1 p'.2 := by
  unfold sameReq; rw [h.cl, h.nu, h.c, h'.cl, h'.nu, h'.c, h.op.same h'.op]
theorem sameReq_refl (p : RP) : sameReq p.1 p.2 p.1 p.2 = true := by unfold sameReq sameOp; simp
theorem TwinP.is_same {p q : RP} (h : TwinP p q) : sameReq q.1 q.2 p.1 p.2 = true := (h.same (TwinP.refl p)).trans (sameReq_refl p)
theorem TwinP.fit {p q : RP} (h : TwinP p q) (hf : FitP p) : FitP q := ⟨by rw [h.cl]; exact hf.c0, by rw [h.cl]; exact hf.c1, by rw [h.nu]; exact hf.n0, by rw [h.nu]; exact hf.n1⟩

/-- Rows of requests alike. -/
def Twins (ps qs : List RP) : Prop := qs.length = ps.length ∧ ∀ (k : Nat) (p q : RP), ps[k]? = some p → qs[k]? = some q → TwinP p q
theorem Twins.nil : Twins [] [] := ⟨rfl, fun k p q h => by simp at h⟩
theorem Twins.snoc {ps qs : List RP} (h : Twins ps qs) {p q : RP} (hp : TwinP p q) : Twins (ps ++ [p]) (qs ++ [q]) := by
  refine ⟨by simp [h.1], fun k a b ha hb => ?_⟩
  by_cases hk : k < ps.length
  · rw [List.getElem?_append_left hk] at ha
    rw [List.getElem?_append_left (by have := h.1; omega)] at hb
    exact h.2 k a b ha hb
  · rw [List.getElem?_append_right (by omega)] at ha
    rw [List.getElem?_append_right (by have := h.1; omega)] at hb
    have h1 := h.1
    have hk0 : k - ps.length = 0 := by have := (List.getElem?_eq_some_iff.1 ha).1; simp at this; omega
    rw [hk0, List.getElem?_cons_zero, Option.some.injEq] at ha
    rw [h1, hk0, List.getElem?_cons_zero, Option.some.injEq] at hb
    subst ha hb
    exact hp
theorem Twins.take {ps qs : List RP} (h : Twins ps qs) (n : Nat) : Twins (ps.take n) (qs.take n) := by
  refine ⟨by simp [h.1], fun k a b ha hb => ?_⟩
  rw [List.getElem?_take] at ha hb
  split at ha
  · rename_i hk
    rw [if_pos hk] at hb
    exact h.2 k a b ha hb
  · cases ha
theorem Twins.drop {ps qs : List RP} (h : Twins ps qs) (n : Nat) : Twins (ps.drop n) (qs.drop n) := by
  refine ⟨by simp [h.1], fun k a b ha hb => ?_⟩
  rw [List.getElem?_drop] at ha hb
  exact h.2 _ a b ha hb
theorem Twins.at_ {ps qs : List RP} (h : Twins ps qs) {k : Nat} {p : RP} (hp : ps[k]? = some p) : ∃ q, qs[k]? = some q ∧ TwinP p q := by
  have hk := (List.getElem?_eq_some_iff.1 hp).1
  have hk2 : k < qs.length := by rw [h.1]; exact hk
  exact ⟨qs[k], List.getElem?_eq_getElem hk2, h.2 k p _ hp (List.getElem?_eq_getElem hk2)⟩
theorem Twins.sizes {ps qs : List RP} (h : Twins ps qs) : qs.map szP = ps.map szP := by
  refine List.ext_getElem? (fun k => ?_)
  rw [List.getElem?_map, List.getElem?_map]
  cases hp : ps[k]? with
  | none => rw [List.getElem?_eq_none (by rw [h.1]; exact List.getElem?_eq_none_iff.1 hp)]
  | some p =>
    obtain ⟨q, hq, ht⟩ := h.at_ hp
    rw [hq]
    simp [ht.sz]
theorem Twins.mem {ps qs : List RP} (h : Twins ps qs) {q : RP} (hq : q ∈ qs) : ∃ p ∈ ps, TwinP p q := by
  obtain ⟨k, hk, e⟩ := List.getElem_of_mem hq
  have hk2 : k < ps.length := by rw [← h.1]; exact hk
  exact ⟨ps[k], List.getElem_mem hk2, h.2 k _ q (List.getElem?_eq_getElem hk2) (by rw [← e]; exact List.getElem?_eq_getElem hk)⟩

/-- A log's own cells hold no string and no byte. -/
theorem plog_cells {W : World} {g : Nat} {b : Bool} {base : Int} {lo so : Option Addr} {n lc m sc : Nat} {t : TypeId} (h : W.heap[g]? = some (.cells #[.bool b, .int .u64 base, .slice lo n lc, .slice so m sc] t)) : ∀ i u, W.cell? ⟨g, i, none⟩ = some u → plainCell u = false := by
  intro i u hu
  simp only [World.cell?, h] at hu
  match i, hu with
  | 0, hu => simp at hu; subst hu; rfl
  | 1, hu => simp at hu; subst hu; rfl
  | 2, hu => simp at hu; subst hu; rfl
  | 3, hu => simp at hu; subst hu; rfl
  | i + 4, hu => simp at hu

theorem rd_but {W W' : World} {g size : Nat} {l s : Option Nat} {ao : Option Addr} {n cap : Nat} {xs : List Value} (h : Rd W size ao n cap xs) (hz : W.heap.size ≤ W'.heap.size) (hg : ∀ i u, W.cell? ⟨g, i, none⟩ = some u → plainCell u = false)
    (ho : ∀ k, k < W.heap.size → k ≠ g → some k ≠ l → some k ≠ s → W'.heap[k]? = W.heap[k]?) (hx : ∀ u ∈ xs, plainCell u = true) (h1 : 0 < cap → ∀ a, ao = some a → some a.block ≠ l) (h2 : 0 < cap → ∀ a, ao = some a → some a.block ≠ s) : Rd W' size ao n cap xs := by
  obtain ⟨r1, r2, r3, r4, r5⟩ := h
  refine ⟨r1, r2, r3, r4, fun h0 a ha => ?_⟩
  obtain ⟨e, lt, c⟩ := r5 h0 a ha
  refine ⟨e, Nat.lt_of_lt_of_le lt hz, fun j u hu => ?_⟩
  have hc := c j u hu
  have hpl := hx u (List.mem_of_getElem? hu)
  have hne : a.block ≠ g := by
    intro e
    rw [e] at hc
    rw [hg _ u hc] at hpl
    cases hpl
  exact (World.cell?_of_block (a := ⟨a.block, a.off + j, none⟩) (ho _ lt hne (h1 h0 a ha) (h2 h0 a ha))).trans hc
theorem OpAt.but {W W' : World} {g : Nat} {l s : Option Nat} {v : OV} {c : OC} (h : OpAt W v c) (hz : W.heap.size ≤ W'.heap.size) (hg : ∀ i u, W.cell? ⟨g, i, none⟩ = some u → plainCell u = false)
    (ho : ∀ k, k < W.heap.size → k ≠ g → some k ≠ l → some k ≠ s → W'.heap[k]? = W.heap[k]?) (h1 : ApartC v l) (h2 : ApartC v s) : OpAt W' v c := by
  obtain ⟨a, b, d, la, lb, lc⟩ := h
  refine ⟨rd_but a hz hg ho ?_ h1.a h2.a, rd_but b hz hg ho ?_ h1.b h2.b, rd_but d hz hg ho ?_ h1.c h2.c, la, lb, lc⟩
  · intro u hu
    simp only [atV, List.mem_flatMap, List.mem_cons, List.not_mem_nil, or_false] at hu
    obtain ⟨x, -, rfl | rfl⟩ := hu <;> rfl
  · intro u hu
    simp only [txV, List.mem_map] at hu
    obtain ⟨x, -, rfl⟩ := hu
    rfl
  · intro u hu
    simp only [byV, List.mem_map] at hu
    obtain ⟨x, -, rfl⟩ := hu
    rfl

theorem ApartC.turn {m : Nat} {v : OV} {k k' : Option Nat} (h : ApartC v k) (hin : OpIn m v) (hk : ∀ j, k' = some j → k = some j ∨ m ≤ j) : ApartC v k' := by
  refine ⟨fun h0 x hx e => ?_, fun h0 x hx e => ?_, fun h0 x hx e => ?_⟩
  · rcases hk _ e.symm with h1 | h1
    · exact h.a h0 x hx h1.symm
    · have := hin.a h0 x hx; omega
  · rcases hk _ e.symm with h1 | h1
    · exact h.b h0 x hx h1.symm
    · have := hin.b h0 x hx; omega
  · rcases hk _ e.symm with h1 | h1
    · exact h.c h0 x hx h1.symm
    · have := hin.c h0 x hx; omega

/-- The program's log: requests that are copies, with what they hold. -/
structure PLog (B g : Nat) (base : Int) (l s : Value) (qs : List RP) (W : World) : Prop where
  log : LogO B g base l s (qs.map Prod.fst) (qs.map szP) W
  ops : ∀ q ∈ qs, OpAt W q.1.op q.2
  sep : ∀ q ∈ qs, ApartC q.1.op l.ownBlock ∧ ApartC q.1.op s.ownBlock
  nil : l.ownBlock = none ↔ s.ownBlock = none
theorem OwnO.pos {W : World} {B : Nat} {e : TypeId} {size : Nat} {v : Value} {n : Nat} {xs : List Value} (h : OwnO W B e size v n xs) (hn : 0 < n) : v.ownBlock ≠ none := by
  rcases h.2 with ⟨-, h0⟩ | ⟨g, off, cap, cur, rfl, -⟩
  · omega
  · intro h; cases h
theorem PLog.later {B g : Nat} {base : Int} {l s : Value} {qs : List RP} {W W' : World} (h : PLog B g base l s qs W) (hb : Below W.heap.size W W') : PLog B g base l s qs W' :=
  ⟨h.log.later hb, fun q hq => (h.ops q hq).later hb, h.sep, h.nil⟩
theorem PLog.sizes {B g : Nat} {base : Int} {l s : Value} {qs : List RP} {W : World} (h : PLog B g base l s qs W) : ∀ z ∈ qs.map szP, 0 ≤ z ∧ z ≤ 5000000 := by
  intro z hz
  obtain ⟨p, hp, rfl⟩ := List.mem_map.1 hz
  exact szP_le (h.ops p hp)
theorem PLog.rd {B g : Nat} {base : Int} {l s : Value} {qs : List RP} {W : World} (h : PLog B g base l s qs W) : ∃ lo lc so sc, l = .slice lo qs.length lc ∧ s = .slice so qs.length sc ∧ LogR true g base qs.length lo lc so sc (qs.map Prod.fst) (qs.map szP) W := by
  have := h.log.rd
  rw [List.length_map] at this
  exact this
theorem map_snoc (qs : List RP) (q : RP) : (qs ++ [q]).map Prod.fst = qs.map Prod.fst ++ [q.1] ∧ (qs ++ [q]).map szP = qs.map szP ++ [szP q] := by simp
end Go.Proofs.YtghjgajgjhbjpaaGreat.Msg
