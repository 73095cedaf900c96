/-
  Rows of one's own that begin anywhere in their block: append, cut, drop.
-/
import Derived.Test.YtghjgajgjhbjpaaGreatNw
import Derived.Test.YtghjgajgjhbjpaaGreatUv
import Derived.Deep.MidRow
import Derived.Laws.CopyRow
namespace Go.Proofs.YtghjgajgjhbjpaaGreat.Mem
open Go Go.RowKit

/-- A row of one's own: nil, or a part of a block. -/
def OwnO (W : World) (B : Nat) (e : TypeId) (size : Nat) (v : Value) (n : Nat) (xs : List Value) : Prop :=
  xs.length = n * size ∧ ((v = .slice none 0 0 ∧ n = 0) ∨
    ∃ g off cap cur, v = .slice (some ⟨g, off, none⟩) n cap ∧ B ≤ g ∧ W.heap[g]? = some (.cells cur e (0, 0)) ∧ n ≤ cap ∧ cap ≤ maxLen ∧ off + cap * size ≤ cur.size ∧ ∀ j, j < n * size → cur[off + j]? = xs[j]?)
theorem OwnO.of_own {W : World} {B : Nat} {e : TypeId} {size : Nat} {v : Value} {n : Nat} {xs : List Value} (h : W.ownsRow B e size v n xs) : OwnO W B e size v n xs := by
  obtain ⟨h1, h2⟩ := h
  refine ⟨h1, ?_⟩
  rcases h2 with h2 | ⟨g, cap, cur, hv, hb, hg, hn, hc, hs, ht⟩
  · exact .inl h2
  · refine .inr ⟨g, 0, cap, cur, hv, hb, hg, hn, hc, by rw [hs]; omega, fun j hj => ?_⟩
    rw [← ht, List.getElem?_take_of_lt hj, Nat.zero_add]
    simp
theorem OwnO.later {W W' : World} {B : Nat} {e : TypeId} {size : Nat} {v : Value} {n : Nat} {xs : List Value} (h : OwnO W B e size v n xs) (hb : Below W.heap.size W W') : OwnO W' B e size v n xs := by
  obtain ⟨h1, h2⟩ := h
  refine ⟨h1, ?_⟩
  rcases h2 with h2 | ⟨g, off, cap, cur, hv, hbg, hg, rest⟩
  · exact .inl h2
  · exact .inr ⟨g, off, cap, cur, hv, hbg, (hb.block g (Array.getElem?_eq_some_iff.1 hg).1).trans hg, rest⟩
theorem OwnO.kept {W W' : World} {B : Nat} {e : TypeId} {size : Nat} {v : Value} {n : Nat} {xs : List Value} (h : OwnO W B e size v n xs) (hk : ∀ k, v.ownBlock = some k → W'.heap[k]? = W.heap[k]?) : OwnO W' B e size v n xs := by
  obtain ⟨h1, h2⟩ := h
  refine ⟨h1, ?_⟩
  rcases h2 with h2 | ⟨g, off, cap, cur, hv, hbg, hg, rest⟩
  · exact .inl h2
  · exact .inr ⟨g, off, cap, cur, hv, hbg, (hk g (by rw [hv]; rfl)).trans hg, rest⟩
theorem OwnO.low {W : World} {B : Nat} {e : TypeId} {size : Nat} {v : Value} {n : Nat} {xs : List Value} (h : OwnO W B e size v n xs) : ∀ k, v.ownBlock = some k → B ≤ k ∧ k < W.heap.size := by
  intro k hk
  rcases h.2 with ⟨rfl, -⟩ | ⟨g, off, cap, cur, rfl, hb, hg, -⟩
  · cases hk
  · have : g = k := by simpa [Value.ownBlock] using hk
    subst this
    exact ⟨hb, (Array.getElem?_eq_some_iff.1 hg).1⟩
theorem OwnO.typed {W : World} {B : Nat} {e : TypeId} {size : Nat} {v : Value} {n : Nat} {xs : List Value} (h : OwnO W B e size v n xs) : ∀ k, v.ownBlock = some k → ∃ cur, W.heap[k]? = some (.cells cur e (0, 0)) := by
  intro k hk
  rcases h.2 with ⟨rfl, -⟩ | ⟨g, off, cap, cur, rfl, hb, hg, -⟩
  · cases hk
  · have : g = k := by simpa [Value.ownBlock] using hk
    subst this
    exact ⟨cur, hg⟩
theorem OwnO.mono {W : World} {B B' : Nat} {e : TypeId} {size : Nat} {v : Value} {n : Nat} {xs : List Value} (h : OwnO W B e size v n xs) (hB : B' ≤ B) : OwnO W B' e size v n xs := by
  obtain ⟨h1, h2⟩ := h
  refine ⟨h1, ?_⟩
  rcases h2 with h2 | ⟨g, off, cap, cur, hv, hbg, hg, rest⟩
  · exact .inl h2
  · exact .inr ⟨g, off, cap, cur, hv, Nat.le_trans hB hbg, hg, rest⟩
theorem OwnO.rd {W : World} {B : Nat} {e : TypeId} {size : Nat} {v : Value} {n : Nat} {xs : List Value} (h : OwnO W B e size v n xs) : ∃ ao cap, v = .slice ao n cap ∧ Rd W size ao n cap xs ∧ (ao = none → n = 0) := by
  obtain ⟨h1, h2⟩ := h
  rcases h2 with ⟨rfl, rfl⟩ | ⟨g, off, cap, cur, rfl, hbg, hg, hn, hc, hs, ht⟩
  · have : xs = [] := List.eq_nil_of_length_eq_zero (by simpa using h1)
    subst this
    exact ⟨none, 0, rfl, Rd.nil _ _, fun _ => rfl⟩
  · refine ⟨_, cap, rfl, ⟨h1, hn, hc, (fun h => by cases h), fun _ a ha => ?_⟩, fun h => by cases h⟩
    cases ha
    refine ⟨rfl, (Array.getElem?_eq_some_iff.1 hg).1, fun j u hu => ?_⟩
    have hj : j < n * size := by rw [← h1]; exact (List.getElem?_eq_some_iff.1 hu).1
    simp only [World.cell?, hg]
    rw [ht j hj, hu]
    rfl
/-- Cut: the first k elements, without room. -/
theorem OwnO.cut {W : World} {B : Nat} {e : TypeId} {size : Nat} {g off n cap : Nat} {xs : List Value} (h : OwnO W B e size (.slice (some ⟨g, off, none⟩) n cap) n xs) (k : Nat) (hk : k ≤ n) : OwnO W B e size (.slice (some ⟨g, off, none⟩) k k) k (xs.take (k * size)) := by
  obtain ⟨h1, h2⟩ := h
  have hks : k * size ≤ n * size := Nat.mul_le_mul_right _ hk
  refine ⟨by rw [List.length_take, h1]; omega, ?_⟩
  rcases h2 with ⟨h2, -⟩ | ⟨g', off', cap', cur, hv, hbg, hg, hn, hc, hs, ht⟩
  · cases h2
  · cases hv
    have hkc : k * size ≤ cap * size := Nat.mul_le_mul_right _ (by omega)
    refine .inr ⟨g, off, k, cur, rfl, hbg, hg, Nat.le_refl _, by omega, by omega, fun j hj => ?_⟩
    rw [ht j (by omega), List.getElem?_take_of_lt hj]
/-- Drop: what stands behind the first k elements. -/
theorem OwnO.drop {W : World} {B : Nat} {e : TypeId} {size : Nat} {g off n cap : Nat} {xs : List Value} (h : OwnO W B e size (.slice (some ⟨g, off, none⟩) n cap) n xs) (k : Nat) (hk : k ≤ n) : OwnO W B e size (.slice (some ⟨g, off + k * size, none⟩) (n - k) (cap - k)) (n - k) (xs.drop (k * size)) := by
  obtain ⟨h1, h2⟩ := h
  refine ⟨by rw [List.length_drop, h1, Nat.sub_mul], ?_⟩
  rcases h2 with ⟨h2, -⟩ | ⟨g', off', cap', cur, hv, hbg, hg, hn, hc, hs, ht⟩
  · cases h2
  · cases hv
    have hkc : (cap - k) * size + k * size = cap * size := by rw [← Nat.add_mul]; congr 1; omega
    have hkn : (n - k) * size + k * size = n * size := by rw [← Nat.add_mul]; congr 1; omega
    refine .inr ⟨g, off + k * size, cap - k, cur, rfl, hbg, hg, by omega, by omega, by omega, fun j hj => ?_⟩
    rw [List.getElem?_drop, Nat.add_assoc, ht _ (by omega)]

/-- What stands in a row is kept: what changes in its block lies behind it, and there is room. -/
def KeepsRow (W W' : World) (v : Value) (n size : Nat) : Prop := ∀ (b off cap : Nat), v = .slice (some ⟨b, off, none⟩) n cap →
  (cap = n → W'.heap[b]? = W.heap[b]?) ∧ ∀ (cur : Array Value) (t : TypeId), W.heap[b]? = some (.cells cur t (0, 0)) → ∃ cur' : Array Value, W'.heap[b]? = some (.cells cur' t (0, 0)) ∧ cur'.size = cur.size ∧ ∀ j, j < off + n * size → cur'[j]? = cur[j]?
/-- An append to the first row does not touch the second one. -/
def RowSep (size : Nat) (A : Value) (nA : Nat) (Bv : Value) (nB : Nat) : Prop := ∀ (b oA cA oB cB : Nat), A = .slice (some ⟨b, oA, none⟩) nA cA → Bv = .slice (some ⟨b, oB, none⟩) nB cB → cA = nA ∨ oB + nB * size ≤ oA + nA * size
def RowNext (size m : Nat) (A : Value) (nA : Nat) (A' : Value) (nA' : Nat) : Prop := ∀ (Bv : Value) (nB : Nat), (∀ b, Bv.ownBlock = some b → b < m) → RowSep size A nA Bv nB → RowSep size A' nA' Bv nB
theorem KeepsRow.same {W W' : World} {v : Value} {n size : Nat} (h : ∀ k, v.ownBlock = some k → W'.heap[k]? = W.heap[k]?) : KeepsRow W W' v n size := by
  intro b off cap e
  have := h b (by rw [e]; rfl)
  exact ⟨fun _ => this, fun cur t hc => ⟨cur, this.trans hc, rfl, fun _ _ => rfl⟩⟩
theorem KeepsRow.wrap {W W1 W2 W3 : World} {v : Value} {n size : Nat} (h : KeepsRow W1 W2 v n size) (h1 : ∀ k, v.ownBlock = some k → W1.heap[k]? = W.heap[k]?) (h2 : ∀ k, v.ownBlock = some k → W3.heap[k]? = W2.heap[k]?) : KeepsRow W W3 v n size := by
  intro b off cap e
  have e1 := h1 b (by rw [e]; rfl)
  have e2 := h2 b (by rw [e]; rfl)
  obtain ⟨k1, k2⟩ := h b off cap e
  refine ⟨fun hc => e2.trans ((k1 hc).trans e1), fun cur t hc => ?_⟩
  obtain ⟨cur', q1, q2, q3⟩ := k2 cur t (e1.trans hc)
  exact ⟨cur', e2.trans q1, q2, q3⟩
theorem RowNext.mono {size m m' : Nat} {A A' : Value} {nA nA' : Nat} (h : RowNext size m A nA A' nA') (hm : m' ≤ m) : RowNext size m' A nA A' nA' := fun Bv nB hb hs => h Bv nB (fun b e => by have := hb b e; omega) hs
theorem RowNext.refl (size m : Nat) (A : Value) (nA : Nat) : RowNext size m A nA A nA := fun _ _ _ h => h
theorem RowNext.fresh {size m : Nat} {A : Value} {nA : Nat} {a : Addr} {n' c' : Nat} (h : m ≤ a.block) : RowNext size m A nA (.slice (some a) n' c') n' := by
  intro Bv nB hb _ b oA cA oB cB e1 e2
  cases e1
  have := hb b (by rw [e2]; rfl)
  simp at h
  omega
theorem RowNext.full {size m : Nat} {A : Value} {nA : Nat} {ao : Option Addr} {n' : Nat} : RowNext size m A nA (.slice ao n' n') n' := by
  intro Bv nB hb _ b oA cA oB cB e1 e2
  cases e1
  exact .inl rfl
theorem RowNext.nil_ {size m : Nat} {A : Value} {nA : Nat} {n' c' : Nat} : RowNext size m A nA (.slice none n' c') n' := by
  intro Bv nB hb _ b oA cA oB cB e1 e2
  cases e1
theorem RowNext.drop {size m b o n c k : Nat} (hk : k ≤ n) : RowNext size m (.slice (some ⟨b, o, none⟩) n c) n (.slice (some ⟨b, o + k * size, none⟩) (n - k) (c - k)) (n - k) := by
  intro Bv nB hb hs b' oA cA oB cB e1 e2
  cases e1
  rcases hs b o c oB cB rfl e2 with h | h
  · exact .inl (by omega)
  · refine .inr ?_
    have : (n - k) * size + k * size = n * size := by rw [← Nat.add_mul]; congr 1; omega
    omega

section
variable {P : Program} (w : World)
/-- append where there is room: into the block. -/
theorem run_appO_room (t ty e : TypeId) (i : TypeInfo) (ht : P.underlying t = some (.slice e)) (hi : P.info? e = some i)
    (g off sLen sCap : Nat) (cur : Array Value) (hg : w.heap[g]? = some (.cells cur e (0, 0)))
    (a : Addr) (m c : Nat) (news : List Value) (hl : news.length = m * i.size) (hnews : ∀ j u, news[j]? = some u → w.cell? (a.add j) = some u) (h1 : ∀ u ∈ news, u.oneCell' = true)
    (hroom : sLen + m ≤ sCap) (hfit : off + sLen * i.size + news.length ≤ cur.size) :
    (Builtin.append_ #[t, t] ty #[.slice (some ⟨g, off, none⟩) sLen sCap, .slice (some a) m c]).run P w =
      .ok (.slice (some ⟨g, off, none⟩) (sLen + m) sCap) (w.setRow g (cur.toList.take (off + sLen * i.size) ++ news ++ cur.toList.drop (off + sLen * i.size + news.length)).toArray) := by
  have hf := run_firstCells_some (P := P) w i.size m a m c news hl hnews
  have hst := run_storeCells_at P g (off + sLen * i.size) e news 0 cur w hg (by simpa using hfit) h1
  simp only [Nat.add_zero] at hst
  simp [Builtin.append_, run_underlying ht, sizeOf, typeInfo, hi, Builtin.lenOf, hroom, hf, Addr.add_mid, hst]

/-- append of elements that can be read to a row of one's own, wherever it begins. -/
theorem run_appO (base : Nat) (t ty e : TypeId) (z : Value) (size bytes : Nat) (T : SliceT P t e z size bytes)
    (v : Value) (n : Nat) (xs : List Value) (hown : OwnO w base e size v n xs) (ad : Addr) (m c : Nat) (news : List Value) (hr : Rd w size (some ad) m c news) (h1 : ∀ u ∈ news, u.oneCell' = true)
    (h63 : n + m ≤ maxLen) (hbytes : (n + m) * bytes ≤ 140737488355328) (hbase : base ≤ w.heap.size) (hm : 0 < m) :
    ∃ a' cap' w', (Builtin.append_ #[t, t] ty #[v, .slice (some ad) m c]).run P w = .ok (.slice (some a') (n + m) cap') w' ∧ OwnO w' base e size (.slice (some a') (n + m) cap') (n + m) (xs ++ news) ∧ w.grownBy w' v.ownBlock ∧ Below base w w' ∧
      (v.ownBlock = some a'.block ∨ w.heap.size ≤ a'.block) ∧ KeepsRow w w' v n size ∧ RowNext size w.heap.size v n (.slice (some a') (n + m) cap') (n + m) := by
  obtain ⟨i, hi, hz, hs, hby⟩ := info_parts T.info
  obtain ⟨hxl, h2⟩ := hown
  have hnl := hr.1
  have fin : ∀ {ao' : Option Addr} {cap' : Nat} {w' : World}, w'.ownsRow w.heap.size e size (.slice ao' (n + m) cap') (n + m) (xs ++ news) → ∃ a', ao' = some a' ∧ w.heap.size ≤ a'.block := by
    intro ao' cap' w' ho
    rcases ho.2 with ⟨h, h0⟩ | ⟨g, cap, cur, hv, hb, -⟩
    · omega
    · cases hv; exact ⟨_, rfl, hb⟩
  rcases h2 with ⟨rfl, rfl⟩ | ⟨g, off, cap, cur, rfl, hbg, hg, hn, hc, hsz, hxs⟩
  · have : xs = [] := List.eq_nil_of_length_eq_zero (by simpa using hxl)
    subst this
    obtain ⟨ao', cap', w', hrun, r1, r2, r3, -⟩ := run_app (P := P) w w.heap.size t ty e z size bytes T (.slice none 0 0) 0 [] (World.ownsRow_nil _ _ _ _) (some ad) m c news hr h1 h63 hbytes (Nat.le_refl _)
    obtain ⟨a', rfl, hfr⟩ := fin r1
    exact ⟨a', cap', w', hrun, (OwnO.of_own r1).mono hbase, r2, r3.mono hbase, .inr hfr, (fun _ _ _ e => by cases e), RowNext.fresh hfr⟩
  · by_cases hroom : n + m ≤ cap
    · have hmc : (n + m) * size ≤ cap * size := Nat.mul_le_mul_right _ hroom
      rw [Nat.add_mul] at hmc
      have hfit : off + n * i.size + news.length ≤ cur.size := by rw [hs, hnl]; omega
      have hrun := run_appO_room (P := P) w t ty e i T.ht hi g off n cap cur hg ad m c news (by rw [hs]; exact hnl) hr.adds h1 hroom hfit
      rw [hs] at hrun hfit
      refine ⟨_, cap, _, hrun, ⟨by rw [List.length_append, hxl, hnl, Nat.add_mul], .inr ⟨g, off, cap, _, rfl, hbg, setRow_heap w g cur _ e _ hg, hroom, hc, ?_, fun j hj => ?_⟩⟩, ?_, ?_, .inl rfl, ?_, ?_⟩
      · simp only [List.size_toArray, List.length_append, List.length_take, List.length_drop, Array.length_toList]
        omega
      · rw [Nat.add_mul] at hj
        rw [List.getElem?_toArray]
        by_cases hjn : j < n * size
        · rw [List.getElem?_append_left (by simp only [List.length_append, List.length_take, Array.length_toList]; omega), List.getElem?_append_left (by simp only [List.length_take, Array.length_toList]; omega), List.getElem?_take_of_lt (by omega), List.getElem?_append_left (by omega), ← hxs j hjn]
          simp
        · rw [List.getElem?_append_left (by simp only [List.length_append, List.length_take, Array.length_toList]; omega), List.getElem?_append_right (by simp only [List.length_take, Array.length_toList]; omega), List.getElem?_append_right (by omega)]
          congr 1
          simp only [List.length_take, Array.length_toList]
          omega
      · exact ⟨rfl, rfl, rfl, by simp [World.setRow], fun k _ hk => setRow_other _ _ _ _ (fun e => hk (by rw [e]; rfl))⟩
      · exact ⟨rfl, rfl, rfl, by simp [World.setRow], fun k hk => setRow_other _ _ _ _ (by omega)⟩
      · intro b' off' cap' e
        cases e
        refine ⟨fun h => by omega, fun cur0 t0 hc0 => ?_⟩
        rw [hg] at hc0
        cases hc0
        refine ⟨_, setRow_heap w g cur _ _ _ hg, ?_, fun j hj => ?_⟩
        · simp only [List.size_toArray, List.length_append, List.length_take, List.length_drop, Array.length_toList]
          omega
        · rw [List.getElem?_toArray, List.getElem?_append_left (by simp only [List.length_append, List.length_take, Array.length_toList]; omega), List.getElem?_append_left (by simp only [List.length_take, Array.length_toList]; omega), List.getElem?_take_of_lt hj]
          simp
      · intro Bv nB hb hs b' oA cA oB cB e1 e2
        cases e1
        rcases hs _ _ _ oB cB rfl e2 with h | h
        · omega
        · refine .inr ?_
          rw [Nat.add_mul]
          omega
    · have hrow : Rd w size (some ⟨g, off, none⟩) n cap xs := by
        refine ⟨hxl, hn, hc, (fun h => by cases h), fun _ a ha => ?_⟩
        cases ha
        refine ⟨rfl, (Array.getElem?_eq_some_iff.1 hg).1, fun j u hu => ?_⟩
        have hj : j < n * size := by rw [← hxl]; exact (List.getElem?_eq_some_iff.1 hu).1
        simp only [World.cell?, hg]
        rw [hxs j hj, hu]
        rfl
      obtain ⟨g', cap', w', hrun, r1, r2⟩ := run_grow (P := P) w t ty e z size bytes T (some ⟨g, off, none⟩) n cap xs hrow (some ad) m c news hr h1 (by omega) h63 hbytes
      obtain ⟨a', ha', hfr⟩ := fin r1
      cases ha'
      exact ⟨_, cap', w', hrun, (OwnO.of_own r1).mono hbase, ⟨r2.os, r2.tape, r2.output, r2.size, fun k hk _ => r2.block k hk⟩, r2.mono hbase, .inr hfr, KeepsRow.same (fun k hk => r2.block k (by cases hk; exact (Array.getElem?_eq_some_iff.1 hg).1)), RowNext.fresh hfr⟩
end
end Go.Proofs.YtghjgajgjhbjpaaGreat.Mem
