/-
  A part of the proof: what this text holds is told at each of its declarations.
-/
import Derived.Test.YtgeafnggodkpaaaGreatZaap
import Derived.Test.YtgeafnggodkpaaaGreatZaac
import Derived.Test.YtgeafnggodkpaaaGreatZaaj
import Derived.Test.YtgeafnggodkpaaaGreatZaao
namespace Go.Proofs.YtgeafnggodkpaaaGreat.Msg
open Go.RowKit Go.Lib Go.Proofs.YtgeafnggodkpaaaGreat.Mem Go.Proofs.YtgeafnggodkpaaaGreat.Tlv

theorem allIt_le (it : Nat → List UInt8) (B : Nat) : ∀ n, (∀ i, i < n → (it i).length ≤ B) → (allIt it n).length ≤ n * B
  | 0, _ => by simp [allIt]
  | n + 1, h => by
    have h1 := allIt_le it B n (fun i hi => h i (by omega))
    have h2 := h n (by omega)
    rw [allIt_succ, List.length_append, Nat.add_mul]
    omega
theorem sz_len (x : ByteArray) : x.data.toList.length = x.size := Utf.len_data x

/-- An attribute's two values. -/
def atIt (u : ByteArray × ByteArray) (k : Nat) : List UInt8 := if k = 0 then val 1 u.1.data.toList else val 2 u.2.data.toList
theorem atIt_two (u : ByteArray × ByteArray) : allIt (atIt u) 2 = val 1 u.1.data.toList ++ val 2 u.2.data.toList := by
  simp [allIt, atIt, List.range_succ]

set_option maxRecDepth 100000 in
set_option maxHeartbeats 2000000 in
theorem put11_any (B g lb ib b1 o1 n cap i k : Nat) (st : WS) (u : ByteArray × ByteArray) (W : World) (hw : WrS B g st W) (hl : st.l.length ≤ 100000000) (hk : k < 2)
    (c1 : W.cell? ⟨lb, 0, none⟩ = some (.slice (some ⟨b1, o1, none⟩) n cap)) (c2 : W.cell? ⟨ib, 0, none⟩ = some (.int .i64 (i : Int))) (hi : i < n)
    (c3 : W.cell? ⟨b1, o1 + i * 2, none⟩ = some (.string u.1)) (c4 : W.cell? ⟨b1, o1 + i * 2 + 1, none⟩ = some (.string u.2)) (h1 : u.1.size ≤ 1000) (h2 : u.2.size ≤ 1000) :
    Calls Tryz.prog 158 (#[.pointer (some ⟨g, 0, none⟩), .int .i64 (k : Int)] ++ #[.pointer (some ⟨lb, 0, none⟩), .pointer (some ⟨ib, 0, none⟩)]) W fun e w' => (∃ r, e = .returned r) ∧ WrS B g (st.put (if k = 0 then 1 else 2) (if k = 0 then u.1.data.toList else u.2.data.toList)) w' ∧ Below B W w' := by
  have i0 : (0 : Int) ≤ (i : Int) := by omega
  have i1 : (i : Int) < (n : Int) := by omega
  rcases (by omega : k = 0 ∨ k = 1) with rfl | rfl
  · go_enter Tryz.func158, Tryz.ntmps158
    go_wp2_with fail
    refine (wtext_any B g st 1 u.1 W hw hl (by omega)).mono ?_
    rintro e w' ⟨rfl, q1, q2, q3⟩
    go_wp2
    refine bodyPost_end (results_none rfl _ _ _) rfl ?_
    exact ⟨⟨_, rfl⟩, q1, q2⟩
  · go_enter Tryz.func158, Tryz.ntmps158
    go_wp2_with fail
    refine (wtext_any B g st 2 u.2 W hw hl (by omega)).mono ?_
    rintro e w' ⟨rfl, q1, q2, q3⟩
    go_wp2
    refine bodyPost_end (results_none rfl _ _ _) rfl ?_
    exact ⟨⟨_, rfl⟩, q1, q2⟩

set_option maxRecDepth 100000 in
set_option maxHeartbeats 2000000 in
theorem put1_any (B g lb b1 o1 n cap i : Nat) (st : WS) (u : ByteArray × ByteArray) (W : World) (hw : WrS B g st W) (hb : st.bad = 0) (hl : st.l.length ≤ 100000000)
    (c1 : W.cell? ⟨lb, 0, none⟩ = some (.slice (some ⟨b1, o1, none⟩) n cap)) (hi : i < n)
    (c3 : W.cell? ⟨b1, o1 + i * 2, none⟩ = some (.string u.1)) (c4 : W.cell? ⟨b1, o1 + i * 2 + 1, none⟩ = some (.string u.2)) (h1 : u.1.size ≤ 1000) (h2 : u.2.size ≤ 1000) :
    Calls Tryz.prog 157 (#[.pointer (some ⟨g, 0, none⟩), .int .i64 (i : Int)] ++ #[.pointer (some ⟨lb, 0, none⟩)]) W fun e w' => (∃ r, e = .returned r) ∧ WrS B g (st.put 3 (val 1 u.1.data.toList ++ val 2 u.2.data.toList)) w' ∧ Below B W w' := by
  have hbx : Below W.heap.size W (W.alloc (.cells #[.int .i64 (i : Int)] 3)) := (Below.refl _ W).alloc (Nat.le_refl _) _
  have hib : (W.alloc (.cells #[.int .i64 (i : Int)] 3)).cell? ⟨W.heap.size, 0, none⟩ = some (.int .i64 (i : Int)) := by
    rw [World.cell?_alloc_mark]
    rfl
  have kc : ∀ {a : Addr} {x : Value}, W.cell? a = some x → ∀ W', Below (W.alloc (.cells #[.int .i64 (i : Int)] 3)).heap.size (W.alloc (.cells #[.int .i64 (i : Int)] 3)) W' → W'.cell? a = some x := fun {a x} h W' hb' => by
    have e1 := (hbx.cell (World.block_lt_of_cell? W _ h)).trans h
    exact (hb'.cell (World.block_lt_of_cell? _ _ e1)).trans e1
  have hW := wlist_ok B g st 3 2 158 #[.pointer (some ⟨lb, 0, none⟩), .pointer (some ⟨W.heap.size, 0, none⟩)] (atIt u) _ (hw.later hbx) hb (by decide) (enters_of Tryz.func158 (by kernel_rfl) rfl)
    (fun k hk => by
      unfold atIt
      rcases (by omega : k = 0 ∨ k = 1) with rfl | rfl
      · rw [if_pos rfl]; exact ⟨manyOf_val 1 _ (by decide) (by rw [sz_len]; omega), by rw [val_len]; omega⟩
      · rw [if_neg (by omega)]; exact ⟨manyOf_val 2 _ (by decide) (by rw [sz_len]; omega), by rw [val_len]; omega⟩)
    (by rw [atIt_two, List.length_append, val_len, val_len, sz_len, sz_len]; omega) hl
    (fun k W' hk hb' hwr => by
      refine (put11_any _ _ lb W.heap.size b1 o1 n cap i k _ u W' hwr ?_ hk (kc c1 W' hb') ((hb'.cell (World.block_lt_of_cell? _ _ hib)).trans hib) hi (kc c3 W' hb') (kc c4 W' hb') h1 h2).mono ?_
      · have := allIt_le (atIt u) 2000 k (fun j hj => by unfold atIt; split <;> rw [val_len, sz_len] <;> omega)
        dsimp only
        omega
      · rintro e w' ⟨q1, q2, q3⟩
        refine ⟨q1, ?_, q3⟩
        rw [allIt_succ]
        rcases (by omega : k = 0 ∨ k = 1) with rfl | rfl
        · simpa [WS.put, atIt] using q2
        · simpa [WS.put, atIt] using q2)
  rw [atIt_two] at hW
  go_enter Tryz.func157, Tryz.ntmps157
  go_wp2_with fail
  refine hW.mono ?_
  rintro e w' ⟨rfl, q1, q2, q3⟩
  go_wp2
  refine bodyPost_end (results_none rfl _ _ _) rfl ?_
  exact ⟨⟨_, rfl⟩, q1, (hbx.mono hw.le).trans q2⟩
/-- An attribute's bytes. -/
def atE (x : List (ByteArray × ByteArray)) (i : Nat) : List UInt8 := val 3 (val 1 (x[i]?.getD (⟨#[]⟩, ⟨#[]⟩)).1.data.toList ++ val 2 (x[i]?.getD (⟨#[]⟩, ⟨#[]⟩)).2.data.toList)
theorem atE_all (x : List (ByteArray × ByteArray)) : ∀ n, n ≤ x.length → allIt (atE x) n = attB (x.take n)
  | 0, _ => by simp [allIt, attB]
  | n + 1, h => by
    have e : ∀ (a : List (ByteArray × ByteArray)) u, attB (a ++ [u]) = attB a ++ val 3 (val 1 u.1.data.toList ++ val 2 u.2.data.toList) := fun a u => by simp [attB]
    rw [allIt_succ, atE_all x n (by omega), List.take_succ_eq_append_getElem (by omega), e]
    simp only [atE, List.getElem?_eq_getElem (show n < x.length by omega), Option.getD_some]

set_option maxRecDepth 100000 in
set_option maxHeartbeats 2000000 in
theorem attPut_any (B g : Nat) (st : WS) (t : UInt8) (ao : Option Addr) (n cap : Nat) (x : List (ByteArray × ByteArray)) (W : World) (hw : WrS B g st W) (hb : st.bad = 0) (hl : st.l.length ≤ 100000000) (hx : Rd W 2 ao n cap (atV x)) (hn : n ≤ 50)
    (hs : ∀ u ∈ x, u.1.size ≤ 1000 ∧ u.2.size ≤ 1000) :
    Calls Tryz.prog 141 #[.pointer (some ⟨g, 0, none⟩), .int .u8 (t.toNat : Int), .slice ao n cap] W fun e w' => (∃ r, e = .returned r) ∧ WrS B g (st.put t (attB x)) w' ∧ Below B W w' ∧ Stays g W w' := by
  have lx : x.length = n := by have := hx.1; rw [atV_len] at this; omega
  have hbx : Below W.heap.size W (W.alloc (.cells #[.slice ao n cap] 23)) := (Below.refl _ W).alloc (Nat.le_refl _) _
  have hib : (W.alloc (.cells #[.slice ao n cap] 23)).cell? ⟨W.heap.size, 0, none⟩ = some (.slice ao n cap) := by
    rw [World.cell?_alloc_mark]
    rfl
  have hsz : ∀ i, i < n → ∃ u, x[i]? = some u ∧ u.1.size ≤ 1000 ∧ u.2.size ≤ 1000 := fun i hi => by
    have hi' : i < x.length := by omega
    exact ⟨x[i], List.getElem?_eq_getElem hi', hs _ (List.getElem_mem hi')⟩
  have hle : ∀ i, i < n → (atE x i).length ≤ 3000 ∧ 0 < (atE x i).length ∧ manyOf (atE x i) = 1 := fun i hi => by
    obtain ⟨u, hu, h1, h2⟩ := hsz i hi
    have e : atE x i = val 3 (val 1 u.1.data.toList ++ val 2 u.2.data.toList) := by simp [atE, hu]
    rw [e]
    have hl2 : (val 1 u.1.data.toList ++ val 2 u.2.data.toList).length ≤ 2010 := by rw [List.length_append, val_len, val_len, sz_len, sz_len]; omega
    exact ⟨by rw [val_len]; omega, by rw [val_len]; omega, manyOf_val 3 _ (by decide) (by omega)⟩
  have hW := wlist_ok B g st t n 157 #[.pointer (some ⟨W.heap.size, 0, none⟩)] (atE x) _ (hw.later hbx) hb (by omega) (enters_of Tryz.func157 (by kernel_rfl) rfl)
    (fun i hi => ⟨(hle i hi).2.2, (hle i hi).2.1⟩) (by have := allIt_le (atE x) 3000 n (fun i hi => (hle i hi).1); omega) hl
    (fun i W' hi hb' hwr => by
      obtain ⟨u, hu, h1, h2⟩ := hsz i hi
      have hx' := (hx.later hbx).later hb'
      obtain ⟨b1, o1, rfl, hl1, hc1⟩ := hx'.some (by have := hx.le; omega)
      obtain ⟨v1, v2⟩ := atV_at x i u hu
      have e : atE x i = val 3 (val 1 u.1.data.toList ++ val 2 u.2.data.toList) := by simp [atE, hu]
      refine (put1_any _ _ W.heap.size b1 o1 n cap i _ u W' hwr rfl ?_ ((hb'.cell (World.block_lt_of_cell? _ _ hib)).trans hib) hi (hc1 _ _ v1) (hc1 _ _ v2) h1 h2).mono ?_
      · have := allIt_le (atE x) 3000 i (fun j hj => (hle j (by omega)).1)
        dsimp only
        omega
      · rintro e' w' ⟨q1, q2, q3⟩
        refine ⟨q1, ?_, q3⟩
        rw [allIt_succ, e]
        simpa [WS.put] using q2)
  rw [atE_all x n (by omega), List.take_of_length_le (by omega)] at hW
  go_enter Tryz.func141, Tryz.ntmps141
  go_wp2_with fail
  refine hW.mono ?_
  rintro e w' hT
  have h2 := hT.after hw.le hbx
  obtain ⟨rfl, q1, q2, q3⟩ := h2
  go_wp2
  refine bodyPost_end (results_none rfl _ _ _) rfl ?_
  exact ⟨⟨_, rfl⟩, q1, q2, q3⟩
/-- A part's bytes. -/
def paE (x : List ByteArray) (i : Nat) : List UInt8 := val 1 (x[i]?.getD ⟨#[]⟩).data.toList
theorem paE_all (x : List ByteArray) : ∀ n, n ≤ x.length → allIt (paE x) n = parB (x.take n)
  | 0, _ => by simp [allIt, parB]
  | n + 1, h => by
    have e : ∀ (a : List ByteArray) u, parB (a ++ [u]) = parB a ++ val 1 u.data.toList := fun a u => by simp [parB]
    rw [allIt_succ, paE_all x n (by omega), List.take_succ_eq_append_getElem (by omega), e]
    simp only [paE, List.getElem?_eq_getElem (show n < x.length by omega), Option.getD_some]
end Go.Proofs.YtgeafnggodkpaaaGreat.Msg
namespace Go.Proofs.YtgeafnggodkpaaaGreat.Msg
open Go.RowKit Go.Lib Go.Proofs.YtgeafnggodkpaaaGreat.Mem Go.Proofs.YtgeafnggodkpaaaGreat.Tlv

/-- A request's cells. -/
structure RV where
  cl : Int
  nu : Int
  op : OV
def RV.cells (r : RV) : Array Value := #[.int .u64 r.cl, .int .u64 r.nu, .int .i64 r.op.k, .string r.op.name, .string r.op.to, .slice r.op.ao r.op.an r.op.ac, .slice r.op.bo r.op.bn r.op.bc, .slice r.op.co r.op.cn r.op.cc, .int .i64 r.op.n]
def RV.val (r : RV) : Value := .agg r.cells
def RV.box (r : RV) : Obj := .cells r.cells 43
def GivesQ (w : World) (l : List UInt8) (e : Ending) (w' : World) : Prop := ∃ ao cap, e = .returned (.tuple #[.slice ao l.length cap, .int .i64 0]) ∧ Rd w' 1 ao l.length cap (byV l) ∧ Below w.heap.size w w' ∧ ∀ a, ao = some a → w.heap.size ≤ a.block
theorem own_fresh {W : World} {B n size : Nat} {e : TypeId} {ao : Option Addr} {cap : Nat} {xs : List Value} (h : W.ownsRow B e size (.slice ao n cap) n xs) : ∀ a, ao = some a → B ≤ a.block := by
  intro a ha
  rcases h.2 with ⟨h1, -⟩ | ⟨g, c2, cur, h1, h2, -⟩
  · cases h1; cases ha
  · cases h1; cases ha; exact h2
/-- The worlds behind a request's box. -/
def InBoxR (w : World) (r : RV) (W : World) : Prop := W.heap[w.heap.size]? = some r.box ∧ Below w.heap.size w W
theorem InBoxR.step {w W W' : World} {r : RV} (h : InBoxR w r W) (hb : Below W.heap.size W W') : InBoxR w r W' :=
  ⟨(hb.block _ (Array.getElem?_eq_some_iff.1 h.1).1).trans h.1, h.2.trans (hb.mono h.2.size)⟩
theorem InBoxR.turn {w W W' : World} {r : RV} {B : Nat} (h : InBoxR w r W) (hb : Below B W W') (hB : w.heap.size < B) : InBoxR w r W' :=
  ⟨(hb.block _ hB).trans h.1, h.2.trans (hb.mono (by omega))⟩
theorem InBoxR.drew {w W : World} {r : RV} (h : InBoxR w r W) : InBoxR w r W.drew := ⟨h.1, h.2.drew⟩

end Go.Proofs.YtgeafnggodkpaaaGreat.Msg
namespace Go.Proofs.YtgeafnggodkpaaaGreat.Msg
open Go.RowKit Go.Lib Go.Proofs.YtgeafnggodkpaaaGreat.Mem Go.Proofs.YtgeafnggodkpaaaGreat.Tlv

/-- What is small enough to be put, of the slices. -/
structure FitsA (v : OV) (c : OC) : Prop where
  an : v.an ≤ 50
  attrs : ∀ u ∈ c.attrs, u.1.size ≤ 1000 ∧ u.2.size ≤ 1000
  bn : v.bn ≤ 8
  parts : ∀ u ∈ c.parts, u.size ≤ 1000

/-- May an operation be? -/
def mayOp (v : OV) (c : OC) : Bool := mayOpA v c (mayAttrs c.attrs)
theorem mayName_le {x : ByteArray} (h : mayName x = true) : x.size ≤ 1000 := by
  unfold mayName at h
  simp only [Bool.and_eq_true, decide_eq_true_eq] at h
  exact h.1
theorem mayAttr_le {u : ByteArray × ByteArray} (h : mayAttr u = true) : u.1.size ≤ 1000 ∧ u.2.size ≤ 1000 := by
  unfold mayAttr mayType at h
  simp only [Bool.and_eq_true, decide_eq_true_eq] at h
  exact ⟨by have := h.1.1.1.2; omega, mayName_le h.2⟩
theorem may_parts {v : OV} {c : OC} (W : World) (ho : OpAt W v c) (h : mayOp v c = true) : Fits v c ∧ FitsA v c ∧ ∀ x, (letV v c x).length ≤ 200000 := by
  have la : c.attrs.length = v.an := by have := ho.a.1; rw [atV_len] at this; omega
  have lb : c.parts.length = v.bn := by have := ho.b.1; rw [txV_len] at this; omega
  have lc : c.cursor.length = v.cn := by have := ho.c.1; rw [byV_len] at this; omega
  unfold mayOp mayOpA at h
  simp only [Bool.and_eq_true, decide_eq_true_eq, Bool.not_eq_true'] at h
  obtain ⟨⟨⟨⟨⟨⟨h1, h2⟩, h3⟩, h4⟩, h5⟩, h6⟩, h7⟩ := h
  have hname := mayName_le h3
  have hto := mayName_le h4
  have hattr : ∀ u ∈ c.attrs, u.1.size ≤ 1000 ∧ u.2.size ≤ 1000 := fun u hu => by
    refine mayAttr_le ?_
    have := List.any_eq_false.1 h6 u hu
    simpa using this
  have hk : v.k = 1 ∨ v.k = 2 ∨ v.k = 3 ∨ v.k = 4 ∨ v.k = 5 ∨ v.k = 6 ∨ v.k = 7 ∨ v.k = 8 := by
    rcases Classical.em (v.k = 1 ∨ v.k = 2 ∨ v.k = 3 ∨ v.k = 4 ∨ v.k = 5 ∨ v.k = 6 ∨ v.k = 7 ∨ v.k = 8) with h | h
    · exact h
    · refine absurd ?_ h1
      simp only [not_or] at h
      obtain ⟨a1, a2, a3, a4, a5, a6, a7, a8⟩ := h
      simp only [fieldsOf, a1, a2, a3, a4, a5, a6, a7, a8, if_false]
  unfold sameOp at h2
  simp only [decide_eq_true_eq] at h2
  obtain ⟨-, -, -, e4, e5, e6, e7⟩ := h2
  have hrest : v.bn ≤ 8 ∧ (∀ u ∈ c.parts, u.size ≤ 1000) ∧ c.cursor.length ≤ 4000 ∧ 0 ≤ v.n ∧ v.n ≤ 1000 := by
    by_cases h78 : v.k = 7 ∨ v.k = 8
    · have k1 : ¬ v.k = 1 := by omega
      have k5 : ¬ v.k = 5 := by omega
      unfold restOp at h7
      rw [if_neg k1, if_neg k5] at h7
      simp only [Bool.and_eq_true, decide_eq_true_eq, Bool.not_eq_true'] at h7
      obtain ⟨⟨⟨⟨r1, r2⟩, r3⟩, r4⟩, r5⟩ := h7
      refine ⟨r1, fun u hu => mayName_le ?_, by omega, r4, r5⟩
      have := List.any_eq_false.1 r2 u hu
      simpa using this
    · have hl : (112 : UInt8) ∉ fieldsOf v.k ∧ (99 : UInt8) ∉ fieldsOf v.k ∧ (107 : UInt8) ∉ fieldsOf v.k := by
        rcases hk with h | h | h | h | h | h | h | h <;> rw [h] <;> first | omega | decide
      have f1 : c.parts = [] := by rw [e5]; unfold keepC; rw [if_neg hl.1]
      have f2 : c.cursor = [] := by rw [e6]; unfold keepC; rw [if_neg hl.2.1]
      have f3 : v.n = 0 := by rw [e7]; unfold keepL; rw [if_neg hl.2.2]
      rw [f1] at lb
      rw [f1, f2, f3]
      exact ⟨by simp at lb; omega, fun u hu => by simp at hu, by simp, by omega, by omega⟩
  obtain ⟨r1, r2, r3, r4, r5⟩ := hrest
  have hL : ∀ x, (letV v c x).length ≤ 200000 := ?_
  · exact ⟨⟨by omega, by omega, hname, hto, r3, r4, r5, fun x => Nat.le_trans (hL x) (by decide)⟩, ⟨h5, hattr, r1, r2⟩, hL⟩
  intro x
  have ha : (attB c.attrs).length ≤ 50 * 2015 := by
    have := atE_all c.attrs c.attrs.length (Nat.le_refl _)
    rw [List.take_length] at this
    rw [← this]
    have h9 := allIt_le (atE c.attrs) 2015 c.attrs.length (fun i hi => by
      have := hattr c.attrs[i] (List.getElem_mem hi)
      simp only [atE, List.getElem?_eq_getElem hi, Option.getD_some, val_len, List.length_append, sz_len]
      omega)
    exact Nat.le_trans h9 (Nat.mul_le_mul_right 2015 (show c.attrs.length ≤ 50 by omega))
  have hp : (parB c.parts).length ≤ 8 * 1005 := by
    have := paE_all c.parts c.parts.length (Nat.le_refl _)
    rw [List.take_length] at this
    rw [← this]
    have h9 := allIt_le (paE c.parts) 1005 c.parts.length (fun i hi => by
      have := r2 c.parts[i] (List.getElem_mem hi)
      simp only [paE, List.getElem?_eq_getElem hi, Option.getD_some, val_len, sz_len]
      omega)
    exact Nat.le_trans h9 (Nat.mul_le_mul_right 1005 (show c.parts.length ≤ 8 by omega))
  unfold letV
  repeat' split
  all_goals simp only [val_len, sz_len, num8_len]
  all_goals omega
end Go.Proofs.YtgeafnggodkpaaaGreat.Msg
namespace Go.Proofs.YtgeafnggodkpaaaGreat.Msg
open Go.RowKit Go.Lib Go.Proofs.YtgeafnggodkpaaaGreat.Mem Go.Proofs.YtgeafnggodkpaaaGreat.Utf

theorem fields_kinds (k : Int) : fieldsOf k = [] ∨ (k = 1 ∧ fieldsOf k = [110, 97]) ∨ (k = 2 ∧ fieldsOf k = [110]) ∨ (k = 3 ∧ fieldsOf k = [110, 97]) ∨ (k = 4 ∧ fieldsOf k = [110, 116]) ∨ (k = 5 ∧ fieldsOf k = [110, 97]) ∨ (k = 6 ∧ fieldsOf k = [110]) ∨ (k = 7 ∧ fieldsOf k = [112, 99, 107]) ∨ (k = 8 ∧ fieldsOf k = [99, 107]) := by
  by_cases h : 1 ≤ k ∧ k ≤ 8
  · rcases (by omega : k = 1 ∨ k = 2 ∨ k = 3 ∨ k = 4 ∨ k = 5 ∨ k = 6 ∨ k = 7 ∨ k = 8) with rfl | rfl | rfl | rfl | rfl | rfl | rfl | rfl <;> simp [fieldsOf]
  · left
    unfold fieldsOf
    repeat rw [if_neg (by omega)]
/-- MayOp goes on: what is asked, and what its kind names. -/
structure MayAt (w : World) (v : OV) (bb : Nat) (W : World) : Prop where
  o : W.heap[w.heap.size]? = some v.box
  b : W.heap[bb]? = some (keepL (fieldsOf v.k) v).box
  bel : Below w.heap.size w W
theorem MayAt.step {w W W' : World} {v : OV} {bb : Nat} (h : MayAt w v bb W) (hb : Below W.heap.size W W') : MayAt w v bb W' :=
  ⟨(hb.block _ (Array.getElem?_eq_some_iff.1 h.o).1).trans h.o, (hb.block _ (Array.getElem?_eq_some_iff.1 h.b).1).trans h.b, h.bel.trans (hb.mono h.bel.size)⟩

end Go.Proofs.YtgeafnggodkpaaaGreat.Msg
