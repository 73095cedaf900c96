/-
  A part of the proof: what this text holds is told at each of its declarations.
-/
import Derived.Deep.Slices
import Derived.Deep.Fields
import Derived.Deep.Strs
import Derived.ChangeSame
import Derived.ChangeArms
import Derived.Test.YtgeafnggodkpaaaGreatZabv
import Derived.Test.YtgeafnggodkpaaaGreatZaaq
import Derived.Test.YtgeafnggodkpaaaGreatZabq
namespace Go.Proofs.YtgeafnggodkpaaaGreat.Msg
open Go.RowKit Go.Lib Go.Proofs.YtgeafnggodkpaaaGreat.Mem Go.Proofs.YtgeafnggodkpaaaGreat.Tlv
open Go.ChangeShapes Go.WideShapes Go.Deep

/-- An operation's slices can be read. -/
structure OpRd (W : World) (v : OV) (c : OC) : Prop where
  a : Rd W 2 v.ao v.an v.ac (atV c.attrs)
  b : Rd W 1 v.bo v.bn v.bc (txV c.parts)
  c : Rd W 1 v.co v.cn v.cc (byV c.cursor)
theorem OpRd.later {W W' : World} {v : OV} {c : OC} (h : OpRd W v c) (hb : Below W.heap.size W W') : OpRd W' v c := ⟨h.a.later hb, h.b.later hb, h.c.later hb⟩
section
variable {H : Type} {enc : TypeId × Value → H} {P : Program} {W : World}
theorem rd_ints {t e : TypeId} {k : IntKind} {fuel : Nat} {v : Value} {x : DataW H × List MemPlace} (ht : P.underlying t = some (.slice e)) (he : P.underlying e = some (.int k)) (hc : P.cellsOf e = 1)
    (h : DataW.trod enc P W 0 (fun _ => true) true fuel t [v] = some x) : ∃ ao n cap, ∃ zs : List Int, v = .slice ao n cap ∧ Rd W 1 ao n cap (zs.map (Value.int k)) ∧ ∀ z ∈ zs, (Lit.int k z).wf = true := by
  have hsl : ∃ ao n cap, v = .slice ao n cap := by
    rcases ChangeShapes.open_ints ht he hc h with ⟨hcs, _⟩ | ⟨a, l, c, zs, hcs, _⟩
    · exact ⟨_, _, _, List.head_eq_of_cons_eq hcs⟩
    · exact ⟨_, _, _, List.head_eq_of_cons_eq hcs⟩
  obtain ⟨ao, n, cap, rfl⟩ := hsl
  obtain ⟨zs, h1, h2⟩ := open_rd (d := x.1) (ps := x.2) ht he hc ⟨fuel, h⟩
  exact ⟨ao, n, cap, zs, rfl, h1, h2⟩

/-- Cells, of given types, one each. -/
def Leaves (enc : TypeId × Value → H) (P : Program) (W : World) (ts : List TypeId) (cs : List Value) : Prop :=
  cs.length = ts.length ∧ ∀ (j : Nat) (τ : TypeId), ts[j]? = some τ → ∃ (v : Value) (n : Nat) (y : DataW H × List MemPlace), cs[j]? = some v ∧ DataW.trod enc P W 0 (fun _ => true) true n τ [v] = some y
theorem take_one {cs : List Value} {o : Nat} (h : o < cs.length) : (cs.drop o).take 1 = [cs[o]'h] := by
  rw [List.drop_eq_getElem_cons h]
  rfl
theorem leaves_one {t : TypeId} {fs : Array Field} {ts : List TypeId} (hts : (fs.map (·.type)).toList = ts) {fuel : Nat} {cs : List Value} {x : DataW H × List MemPlace} (ht : P.underlying t = some (.struct fs)) (hone : oneCellFields P fs = true) (hC : P.cellsOf t = fs.size) (h : DataW.trod enc P W 0 (fun _ => true) true fuel t cs = some x) :
    Leaves enc P W ts cs := by
  subst hts
  obtain ⟨ys, n', hn', hy, hlen, hyl, hf⟩ := DataW.trod_struct ht h
  refine ⟨by rw [hlen, hC]; simp, fun j τ hτ => ?_⟩
  have hj : j < fs.size := by have := (List.getElem?_eq_some_iff.1 hτ).1; simpa using this
  have hfj : fs[j]? = some fs[j] := Array.getElem?_eq_getElem hj
  obtain ⟨ho, hk⟩ := hone_of hone j _ hfj
  have h1 := hf j _ hfj
  rw [ho, hk, take_one (by rw [hlen, hC]; exact hj)] at h1
  have ht' : fs[j].type = τ := by
    rw [Array.getElem?_toList, Array.getElem?_map, hfj] at hτ
    exact Option.some.inj hτ
  rw [ht'] at h1
  have hys : ys[j]? = some (ys[j]'(by omega)) := List.getElem?_eq_getElem (by omega)
  exact ⟨_, n', _, List.getElem?_eq_getElem (by rw [hlen, hC]; exact hj), h1.trans hys⟩
theorem flat_len {α : Type} (en : α → List Value) (K : Nat) (hK : ∀ y, (en y).length = K) (l : List α) : (l.flatMap en).length = l.length * K := by
  induction l with
  | nil => simp
  | cons a l ih => simp [List.flatMap_cons, hK, ih, Nat.add_mul, Nat.add_comm]
theorem flat_at {α : Type} (en : α → List Value) (K : Nat) (hK : ∀ y, (en y).length = K) (l : List α) (k : Nat) (y : α) (h : l[k]? = some y) (j : Nat) (hj : j < K) : (l.flatMap en)[k * K + j]? = (en y)[j]? := by
  induction l generalizing k with
  | nil => simp at h
  | cons z xs ih =>
    cases k with
    | zero =>
      rw [List.getElem?_cons_zero, Option.some.injEq] at h
      subst h
      rw [List.flatMap_cons, Nat.zero_mul, Nat.zero_add, List.getElem?_append_left (by rw [hK]; exact hj)]
    | succ k =>
      rw [List.getElem?_cons_succ] at h
      rw [List.flatMap_cons, List.getElem?_append_right (by rw [hK, Nat.add_mul]; omega), hK, ← ih k h]
      congr 1
      rw [Nat.add_mul]
      omega
/-- A slice of structs, row by row. -/
theorem open_rows {α : Type} (en : α → List Value) (good : α → Prop) (K : Nat) (hK : ∀ y, (en y).length = K) (h0K : 0 < K) {t e : TypeId} {ts : List TypeId} (ht : P.underlying t = some (.slice e)) (hC : P.cellsOf e = K)
    (hL : ∀ (fuel : Nat) (cs : List Value) (x : DataW H × List MemPlace), DataW.trod enc P W 0 (fun _ => true) true fuel e cs = some x → Leaves enc P W ts cs)
    (hd : ∀ cs, Leaves enc P W ts cs → ∃ y, good y ∧ en y = cs)
    {fuel : Nat} {v : Value} {x : DataW H × List MemPlace} (h : DataW.trod enc P W 0 (fun _ => true) true fuel t [v] = some x) : ∃ (ao : Option Addr) (n cap : Nat) (ys : List α), v = .slice ao n cap ∧ ys.length = n ∧ (∀ y ∈ ys, good y) ∧ Rd W K ao n cap (ys.flatMap en) := by
  rcases open_slice ht h with h0 | ⟨a, len, cap, m, n, D, Pl, hcs, hb, hl, hm, hmm, hx, hi⟩
  · obtain rfl := List.head_eq_of_cons_eq h0.1
    exact ⟨none, 0, 0, [], rfl, rfl, (fun _ h => by cases h), Rd.nil _ _⟩
  · obtain rfl := List.head_eq_of_cons_eq hcs
    simp only [if_true] at hmm
    subst hmm
    have row : ∀ i, i < m → ∃ y, good y ∧ ∀ j u, (en y)[j]? = some u → W.cell? (a.add (i * K + j)) = some u := by
      intro i him
      obtain ⟨cs', hc, ht'⟩ := hi i him
      rw [hC] at hc
      obtain ⟨y, hy, rfl⟩ := hd cs' (hL _ _ _ ht')
      obtain ⟨_, hcl, hat⟩ := World.cells?_some hc
      refine ⟨y, hy, fun j u hu => ?_⟩
      have hj : j < K := by have := (List.getElem?_eq_some_iff.1 hu).1; rw [hK] at this; exact this
      rw [← Go.Deep.add_add, hat j hj, hu]
    have each : ∀ k, k ≤ m → ∃ ys : List α, ys.length = k ∧ (∀ y ∈ ys, good y) ∧ ∀ i j u y, ys[i]? = some y → (en y)[j]? = some u → W.cell? (a.add (i * K + j)) = some u := by
      intro k
      induction k with
      | zero => exact fun _ => ⟨[], rfl, (fun _ h => by cases h), fun i j u y h => by simp at h⟩
      | succ k ih =>
        intro hk
        obtain ⟨ys, h1, h2, h3⟩ := ih (by omega)
        obtain ⟨y, hy, hc⟩ := row k (by omega)
        refine ⟨ys ++ [y], by simp [h1], ?_, ?_⟩
        · intro q hq
          rcases List.mem_append.1 hq with hq | hq
          · exact h2 q hq
          · rw [List.mem_singleton] at hq; subst hq; exact hy
        · intro i j u q hq hu
          by_cases him : i < k
          · rw [List.getElem?_append_left (by omega)] at hq
            exact h3 i j u q hq hu
          · have him2 : i < k + 1 := by have := (List.getElem?_eq_some_iff.1 hq).1; simpa [h1] using this
            obtain rfl : i = k := by omega
            rw [List.getElem?_append_right (by omega), h1, Nat.sub_self, List.getElem?_cons_zero, Option.some.injEq] at hq
            subst hq
            exact hc j u hu
    obtain ⟨ys, h1, h2, h3⟩ := each len (by omega)
    refine ⟨some a, len, m, ys, rfl, h1, h2, ⟨by rw [flat_len en K hK, h1], by omega, hm, (fun h => by cases h), fun h0 a' ha => ?_⟩⟩
    cases ha
    obtain ⟨y0, _, hc0⟩ := row 0 h0
    have hu0 : (en y0)[0]? = some ((en y0)[0]'(by rw [hK]; exact h0K)) := List.getElem?_eq_getElem (by rw [hK]; exact h0K)
    have hcc := hc0 0 _ hu0
    have hs : a.spot = none := by simpa [Addr.add] using World.cell?_spot hcc
    obtain ⟨b, off, sp⟩ := a
    dsimp only at hs; subst hs
    rw [Addr.add_lit] at hcc
    refine ⟨rfl, (show b < W.heap.size from World.block_lt_of_cell? W ⟨b, off + (0 * K + 0), none⟩ hcc), fun q u hu => ?_⟩
    have hq : q < ys.length * K := by have := (List.getElem?_eq_some_iff.1 hu).1; rwa [flat_len en K hK] at this
    have hdiv : q / K < ys.length := (Nat.div_lt_iff_lt_mul h0K).2 hq
    have hp : ys[q / K]? = some ys[q / K] := List.getElem?_eq_getElem hdiv
    have hj : q % K < K := Nat.mod_lt _ h0K
    have hqq : q / K * K + q % K = q := by rw [Nat.mul_comm]; exact Nat.div_add_mod q K
    have h4 := flat_at en K hK ys (q / K) _ hp (q % K) hj
    rw [hqq, hu] at h4
    have h5 := h3 (q / K) (q % K) u _ hp h4.symm
    rw [hqq, Addr.add_lit] at h5
    exact h5
end

section
variable {H : Type} {enc : TypeId × Value → H} {W : World}
theorem wf_u8 {z : Int} (h : (Lit.int .u8 z).wf = true) : 0 ≤ z ∧ z < 256 := by
  simp only [Lit.wf, Bool.and_eq_true, decide_eq_true_eq] at h
  exact ⟨h.1, Int.lt_of_le_sub_one h.2⟩
theorem bytes_of (zs : List Int) (h : ∀ z ∈ zs, 0 ≤ z ∧ z < 256) : ∃ b : List UInt8, zs.map (Value.int .u8) = byV b := by
  induction zs with
  | nil => exact ⟨[], rfl⟩
  | cons z zs ih =>
    obtain ⟨b, hb⟩ := ih (fun y hy => h y (List.mem_cons_of_mem _ hy))
    obtain ⟨h1, h2⟩ := h z List.mem_cons_self
    refine ⟨UInt8.ofNat z.toNat :: b, ?_⟩
    show Value.int .u8 z :: zs.map (Value.int .u8) = .int .u8 ((UInt8.ofNat z.toNat).toNat : Int) :: byV b
    rw [hb, UInt8.toNat_ofNat', Nat.mod_eq_of_lt (by omega), Int.toNat_of_nonneg h1]

theorem attr_leaves (fuel : Nat) (cs : List Value) (x : DataW H × List MemPlace) (h : DataW.trod enc Tryz.prog W 0 (fun _ => true) true fuel 53 cs = some x) : Leaves enc Tryz.prog W [9, 9] cs :=
  leaves_one (by kernel_rfl) Tryz.underlying53 (by kernel_rfl) (by kernel_rfl) h
def attE (u : ByteArray × ByteArray) : List Value := [.string u.1, .string u.2]
theorem attr_dec (cs : List Value) (h : Leaves enc Tryz.prog W [9, 9] cs) : ∃ u : ByteArray × ByteArray, True ∧ attE u = cs := by
  obtain ⟨v0, n0, y0, c0, d0⟩ := h.2 0 _ rfl
  obtain ⟨v1, n1, y1, c1, d1⟩ := h.2 1 _ rfl
  obtain ⟨s0, e0, -, -⟩ := DataW.trod_string Tryz.underlying9 d0
  obtain ⟨s1, e1, -, -⟩ := DataW.trod_string Tryz.underlying9 d1
  obtain rfl := List.head_eq_of_cons_eq e0
  obtain rfl := List.head_eq_of_cons_eq e1
  refine ⟨(s0, s1), trivial, ?_⟩
  have hl : cs.length = 2 := h.1
  refine List.ext_getElem? (fun j => ?_)
  match j with
  | 0 => exact c0.symm
  | 1 => exact c1.symm
  | j + 2 => rw [List.getElem?_eq_none (by simp [attE]), List.getElem?_eq_none (by omega)]

theorem bytes_open {ao : Option Addr} {n cap : Nat} {d : DataW H} {ps : List MemPlace} (h : DataW.Trod enc Tryz.prog W 0 (fun _ => true) true 25 (.slice ao n cap) d ps) : ∃ b : List UInt8, Rd W 1 ao n cap (byV b) := by
  obtain ⟨fuel, hf⟩ := h
  obtain ⟨ao', n', cap', zs, e, hr, hz⟩ := rd_ints (e := 5) (k := .u8) Tryz.underlying25 Tryz.underlying5 (by kernel_rfl) hf
  cases e
  obtain ⟨b, hb⟩ := bytes_of zs (fun z h => wf_u8 (hz z h))
  exact ⟨b, by rw [← hb]; exact hr⟩
end

set_option maxRecDepth 100000 in
set_option maxHeartbeats 2000000 in
theorem much_any (ao : Option Addr) (n cap : Nat) (x : List (ByteArray × ByteArray)) (w : World) (hr : Rd w 2 ao n cap (atV x)) :
    Calls Tryz.prog 42 #[.slice ao n cap] w fun e w' => (∃ b : Bool, e = .returned (.bool b) ∧ (b = false → n ≤ 120)) ∧ Below w.heap.size w w' := by
  have hl : x.length = n := by have := hr.1; rw [atV_len] at this; omega
  have hn63 : n < 9223372036854775808 := by have h1 := hr.2.1; have h2 := hr.2.2.1; unfold maxLen at h2; omega
  go_enter Tryz.func42, Tryz.ntmps42
  go_wp2_with fail
  go_loopw [3, 4] (fun v p wr => ∃ (k : Nat) (z : Int), k ≤ n ∧ k ≤ 121 ∧ p = .int .i64 (k : Int) ∧ v = .int .i64 z ∧ 0 ≤ z ∧ z ≤ 40002 * k ∧ Below w.heap.size w wr) (fun _ p _ => 121 - (intOf p).toNat)
  case atStart => exact ⟨0, 0, Nat.zero_le _, Nat.zero_le _, rfl, rfl, by omega, by omega, Below.refl _ _⟩
  case round =>
    obtain ⟨k, z, hk, hk2, rfl, rfl, hz0, hz1, hbr⟩ := hrel
    by_cases hkn : k < n
    · have f0 : decide ((k : Int) < (n : Int)) = true := decide_eq_true (by omega)
      by_cases hk120 : k ≤ 120
      · have f1 : decide ((k : Int) ≤ 120) = true := decide_eq_true (by omega)
        obtain ⟨b1, o1, rfl, hl1, hc1⟩ := hr.some (by have := hr.le; omega)
        obtain ⟨u, hue⟩ : ∃ u, x[k]? = some u := ⟨_, List.getElem?_eq_getElem (by omega)⟩
        obtain ⟨v1, v2⟩ := atV_at x k u hue
        have c1 := (hbr.cell (p := ⟨b1, o1 + k * 2, none⟩) hl1).trans (hc1 (k * 2) _ v1)
        have c2 : wr.cell? ⟨b1, o1 + k * 2 + 1, none⟩ = _ := (hbr.cell (p := ⟨b1, o1 + (k * 2 + 1), none⟩) hl1).trans (hc1 (k * 2 + 1) _ v2)
        have i0 : (0 : Int) ≤ (k : Int) := by omega
        have i1 : (k : Int) < (n : Int) := by omega
        obtain ⟨m1, hm1⟩ : ∃ m : Int, (if (20001 : Int) < (u.1.size : Int) then 20001 else (u.1.size : Int)) = m := ⟨_, rfl⟩
        obtain ⟨m2, hm2⟩ : ∃ m : Int, (if (20001 : Int) < (u.2.size : Int) then 20001 else (u.2.size : Int)) = m := ⟨_, rfl⟩
        have hb1 : 0 ≤ m1 ∧ m1 ≤ 20001 := by rw [← hm1]; split <;> omega
        have hb2 : 0 ≤ m2 ∧ m2 ≤ 20001 := by rw [← hm2]; split <;> omega
        have hw1 : IntKind.i64.wrap (z + m1) = z + m1 := wraps_i64' _ (by omega) (by omega)
        have hw2 : IntKind.i64.wrap (z + m1 + m2) = z + m1 + m2 := wraps_i64' _ (by omega) (by omega)
        clear hc1 v1 v2 hue
        go_upto_region 5 with fail
        go_quiet (fail)
        have hbn := hbr.trans ((below_drewN (Below.refl wr.heap.size wr) nq).mono hbr.size)
        go_wp2_with fail
        go_roundw
        case rel => exact ⟨k + 1, _, by omega, by omega, by go_num, rfl, by omega, by omega, hbn⟩
        case measure => simp [intOf]; omega
      · have f1 : decide ((k : Int) ≤ 120) = false := decide_eq_false (by omega)
        have f2 : decide ((120 : Int) < (n : Int)) = true := decide_eq_true (by omega)
        go_wp2_with fail
        go_ret
        exact ⟨⟨true, rfl, fun h => by cases h⟩, hbr⟩
    · have f0 : decide ((k : Int) < (n : Int)) = false := decide_eq_false (by omega)
      by_cases h120 : 120 < n
      · have f2 : decide ((120 : Int) < (n : Int)) = true := decide_eq_true (by omega)
        go_wp2_with fail
        go_ret
        exact ⟨⟨true, rfl, fun h => by cases h⟩, hbr⟩
      · have f2 : decide ((120 : Int) < (n : Int)) = false := decide_eq_false (by omega)
        go_wp2_with fail
        go_ret
        exact ⟨⟨_, rfl, fun _ => by omega⟩, hbr⟩

end Go.Proofs.YtgeafnggodkpaaaGreat.Msg
namespace Go.Proofs.YtgeafnggodkpaaaGreat.Msg
open Go.RowKit Go.Lib Go.Proofs.YtgeafnggodkpaaaGreat.Mem Go.Proofs.YtgeafnggodkpaaaGreat.Tlv
open Go.ChangeShapes Go.WideShapes Go.Deep

/-- A result's slices can be read. -/
structure QRd (W : World) (v : QV) (c : QC) : Prop where
  e : Rd W 2 v.eo v.en v.ec (enV c.ents)
  a : ∀ p ∈ c.ents, Rd W 2 p.1.ao p.1.an p.1.ac (atV p.2)
  c : Rd W 1 v.co v.cn v.cc (byV c.cursor)
theorem QRd.later {W W' : World} {v : QV} {c : QC} (h : QRd W v c) (hb : Below W.heap.size W W') : QRd W' v c := ⟨h.e.later hb, fun p hp => (h.a p hp).later hb, h.c.later hb⟩
theorem entsB_le : ∀ (l : List EP), (∀ p ∈ l, mayEntry p.1 p.2 = true) → (entsB l).length ≤ l.length * 101765
  | [], _ => Nat.zero_le _
  | p :: l, h => by
    have h1 := entL_len (h p (by simp))
    have h2 := entsB_le l (fun q hq => h q (by simp [hq]))
    rw [entsB_cons, List.length_append, val_len, List.length_cons]
    omega
theorem shortQ_of {c : QC} (h : c.ents.length ≤ 40) : ShortQ c := fun hall => by have := entsB_le c.ents hall; omega

section
variable {H : Type} {enc : TypeId × Value → H} {W : World}
theorem ent_leaves (fuel : Nat) (cs : List Value) (x : DataW H × List MemPlace) (h : DataW.trod enc Tryz.prog W 0 (fun _ => true) true fuel 119 cs = some x) : Leaves enc Tryz.prog W [9, 23] cs :=
  leaves_one (by kernel_rfl) Tryz.underlying119 (by kernel_rfl) (by kernel_rfl) h
theorem ent_dec (cs : List Value) (h : Leaves enc Tryz.prog W [9, 23] cs) : ∃ p : EP, Rd W 2 p.1.ao p.1.an p.1.ac (atV p.2) ∧ p.1.cells.toList = cs := by
  obtain ⟨v0, n0, y0, c0, d0⟩ := h.2 0 9 rfl
  obtain ⟨v1, n1, y1, c1, d1⟩ := h.2 1 23 rfl
  obtain ⟨s0, e0, -, -⟩ := DataW.trod_string Tryz.underlying9 d0
  obtain rfl := List.head_eq_of_cons_eq e0
  obtain ⟨ao, an, ac, la, rfl, hal, -, ha⟩ := open_rows attE (fun _ => True) 2 (fun _ => rfl) (by decide) (ts := [9, 9]) Tryz.underlying23 (by kernel_rfl) attr_leaves attr_dec d1
  refine ⟨(⟨s0, ao, an, ac⟩, la), ha, ?_⟩
  have hl : cs.length = 2 := h.1
  refine List.ext_getElem? (fun j => ?_)
  match j with
  | 0 => exact c0.symm
  | 1 => exact c1.symm
  | j + 2 => rw [List.getElem?_eq_none (by simp [EV.cells]), List.getElem?_eq_none (by omega)]
theorem res_leaves (fuel : Nat) (cs : List Value) (x : DataW H × List MemPlace) (h : DataW.trod enc Tryz.prog W 0 (fun _ => true) true fuel 58 cs = some x) : Leaves enc Tryz.prog W [30, 4, 56, 25] cs :=
  leaves_one (by kernel_rfl) Tryz.underlying58 (by kernel_rfl) (by kernel_rfl) h
theorem res_dec {ts : List TypeId} {cs : List Value} (o : Nat) (h : Leaves enc Tryz.prog W ts cs) (ht : ∀ j : Nat, ts[o + j]? = [30, 4, 56, 25][j]?) : ∃ (v : QV) (c : QC), QRd W v c ∧ ∀ (j : Nat) (u : Value), v.cells.toList[j]? = some u → cs[o + j]? = some u := by
  obtain ⟨v0, n0, y0, c0, d0⟩ := h.2 (o + 0) 30 (ht 0)
  obtain ⟨v1, n1, y1, c1, d1⟩ := h.2 (o + 1) 4 (ht 1)
  obtain ⟨v2, n2, y2, c2, d2⟩ := h.2 (o + 2) 56 (ht 2)
  obtain ⟨v3, n3, y3, c3, d3⟩ := h.2 (o + 3) 25 (ht 3)
  obtain ⟨z0, e0, -, -⟩ := DataW.trod_int (k := .i64) Tryz.underlying30 d0
  obtain ⟨b1, e1, -⟩ := DataW.trod_bool Tryz.underlying4 d1
  obtain rfl := List.head_eq_of_cons_eq e0
  obtain rfl := List.head_eq_of_cons_eq e1
  obtain ⟨eo, en, ec, le, rfl, hel, hea, he⟩ := open_rows (fun p : EP => p.1.cells.toList) (fun p : EP => Rd W 2 p.1.ao p.1.an p.1.ac (atV p.2)) 2 (fun _ => rfl) (by decide) (ts := [9, 23]) Tryz.underlying56 (by kernel_rfl) ent_leaves ent_dec d2
  obtain ⟨co, cn, cc, zs, rfl, hc, hz⟩ := rd_ints (e := 5) (k := .u8) Tryz.underlying25 Tryz.underlying5 (by kernel_rfl) d3
  obtain ⟨b, hbb⟩ := bytes_of zs (fun z h => wf_u8 (hz z h))
  rw [hbb] at hc
  refine ⟨⟨z0, b1, eo, en, ec, co, cn, cc⟩, ⟨le, b⟩, ⟨he, hea, hc⟩, fun j u hu => ?_⟩
  match j, hu with
  | 0, hu => cases Option.some.inj hu; exact c0
  | 1, hu => cases Option.some.inj hu; exact c1
  | 2, hu => cases Option.some.inj hu; exact c2
  | 3, hu => cases Option.some.inj hu; exact c3
  | j + 4, hu => simp [QV.cells] at hu
set_option maxRecDepth 100000 in
theorem res_open {v : Value} {base : Nat} {d : DataW H} {ps : List MemPlace} (hv : Value.okWide Tryz.prog W .any base 58 v) (h : DataW.Trod enc Tryz.prog W 0 (fun _ => true) true 58 v d ps) : ∃ (o : QV) (c : QC), v = o.val ∧ QRd W o c := by
  obtain ⟨cs, rfl, _⟩ := okWide_struct Tryz.underlying58 hv
  obtain ⟨fuel, hf⟩ := h
  have hL := res_leaves fuel _ _ hf
  obtain ⟨o, c, hr, hc⟩ := res_dec 0 hL (fun j => by rw [Nat.zero_add])
  refine ⟨o, c, ?_, hr⟩
  have hl : cs.toList.length = 4 := hL.1
  have e : cs.toList = o.cells.toList := by
    refine List.ext_getElem? (fun j => ?_)
    by_cases hj : j < 4
    · have hu : o.cells.toList[j]? = some (o.cells.toList[j]'hj) := List.getElem?_eq_getElem hj
      have := hc j _ hu
      rw [Nat.zero_add] at this
      rw [hu]
      exact this
    · rw [List.getElem?_eq_none (by omega), List.getElem?_eq_none (by simp [QV.cells]; omega)]
  show Value.agg cs = .agg _
  congr 1
  exact Array.toList_inj.1 e
end

/-- Is a result more than is gone through? -/
def GivesWide (v : QV) (c : QC) (w : World) (e : Ending) (w' : World) : Prop := ∃ b : Bool, e = .returned (.bool b) ∧ (b = false → QAt w v c ∧ v.en ≤ 8 ∧ v.cn ≤ 9000) ∧ Below w.heap.size w w'
set_option maxRecDepth 100000 in
set_option maxHeartbeats 4000000 in
theorem wide_any (v : QV) (c : QC) (w : World) (h : QRd w v c) : Calls Tryz.prog 26 #[v.val] w (GivesWide v c w) := by
  have lx : c.ents.length = v.en := by have := h.e.1; rw [enV_len] at this; omega
  have LX := Lib.hid lx
  have hcap : v.en ≤ 9223372036854775807 := by have := h.e.2.1; have := h.e.2.2.1; unfold maxLen at this; omega
  have hb0 : Below w.heap.size w (w.alloc v.box) := (Below.refl _ _).alloc (Nat.le_refl _) _
  have k0 : (w.alloc v.box).heap[w.heap.size]? = some v.box := by show (w.heap.push _)[w.heap.size]? = some _; exact Array.getElem?_push_size
  clear lx
  unfold QV.box QV.cells at hb0 k0
  unfold QV.val QV.cells
  go_enter Tryz.func26, Tryz.ntmps26
  go_upto_region 1 with fail
  generalize hg : w.alloc _ = W0 at *
  have s0 : QbAt w v W0 := ⟨k0, hb0⟩
  clear hg k0 hb0
  go_wp2_with fail
  go_loopw [3] (fun p wr => ∃ k : Nat, k ≤ v.en ∧ k ≤ 9 ∧ p = .int .i64 (k : Int) ∧ QbAt w v wr ∧ Hid (∀ p ∈ c.ents.take k, p.1.an ≤ 120)) (fun p _ => v.en - (intOf p).toNat)
  case atStart => exact ⟨0, Nat.zero_le _, Nat.zero_le _, rfl, s0, Lib.hid (fun p hp => by simp at hp)⟩
  case round =>
    obtain ⟨k, hk, hk9, rfl, s1, HA⟩ := hrel
    obtain ⟨c0, c1, c2, c3, c4⟩ := qbox_all s1.o
    by_cases hkn : k < v.en
    · have f0 : decide ((k : Int) < (v.en : Int)) = true := decide_eq_true (by omega)
      by_cases hk8 : k ≤ 8
      · have f1 : decide ((k : Int) ≤ 8) = true := decide_eq_true (by omega)
        have hE := h.e.later s1.bel
        obtain ⟨b1, o1, hao, hl1, hc1⟩ := hE.some (by have := hE.le; omega)
        rw [hao] at c2
        obtain ⟨p, hp⟩ : ∃ p, c.ents[k]? = some p := ⟨_, List.getElem?_eq_getElem (by rw [LX.out]; exact hkn)⟩
        obtain ⟨v1, v2⟩ := enV_at c.ents k p hp
        have x1 := hc1 (k * 2) _ v1
        have x2 : wr.cell? ⟨b1, o1 + k * 2 + 1, none⟩ = _ := hc1 (k * 2 + 1) _ v2
        have hEp := (h.a p (List.mem_of_getElem? hp)).later s1.bel
        have HP := Lib.hid hp
        have i0 : (0 : Int) ≤ (k : Int) := by omega
        have i1 : (k : Int) < (v.en : Int) := by omega
        clear hc1 v1 v2 hp hE hao
        by_cases h3 : 3000 < p.1.name.size
        · have f2 : decide ((3000 : Int) < (p.1.name.size : Int)) = true := decide_eq_true (by omega)
          go_wp2_with fail
          go_ret
          exact ⟨true, rfl, fun h => (by cases h), s1.bel⟩
        have f2 : decide ((3000 : Int) < (p.1.name.size : Int)) = false := decide_eq_false (by omega)
        clear h3
        go_wp2_with fail
        refine (much_any p.1.ao p.1.an p.1.ac p.2 wr hEp).mono ?_
        rintro e W1 ⟨⟨b, rfl, hb⟩, hb1⟩
        have s2 := s1.step hb1
        have Hb := Lib.hid hb
        clear hb x1 x2 c0 c1 c2 c3 c4
        cases b with
        | true =>
          go_wp2_with fail
          go_ret
          exact ⟨true, rfl, fun h => (by cases h), s2.bel⟩
        | false =>
          have hp2 := HP.out
          have HA2 : Hid (∀ q ∈ c.ents.take (k + 1), q.1.an ≤ 120) := Lib.hid (fun q hq => by
            rw [List.take_add_one, hp2] at hq
            rcases List.mem_append.1 hq with hq | hq
            · exact HA.out q hq
            · obtain rfl : q = p := by simpa using hq
              exact Hb.out rfl)
          clear hp2
          go_wp2_with fail
          go_roundw
          case rel => exact ⟨k + 1, by omega, by omega, by go_num, s2, HA2⟩
          case measure => simp [intOf]; omega
      · have f1 : decide ((k : Int) ≤ 8) = false := decide_eq_false (by omega)
        have f3 : decide ((8 : Int) < (v.en : Int)) = true := decide_eq_true (by omega)
        go_wp2_with fail
        go_ret
        exact ⟨true, rfl, fun h => (by cases h), s1.bel⟩
    · have f0 : decide ((k : Int) < (v.en : Int)) = false := decide_eq_false (by omega)
      by_cases h8 : 8 < v.en
      · have f3 : decide ((8 : Int) < (v.en : Int)) = true := decide_eq_true (by omega)
        go_wp2_with fail
        go_ret
        exact ⟨true, rfl, fun h => (by cases h), s1.bel⟩
      have f3 : decide ((8 : Int) < (v.en : Int)) = false := decide_eq_false (by omega)
      have hfull : c.ents.take k = c.ents := List.take_of_length_le (by rw [LX.out]; omega)
      have HB : Hid (∀ p ∈ c.ents, p.1.an ≤ 120) := Lib.hid (by rw [← hfull]; exact HA.out)
      clear hfull
      by_cases h9 : 9000 < v.cn
      · have f4 : decide ((9000 : Int) < (v.cn : Int)) = true := decide_eq_true (by omega)
        go_wp2_with fail
        go_ret
        exact ⟨true, rfl, fun h => (by cases h), s1.bel⟩
      have f4 : decide ((9000 : Int) < (v.cn : Int)) = false := decide_eq_false (by omega)
      have hN : v.en ≤ 8 ∧ v.cn ≤ 9000 := by omega
      have HN := Lib.hid hN
      clear hN h9 h8
      go_wp2_with fail
      go_ret
      exact ⟨false, rfl, fun _ => ⟨⟨⟨h.e, fun p hp => ⟨h.a p hp, by have := HB.out p hp; omega⟩⟩, h.c, by have := HN.out.2; omega⟩, HN.out.1, HN.out.2⟩, s1.bel⟩
end Go.Proofs.YtgeafnggodkpaaaGreat.Msg
