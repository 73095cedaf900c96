/-
  Parts as they come in: the argument opened.
-/
import Derived.Test.YtpkabinmnkadeaaVv
import Derived.Test.YtpkabinmnkadeaaVl
import Derived.Deep.Slices
import Derived.Deep.Fields
import Derived.Deep.Strs
import Derived.ChangeSame
import Derived.ChangeArms
namespace Go.Proofs.Ytpkabinmnkadeaa.Tlv
open Go.RowKit Go.Proofs.Ytpkabinmnkadeaa.Mem
open Go.ChangeShapes Go.WideShapes Go.Deep

section
variable {H : Type} {enc : TypeId × Value → H} {P : Program} {W : World}
theorem open_slice_fields {t e : TypeId} {fs : Array Field} {fuel : Nat} {cs : List Value} {x : DataW H × List MemPlace} (ht : P.underlying t = some (.slice e)) (he : P.underlying e = some (.struct fs))
    (hone : oneCellFields P fs = true) (hC : P.cellsOf e = fs.size) (h : DataW.trod enc P W 0 (fun _ => true) true fuel t cs = some x) :
    (cs = [.slice none 0 0]) ∨
    ∃ (a : Addr) (len cap : Nat), cs = [.slice (some a) len cap] ∧ len ≤ cap ∧ cap ≤ maxLen ∧
      ∀ i, i < cap → ∃ (n : Nat), ∀ (j : Nat) (f : Field), fs[j]? = some f → ∃ (v : Value) (y : DataW H × List MemPlace), W.cell? (a.add (i * fs.size + j)) = some v ∧ DataW.trod enc P W 0 (fun _ => true) true n f.type [v] = some y := by
  rcases open_slice ht h with h0 | ⟨a, len, cap, m, n, D, Pl, hcs, hb, hl, hm, hmm, hx, hi⟩
  · exact .inl h0.1
  · refine .inr ⟨a, len, cap, hcs, hl, hm, fun i him => ?_⟩
    obtain ⟨cs', hc, ht'⟩ := hi i (by simp only [if_true] at hmm; omega)
    rw [hC] at hc
    obtain ⟨ys, n', hn', hy, hlen, hyl, hf⟩ := DataW.trod_struct he ht'
    obtain ⟨_, hcl, hat⟩ := World.cells?_some hc
    refine ⟨n', fun j f hj => ?_⟩
    obtain ⟨ho, hk⟩ := hone_of hone j f hj
    have hjl : j < fs.size := (Array.getElem?_eq_some_iff.1 hj).1
    have hcell := hat j hjl
    have hv : cs'[j]? = some (cs'[j]'(by omega)) := List.getElem?_eq_getElem (by omega)
    have h1 := hf j f hj
    rw [ho, hk] at h1
    have hone' : (cs'.drop j).take 1 = [cs'[j]'(by omega)] := by
      rw [List.drop_eq_getElem_cons (by omega)]
      rfl
    rw [hone'] at h1
    have hys : ys[j]? = some (ys[j]'(by omega)) := List.getElem?_eq_getElem (by omega)
    refine ⟨_, _, ?_, h1.trans hys⟩
    rw [← Go.Deep.add_add, hcell, hv]

theorem rd_ints {t e : TypeId} {k : IntKind} {fuel : Nat} {v : Value} {x : DataW H × List MemPlace} (ht : P.underlying t = some (.slice e)) (he : P.underlying e = some (.int k)) (hc : P.cellsOf e = 1)
    (h : DataW.trod enc P W 0 (fun _ => true) true fuel t [v] = some x) : ∃ ao n cap, ∃ zs : List Int, v = .slice ao n cap ∧ Rd W 1 ao n cap (zs.map (Value.int k)) ∧ ∀ z ∈ zs, (Lit.int k z).wf = true := by
  have hsl : ∃ ao n cap, v = .slice ao n cap := by
    rcases ChangeShapes.open_ints ht he hc h with ⟨hcs, _⟩ | ⟨a, l, c, zs, hcs, _⟩
    · exact ⟨_, _, _, List.head_eq_of_cons_eq hcs⟩
    · exact ⟨_, _, _, List.head_eq_of_cons_eq hcs⟩
  obtain ⟨ao, n, cap, rfl⟩ := hsl
  obtain ⟨zs, h1, h2⟩ := open_rd (d := x.1) (ps := x.2) ht he hc ⟨fuel, h⟩
  exact ⟨ao, n, cap, zs, rfl, h1, h2⟩

theorem rd_strs {t e : TypeId} {fuel : Nat} {v : Value} {x : DataW H × List MemPlace} (ht : P.underlying t = some (.slice e)) (he : P.underlying e = some .string) (hc : P.cellsOf e = 1)
    (h : DataW.trod enc P W 0 (fun _ => true) true fuel t [v] = some x) : ∃ ao cap l, v = .slice ao l.length cap ∧ Rd W 1 ao l.length cap (strV l) ∧ ∀ s ∈ l, s.size ≤ maxLen := by
  rcases Deep.open_strs ht he hc h with ⟨hcs, _⟩ | ⟨a, len, cap, m, S, hcs, _, hl, hm, hmm, _, hx⟩
  · obtain rfl := List.head_eq_of_cons_eq hcs
    exact ⟨none, 0, [], rfl, Rd.nil _ _, fun _ h => by cases h⟩
  · obtain rfl := List.head_eq_of_cons_eq hcs
    simp only [if_true] at hmm
    refine ⟨some a, cap, (List.range len).map S, by simp, ?_, ?_⟩
    · simp only [List.length_map, List.length_range]
      refine ⟨by simp [strV], hl, hm, (fun h => by cases h), fun h0 a' ha => ?_⟩
      cases ha
      have hc0 := (hx 0 (by omega)).1
      have hs : a.spot = none := by simpa [Addr.add] using World.cell?_spot hc0
      obtain ⟨b, off, sp⟩ := a
      dsimp only at hs; subst hs
      refine ⟨rfl, World.block_lt_of_cell? W _ hc0, fun j u hu => ?_⟩
      have hj : j < len := by
        rcases Nat.lt_or_ge j len with h | h
        · exact h
        · rw [List.getElem?_eq_none (by simp [strV]; omega)] at hu; cases hu
      have := (hx j (by omega)).1
      rw [Addr.add_lit] at this
      rw [this]
      simpa [strV, List.getElem?_map, List.getElem?_range hj] using hu
    · intro s hs
      obtain ⟨i, hi, rfl⟩ := List.mem_map.1 hs
      exact (hx i (by have := List.mem_range.1 hi; omega)).2
end

section
variable {H : Type} {enc : TypeId × Value → H} {W : World}
theorem wf_u8 {z : Int} (h : (Lit.int .u8 z).wf = true) : 0 ≤ z ∧ z < 256 := by
  simp only [Lit.wf, Bool.and_eq_true, decide_eq_true_eq] at h
  exact ⟨h.1, Int.lt_of_le_sub_one h.2⟩
theorem wf_u64 {z : Int} (h : (Lit.int .u64 z).wf = true) : 0 ≤ z ∧ z < 18446744073709551616 := by
  simp only [Lit.wf, Bool.and_eq_true, decide_eq_true_eq] at h
  exact ⟨h.1, Int.lt_of_le_sub_one h.2⟩

/-- One part, out of its five cells. -/
theorem part_open {a : Addr} {n i : Nat} {fs : Array Field} (hfs : fs.map (·.type) = #[3, 5, 59, 22, 60])
    (h : ∀ (j : Nat) (f : Field), fs[j]? = some f → ∃ (v : Value) (y : DataW H × List MemPlace), W.cell? (a.add (i * fs.size + j)) = some v ∧ DataW.trod enc Try.prog W 0 (fun _ => true) true n f.type [v] = some y) :
    ∃ p : Pt, ptG p W ∧ ∀ j u, (ptV p)[j]? = some u → W.cell? (a.add (i * 5 + j)) = some u := by
  have hsz : fs.size = 5 := by have := congrArg Array.size hfs; simpa using this
  have hty : ∀ j (hj : j < 5), ∃ f, fs[j]? = some f ∧ some f.type = #[3, 5, 59, 22, 60][j]? := fun j hj => by
    have := congrArg (fun b : Array TypeId => b[j]?) hfs
    simp only [Array.getElem?_map] at this
    rw [Array.getElem?_eq_getElem (by omega)] at this
    exact ⟨fs[j], Array.getElem?_eq_getElem (by omega), this⟩
  obtain ⟨f0, g0, t0⟩ := hty 0 (by omega)
  obtain ⟨f1, g1, t1⟩ := hty 1 (by omega)
  obtain ⟨f2, g2, t2⟩ := hty 2 (by omega)
  obtain ⟨f3, g3, t3⟩ := hty 3 (by omega)
  obtain ⟨f4, g4, t4⟩ := hty 4 (by omega)
  obtain ⟨v0, y0, c0, d0⟩ := h 0 f0 g0
  obtain ⟨v1, y1, c1, d1⟩ := h 1 f1 g1
  obtain ⟨v2, y2, c2, d2⟩ := h 2 f2 g2
  obtain ⟨v3, y3, c3, d3⟩ := h 3 f3 g3
  obtain ⟨v4, y4, c4, d4⟩ := h 4 f4 g4
  rw [show f0.type = 3 from Option.some.inj t0] at d0
  rw [show f1.type = 5 from Option.some.inj t1] at d1
  rw [show f2.type = 59 from Option.some.inj t2] at d2
  rw [show f3.type = 22 from Option.some.inj t3] at d3
  rw [show f4.type = 60 from Option.some.inj t4] at d4
  rw [hsz] at c0 c1 c2 c3 c4
  obtain ⟨z0, e0, _, w0⟩ := DataW.trod_int (k := .i64) (by kernel_rfl) d0
  obtain ⟨z1, e1, _, w1⟩ := DataW.trod_int (k := .u8) (by kernel_rfl) d1
  obtain ⟨z2, e2, _, w2⟩ := DataW.trod_int (k := .u64) (by kernel_rfl) d2
  obtain rfl := List.head_eq_of_cons_eq e0
  obtain rfl := List.head_eq_of_cons_eq e1
  obtain rfl := List.head_eq_of_cons_eq e2
  obtain ⟨bo, bn, bcap, zs, rfl, hb, hz⟩ := rd_ints (e := 5) (k := .u8) (by kernel_rfl) (by kernel_rfl) (by kernel_rfl) d3
  obtain ⟨lo, lcap, l, rfl, hl, hls⟩ := rd_strs (e := 9) (by kernel_rfl) (by kernel_rfl) (by kernel_rfl) d4
  obtain ⟨b, hbb⟩ := bytes_of zs (fun z h => wf_u8 (hz z h))
  rw [hbb] at hb
  have hbl := hb.len
  rw [byV_len, Nat.mul_one] at hbl
  subst hbl
  obtain ⟨q1, q2⟩ := wf_u8 w1
  obtain ⟨r1, r2⟩ := wf_u64 w2
  refine ⟨⟨z0, UInt8.ofNat z1.toNat, z2.toNat, b, bo, bcap, l, lo, lcap⟩, ⟨hb, hl, by dsimp only; omega, hls⟩, ?_⟩
  have ht : (((UInt8.ofNat z1.toNat).toNat : Nat) : Int) = z1 := by rw [UInt8.toNat_ofNat', Nat.mod_eq_of_lt (by omega), Int.toNat_of_nonneg q1]
  have hn : ((z2.toNat : Nat) : Int) = z2 := Int.toNat_of_nonneg r1
  intro j u hu
  simp only [ptV, ht, hn] at hu
  match j, hu with
  | 0, hu => cases Option.some.inj hu; exact c0
  | 1, hu => cases Option.some.inj hu; exact c1
  | 2, hu => cases Option.some.inj hu; exact c2
  | 3, hu => cases Option.some.inj hu; exact c3
  | 4, hu => cases Option.some.inj hu; exact c4
  | j + 5, hu => simp at hu

theorem parts_open {ao : Option Addr} {n cap : Nat} {d : DataW H} {ps : List MemPlace} (h : DataW.Trod enc Try.prog W 0 (fun _ => true) true 55 (.slice ao n cap) d ps) : ∃ pts : List Pt, pts.length = n ∧ Parts W ao cap pts := by
  obtain ⟨fs, hu, hone, hC, hfs⟩ : ∃ fs, Try.prog.underlying 62 = some (.struct fs) ∧ oneCellFields Try.prog fs = true ∧ Try.prog.cellsOf 62 = fs.size ∧ fs.map (·.type) = #[3, 5, 59, 22, 60] := ⟨_, Try.underlying62, by kernel_rfl, by kernel_rfl, by kernel_rfl⟩
  obtain ⟨fuel, hf⟩ := h
  rcases open_slice_fields Try.underlying55 hu hone hC hf with hcs | ⟨a, len, cap', hcs, hl, hm, hi⟩
  · simp [Value.cells] at hcs
    obtain ⟨rfl, rfl, rfl⟩ := hcs
    exact ⟨[], rfl, Rd.nil _ _, fun _ h => by cases h⟩
  · simp [Value.cells] at hcs
    obtain ⟨rfl, rfl, rfl⟩ := hcs
    have each : ∀ m, m ≤ cap → ∃ pts : List Pt, pts.length = m ∧ (∀ p ∈ pts, ptG p W) ∧ ∀ i j u p, pts[i]? = some p → (ptV p)[j]? = some u → W.cell? (a.add (i * 5 + j)) = some u := by
      intro m
      induction m with
      | zero => exact fun _ => ⟨[], rfl, (fun _ h => by cases h), fun i j u p h => by simp at h⟩
      | succ m ih =>
        intro hm2
        obtain ⟨pts, h1, h2, h3⟩ := ih (by omega)
        obtain ⟨n', hn'⟩ := hi m (by omega)
        obtain ⟨p, hp, hc⟩ := part_open (i := m) hfs hn'
        refine ⟨pts ++ [p], by simp [h1], ?_, ?_⟩
        · intro q hq
          rcases List.mem_append.1 hq with hq | hq
          · exact h2 q hq
          · rw [List.mem_singleton] at hq; subst hq; exact hp
        · intro i j u q hq hu
          by_cases him : i < m
          · rw [List.getElem?_append_left (by omega)] at hq
            exact h3 i j u q hq hu
          · have him2 : i < m + 1 := by have := (List.getElem?_eq_some_iff.1 hq).1; simpa [h1] using this
            obtain rfl : i = m := by omega
            rw [List.getElem?_append_right (by omega), h1, Nat.sub_self, List.getElem?_cons_zero, Option.some.injEq] at hq
            subst hq
            exact hc j u hu
    obtain ⟨pts, h1, h2, h3⟩ := each n hl
    refine ⟨pts, h1, ⟨by rw [ptsV_len], by omega, hm, (fun h => by cases h), fun h0 a' ha => ?_⟩, h2⟩
    cases ha
    obtain ⟨n0, hn0⟩ := hi 0 (by omega)
    obtain ⟨p0, _, hc0⟩ := part_open (i := 0) hfs hn0
    have hcc := hc0 0 _ rfl
    have hs : a.spot = none := by simpa [Addr.add] using World.cell?_spot hcc
    obtain ⟨b, off, sp⟩ := a
    dsimp only at hs; subst hs
    refine ⟨rfl, World.block_lt_of_cell? W _ hcc, fun q u hu => ?_⟩
    have hq : q < pts.length * 5 := by have := (List.getElem?_eq_some_iff.1 hu).1; rwa [ptsV_len] at this
    have hdiv : q / 5 < pts.length := by omega
    have hp : pts[q / 5]? = some pts[q / 5] := List.getElem?_eq_getElem hdiv
    have hj : q % 5 < (ptV pts[q / 5]).length := by show q % 5 < 5; omega
    have hv : (ptV pts[q / 5])[q % 5]? = some (ptV pts[q / 5])[q % 5] := List.getElem?_eq_getElem hj
    have h4 := ptsV_at pts (q / 5) _ hp (q % 5) _ hv
    have hqq : q / 5 * 5 + q % 5 = q := by omega
    rw [hqq, hu] at h4
    have h5 := h3 (q / 5) (q % 5) _ _ hp hv
    rw [hqq, Addr.add_lit] at h5
    rw [h5, h4]
end
end Go.Proofs.Ytpkabinmnkadeaa.Tlv
