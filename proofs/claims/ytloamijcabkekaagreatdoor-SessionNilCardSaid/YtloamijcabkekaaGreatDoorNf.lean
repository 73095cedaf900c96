/-
  Messages: slices.DeleteFunc at fields.
-/
import Derived.Test.YtloamijcabkekaaGreatDoorNe
namespace Go.Proofs.YtloamijcabkekaaGreatDoor.Msg
open Go.RowKit Go.Lib Go.Proofs.YtloamijcabkekaaGreatDoor.Mem

theorem fV_setL (f : FV) : ∀ (M : List FV) (i : Nat), i < M.length → ((((fV M).set (i * 4) (.int .i32 f.l)).set (i * 4 + 1) f.kp).set (i * 4 + 2) f.pt).set (i * 4 + 3) f.tk = fV (M.set i f)
  | [], _, h => by simp at h
  | z :: xs, 0, _ => rfl
  | z :: xs, i + 1, h => by
    have ih := fV_setL f xs i (by simpa using h)
    have e : ∀ (y : FV) (ys : List FV), fV (y :: ys) = Value.int .i32 y.l :: y.kp :: y.pt :: y.tk :: fV ys := fun _ _ => rfl
    rw [List.set_cons_succ, e, e, ← ih, show (i + 1) * 4 = i * 4 + 1 + 1 + 1 + 1 from by omega]
    rfl
theorem FRow.set {b : Nat} {M : List FV} {W : World} (h : FRow b M W) (i : Nat) (f : FV) (hi : i < M.length) :
    FRow b (M.set i f) ((((W.setCell ⟨b, i * 4, none⟩ (.int .i32 f.l)).setCell ⟨b, i * 4 + 1, none⟩ f.kp).setCell ⟨b, i * 4 + 2, none⟩ f.pt).setCell ⟨b, i * 4 + 3, none⟩ f.tk) := by
  unfold FRow at h ⊢
  have h4 := at_set (i := i * 4 + 3) (x := f.tk) (at_set (i := i * 4 + 2) (x := f.pt) (at_set (i := i * 4 + 1) (x := f.kp) (at_set (i := i * 4) (x := .int .i32 f.l) h)))
  rw [h4, ← fV_setL f M i hi]
  simp only [List.setIfInBounds_toArray]
/-- All blocks but b stay. -/
structure Oth (B b : Nat) (w W : World) : Prop where
  bel : Below B w W
  oth : ∀ k, k < w.heap.size → k ≠ b → W.heap[k]? = w.heap[k]?
theorem Oth.refl (B b : Nat) (w : World) : Oth B b w w := ⟨Below.refl _ _, fun _ _ _ => rfl⟩
theorem Oth.later {B b : Nat} {w W W' : World} (h : Oth B b w W) (hB : B ≤ W.heap.size) (hb : Below W.heap.size W W') : Oth B b w W' :=
  ⟨h.bel.trans (hb.mono hB), fun k hk hne => (hb.block k (Nat.lt_of_lt_of_le hk h.bel.size)).trans (h.oth k hk hne)⟩
theorem Oth.set {B b : Nat} {w W : World} (h : Oth B b w W) (hB : B ≤ b) (i : Nat) (x : Value) : Oth B b w (W.setCell ⟨b, i, none⟩ x) :=
  ⟨h.bel.setCell (p := ⟨b, i, none⟩) hB x, fun k hk hne => (Below.heap_setCell W ⟨b, i, none⟩ x k hne).trans (h.oth k hk hne)⟩
theorem Oth.sets {B b : Nat} {w : World} (hB : B ≤ b) : ∀ (vs : List Value) (o : Nat) (W : World), Oth B b w W → Oth B b w (W.setCells b o vs)
  | [], _, _, h => h
  | v :: vs, o, _, h => Oth.sets hB vs (o + 1) _ (h.set hB o v)
theorem zero_cells : ∀ (z : Array Value) (n : Nat), 0 < z.size → (∀ v ∈ z.toList, v.oneCell' = true) → (Builtin.zeroCells z n).toList.length = n * z.size ∧ ∀ v ∈ (Builtin.zeroCells z n).toList, v.oneCell' = true := by
  intro z n hz h
  constructor
  · simp [Builtin.zeroCells]
  · intro v hv
    simp only [Builtin.zeroCells, Array.toList_map, List.mem_map] at hv
    obtain ⟨i, _, rfl⟩ := hv
    have hlt : i % z.size < z.size := Nat.mod_lt _ hz
    rw [getElem!_pos z (i % z.size) hlt]
    exact h _ (by simp)
theorem run_clear_cells {P : Program} (w : World) (t e ty : TypeId) (z : Value) (ht : P.underlying t = some (.slice e)) (hv : ∀ w, (zeroValue e).run P w = .ok z w) (hz : 0 < z.cells.size) (h1 : ∀ v ∈ z.cells.toList, v.oneCell' = true) (b o n c : Nat) (hn : 0 < n)
    (hc : ∀ j, j < n * z.cells.size → (w.cell? ⟨b, o + j, none⟩).isSome = true) (hf : ∀ j, w.frozen? ⟨b, o + j, none⟩ = false) :
    (Builtin.clear_ #[t] ty #[.slice (some ⟨b, o, none⟩) n c]).run P w = .ok (.tuple #[]) (w.setCells b o (Builtin.zeroCells z.cells n).toList) := by
  obtain ⟨hl, ho⟩ := zero_cells z.cells n hz h1
  have hst := run_storeCells_cells (P := P) b o (Builtin.zeroCells z.cells n).toList 0 w (by rw [hl]; simpa using hc) (by intro j _; simpa using hf j) ho
  simp only [Nat.add_zero] at hst
  obtain ⟨m, rfl⟩ : ∃ m, n = m + 1 := ⟨n - 1, by omega⟩
  simp [Builtin.clear_, run_underlying ht, hv, hst]

/-- Behind the elements ahead of j, i of which stay. -/
structure DelAt (B b n sb : Nat) (L : List FV) (l : List UInt8) (w : World) (i j : Nat) (M : List FV) (wr : World) : Prop where
  row : FRow b M wr
  len : M.length = n
  fst : M.take i = (L.take j).filter (fun f => !goes l f)
  snd : M.drop j = L.drop j
  ij : i < j
  jn : j ≤ n
  str : StrAt sb l wr
  oth : Oth B b w wr
theorem DelAt.later {B b n sb : Nat} {L : List FV} {l : List UInt8} {w : World} {i j : Nat} {M : List FV} {wr W' : World} (h : DelAt B b n sb L l w i j M wr) (hB : B ≤ wr.heap.size) (hb : Below wr.heap.size wr W') : DelAt B b n sb L l w i j M W' :=
  ⟨h.row.later hb, h.len, h.fst, h.snd, h.ij, h.jn, h.str.later hb, h.oth.later hB hb⟩
theorem filt_next {α : Type} (p : α → Bool) (L : List α) (j : Nat) (f : α) (h : L[j]? = some f) : (L.take (j + 1)).filter p = (L.take j).filter p ++ (if p f then [f] else []) := by
  obtain ⟨hl, e⟩ := List.getElem?_eq_some_iff.1 h
  rw [List.take_succ_eq_append_getElem hl, e, List.filter_append]
  cases hp : p f <;> simp [hp]
theorem DelAt.drop {B b n sb : Nat} {L : List FV} {l : List UInt8} {w : World} {i j : Nat} {M : List FV} {wr : World} (h : DelAt B b n sb L l w i j M wr) (hL : L.length = n) (f : FV) (hf : L[j]? = some f) (hg : goes l f = true) : DelAt B b n sb L l w i (j + 1) M wr := by
  have hj := (List.getElem?_eq_some_iff.1 hf).1
  refine ⟨h.row, h.len, ?_, ?_, by have := h.ij; omega, by omega, h.str, h.oth⟩
  · rw [filt_next _ L j f hf, hg, h.fst]; simp
  · rw [← List.drop_drop, ← List.drop_drop, h.snd]
theorem DelAt.keep {B b n sb : Nat} {L : List FV} {l : List UInt8} {w : World} {i j : Nat} {M : List FV} {wr : World} (h : DelAt B b n sb L l w i j M wr) (hL : L.length = n) (hB : B ≤ b) (hsb : sb ≠ b) (f : FV) (hf : L[j]? = some f) (hg : goes l f = false) :
    DelAt B b n sb L l w (i + 1) (j + 1) (M.set i f) ((((wr.setCell ⟨b, i * 4, none⟩ (.int .i32 f.l)).setCell ⟨b, i * 4 + 1, none⟩ f.kp).setCell ⟨b, i * 4 + 2, none⟩ f.pt).setCell ⟨b, i * 4 + 3, none⟩ f.tk) := by
  have hj := (List.getElem?_eq_some_iff.1 hf).1
  have hij := h.ij
  have hi : i < M.length := by rw [h.len]; omega
  refine ⟨h.row.set i f hi, by rw [List.length_set, h.len], ?_, ?_, by omega, by omega, ?_, ?_⟩
  · rw [filt_next _ L j f hf, hg, ← h.fst, List.take_succ_eq_append_getElem (by rw [List.length_set]; exact hi), List.take_set_of_le (Nat.le_refl _)]
    simp
  · rw [List.drop_set_of_lt (by omega), ← List.drop_drop, ← List.drop_drop, h.snd]
  · exact at_other (at_other (at_other (at_other h.str hsb) hsb) hsb) hsb
  · exact (((h.oth.set hB _ _).set hB _ _).set hB _ _).set hB _ _

set_option maxRecDepth 100000 in
set_option maxHeartbeats 4000000 in
theorem deleteF_any (B b n sb : Nat) (L : List FV) (l : List UInt8) (w : World) (hL : FRow b L w) (hn : L.length = n) (hn2 : n ≤ 1000) (hs : StrAt sb l w) (hasc : ∀ c ∈ l, c.toNat < 128) (hB : B ≤ b) (hsb : sb ≠ b)
    (hone : ∀ f ∈ L, f.kp.oneCell' = true ∧ f.pt.oneCell' = true ∧ f.tk.oneCell' = true) :
    Calls Tryz.prog 78 #[.slice (some ⟨b, 0, none⟩) n n, .func (.func 80) #[] #[.pointer (some ⟨sb, 0, none⟩)]] w
      fun e w' => ∃ m : Nat, e = .returned (.slice (some ⟨b, 0, none⟩) m n) ∧ m = (L.filter fun f => !goes l f).length ∧ Rd w' 4 (some ⟨b, 0, none⟩) m n (fV (L.filter fun f => !goes l f)) ∧ Oth B b w w' := by
  have hbl : b < w.heap.size := (Array.getElem?_eq_some_iff.1 hL).1
  have hrd : ∀ (M : List FV) (m : Nat) (W : World), FRow b M W → M.length = n → m ≤ n → Rd W 4 (some ⟨b, 0, none⟩) m n (fV (M.take m)) := fun M m W hR hl hm => by
    refine ⟨by rw [fV_len, List.length_take, hl]; congr 1; omega, hm, by unfold maxLen; omega, (fun h => by cases h), fun _ a ha => ?_⟩
    cases ha
    refine ⟨rfl, (Array.getElem?_eq_some_iff.1 hR).1, fun j u hu => ?_⟩
    rw [Nat.zero_add]
    have hlt : j < (fV (M.take m)).length := (List.getElem?_eq_some_iff.1 hu).1
    have e : (fV M)[j]? = some u := by
      have := fV_app (M.take m) (M.drop m)
      rw [List.take_append_drop] at this
      rw [this, List.getElem?_append_left hlt]
      exact hu
    unfold FRow at hR
    simp [World.cell?, hR, e]
  have HN := Lib.hid hn
  clear hn
  go_enter Tryz.func78, Tryz.ntmps78
  go_wp2_with fail
  refine (indexF_any b n sb L l w hL HN.out hn2 hs hasc).mono ?_
  rintro e w1 ⟨⟨r, rfl, hr⟩, hb1⟩
  have hR1 := hL.later hb1
  have ho1 := (Oth.refl B b w).later (Nat.le_trans hB (Nat.le_of_lt hbl)) hb1
  rcases hr with ⟨rfl, hno⟩ | ⟨i0, f0, rfl, hf0, hg0, hno⟩
  · have hfil : L.filter (fun f => !goes l f) = L := List.filter_eq_self.2 (fun f hf => by have := List.any_eq_false.1 hno f hf; simpa using this)
    have Hfil := Lib.hid hfil
    clear hno hfil
    go_wp2_with fail
    go_ret
    refine ⟨n, rfl, by rw [Hfil.out, HN.out], ?_, ho1⟩
    have := hrd L n w1 hR1 HN.out (Nat.le_refl _)
    rw [List.take_of_length_le (by rw [HN.out]; omega)] at this
    rw [Hfil.out]
    exact this
  · have hi0 := (List.getElem?_eq_some_iff.1 hf0).1
    rw [HN.out] at hi0
    have hfil : L.take i0 = (L.take (i0 + 1)).filter (fun f => !goes l f) := by
      rw [filt_next _ L i0 f0 hf0, hg0]
      simp only [Bool.not_true, Bool.false_eq_true, if_false, List.append_nil]
      exact (List.filter_eq_self.2 (fun f hf => by have := List.any_eq_false.1 hno f hf; simpa using this)).symm
    have hD0 : DelAt B b n sb L l w i0 (i0 + 1) L w1 := ⟨hR1, HN.out, hfil, rfl, by omega, by omega, hs.later hb1, ho1⟩
    have g1 : ((i0 : Int) == -1) = false := by simp
    clear hno hfil hg0 hf0
    go_wp2_with fail
    go_loopw [5, 6] (fun p q wr => ∃ (i j : Nat) (M : List FV), p = .int .i64 (i : Int) ∧ q = .int .i64 (j : Int) ∧ DelAt B b n sb L l w i j M wr) (fun _ q _ => n - (intOf q).toNat)
    case atStart => exact ⟨i0, i0 + 1, L, rfl, by go_num, hD0⟩
    case round =>
      obtain ⟨i, j, M, rfl, rfl, hD⟩ := hrel
      have hij := hD.ij
      have hBw : B ≤ wr.heap.size := Nat.le_trans hB (Nat.le_trans (Nat.le_of_lt hbl) hD.oth.bel.size)
      by_cases hjn : j < n
      · obtain ⟨f, hf⟩ : ∃ f, L[j]? = some f := ⟨_, List.getElem?_eq_getElem (by rw [HN.out]; exact hjn)⟩
        have hMf : M[j]? = some f := by
          have := congrArg (fun x => x[0]?) hD.snd
          simpa [List.getElem?_drop, hf] using this
        obtain ⟨o1, o2, o3⟩ := hone f (List.mem_of_getElem? hf)
        have st1 : ∀ (a : Addr) (m : Mode) (W : World), (store a f.kp m).run Tryz.prog W = stored Tryz.prog W a f.kp m := fun a m W => run_store _ W a f.kp m o1
        have st2 : ∀ (a : Addr) (m : Mode) (W : World), (store a f.pt m).run Tryz.prog W = stored Tryz.prog W a f.pt m := fun a m W => run_store _ W a f.pt m o2
        have st3 : ∀ (a : Addr) (m : Mode) (W : World), (store a f.tk m).run Tryz.prog W = stored Tryz.prog W a f.tk m := fun a m W => run_store _ W a f.tk m o3
        obtain ⟨c0, c1, c2, c3, -⟩ := hD.row.at_ j f hMf
        have i0' : (0 : Int) ≤ (j : Int) := by omega
        have i1' : (j : Int) < (n : Int) := by omega
        go_upto_region 8 with fail
        generalize hg : wr.alloc _ = W0
        have hbx : Below wr.heap.size wr W0 := by rw [← hg]; exact (Below.refl _ _).alloc (Nat.le_refl _) _
        have k1 : W0.heap[wr.heap.size]? = some f.box := by rw [← hg]; show (wr.heap.push _)[wr.heap.size]? = some _; exact Array.getElem?_push_size
        have hD1 := hD.later hBw hbx
        clear hg c0 c1 c2 c3
        have hcall := of1_any f sb l W0 hD1.str hasc
        unfold FV.val FV.cells at hcall
        obtain ⟨c0, c1, c2, c3, -⟩ := fbox_all k1
        have hBw1 : B ≤ W0.heap.size := Nat.le_trans hBw hbx.size
        go_wp2_with fail
        refine hcall.mono ?_
        rintro e W2 ⟨rfl, hb2⟩
        have hD2 := hD1.later hBw1 hb2
        have k2 := (hb2.block _ (Array.getElem?_eq_some_iff.1 k1).1).trans k1
        have hge : (!hasL l f.l) = goes l f := rfl
        rw [hge]
        clear hge hcall c0 c1 c2 c3
        by_cases hm : goes l f = true
        · have hN := hD2.drop HN.out f hf hm
          rw [hm]
          clear hD hD1 hD2
          go_wp2_with fail
          go_roundw
          case rel => exact ⟨i, j + 1, M, rfl, by go_num, hN⟩
          case measure => simp [intOf]; omega
        · have hm2 : goes l f = false := by simpa using hm
          have hN := hD2.keep HN.out hB hsb f hf hm2
          have hiM : i < M.length := by rw [hD2.len]; omega
          obtain ⟨g, hgi⟩ : ∃ g, M[i]? = some g := ⟨_, List.getElem?_eq_getElem hiM⟩
          obtain ⟨d0, d1, d2, d3, d4⟩ := hD2.row.at_ i g hgi
          obtain ⟨c0, c1, c2, c3, -⟩ := fbox_all k2
          have j0 : (0 : Int) ≤ (i : Int) := by omega
          have j1 : (i : Int) < (n : Int) := by omega
          rw [hm2]
          clear hD hD1 hD2
          go_wp2_with fail
          go_roundw
          case rel => exact ⟨i + 1, j + 1, _, by go_num, by go_num, hN⟩
          case measure => simp [intOf]; omega
      · have hjn2 : j = n := by have := hD.jn; omega
        have hfil : M.take i = L.filter (fun f => !goes l f) := by
          have := hD.fst
          rw [hjn2, show L.take n = L from List.take_of_length_le (by rw [HN.out]; exact Nat.le_refl _)] at this
          exact this
        have hlen : i = (L.filter fun f => !goes l f).length := by rw [← hfil, List.length_take, hD.len]; omega
        have hrow := hrd M i wr hD.row hD.len (by omega)
        rw [hfil] at hrow
        have hin : i < n := by omega
        have hcl : ∀ ty, (Builtin.clear_ #[112] ty #[.slice (some ⟨b, i * 4, none⟩) (n - i) (n - i)]).run Tryz.prog wr = .ok (.tuple #[]) (wr.setCells b (i * 4) (Builtin.zeroCells (Value.agg #[.int .i32 0, .nilFunc, .nilFunc, .nilFunc]).cells (n - i)).toList) :=
          fun ty => run_clear_cells wr 112 118 ty _ Tryz.underlying112 (fun _ => by kernel_rfl) (by decide) (by intro v hv; simp [Value.cells] at hv; rcases hv with rfl | rfl <;> rfl) b (i * 4) (n - i) (n - i) (by omega)
            (fun t ht => by
              have hr := hD.row
              unfold FRow at hr
              have hlt : i * 4 + t < (fV M).length := by rw [fV_len, hD.len]; simp [Value.cells] at ht; omega
              simp [World.cell?, hr, hlt])
            (fun t => by have hr := hD.row; unfold FRow at hr; simp [World.frozen?, hr])
        have hoth := Oth.sets hB (Builtin.zeroCells (Value.agg #[.int .i32 0, .nilFunc, .nilFunc, .nilFunc]).cells (n - i)).toList (i * 4) wr hD.oth
        have hrow2 : Rd (wr.setCells b (i * 4) (Builtin.zeroCells (Value.agg #[.int .i32 0, .nilFunc, .nilFunc, .nilFunc]).cells (n - i)).toList) 4 (some ⟨b, 0, none⟩) i n (fV (L.filter fun f => !goes l f)) := by
          obtain ⟨q1, q2, q3, q4, q5⟩ := hrow
          refine ⟨q1, q2, q3, q4, fun h0 a ha => ?_⟩
          obtain ⟨s1, s2, s3⟩ := q5 h0 a ha
          cases ha
          refine ⟨rfl, Nat.lt_of_lt_of_le hbl hoth.bel.size, fun t u hu => ?_⟩
          have hlt := (List.getElem?_eq_some_iff.1 hu).1
          rw [World.cell?_setCells_out b _ _ _ _ (fun _ _ => .inl (by dsimp only; omega))]
          exact s3 t u hu
        have HF := Lib.hid hlen
        have n0 : (0 : Int) ≤ (i : Int) := by omega
        have n1 : (i : Int) ≤ (n : Int) := by omega
        clear hfil hlen hrow hD hjn2
        go_wp2_with fail
        go_ret
        exact ⟨i, rfl, HF.out, hrow2, hoth⟩
end Go.Proofs.YtloamijcabkekaaGreatDoor.Msg
