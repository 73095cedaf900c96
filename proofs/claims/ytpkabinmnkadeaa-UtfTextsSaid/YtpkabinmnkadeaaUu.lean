/-
  The walks of Valid, Decode, and of the reference's Decode and Same.
-/
import Derived.Test.YtpkabinmnkadeaaUt
namespace Go.Proofs.Ytpkabinmnkadeaa.Utf
open Go.RowKit Go.Shelf Go.Proofs.Ytpkabinmnkadeaa.Mem
attribute [local go_sem] Oper.semAt_some

set_option maxHeartbeats 400000 in
theorem valid_any (s : ByteArray) (w : World) (hs : s.size ≤ 1099511627776) :
    Calls Try.prog 26 #[.string s] w fun e w' => e = .returned (.bool (decide (wh s.data.toList = s.size))) ∧ Below w.heap.size w w' := by
  go_enter Try.func26, Try.ntmps26
  go_wp2_with (go_at_call 27; refine (where_any s _ hs).mono ?_; rintro e w' ⟨rfl, hb⟩)
  go_ret
  exact ⟨retB (by rw [Bool.eq_iff_iff]; simp; omega), hb⟩

theorem ruT : SliceT Try.prog 39 21 (.int .i32 0) 1 4 := ⟨Try.underlying39, by kernel_rfl, rfl, by decide⟩
def fsts (pre : List PR) : List Int := pre.map fun x => x.1.2
theorem fsts_all (rs : List Int) (xs : List PR) (h : IsPairs rs rs.length xs) : fsts xs = rs := by
  apply List.ext_getElem?
  intro j
  by_cases hj : j < rs.length
  · obtain ⟨x, hx, hx2⟩ := h.2 j hj
    rw [fsts, List.getElem?_map, hx, List.getElem?_eq_getElem hj]
    simp [hx2, List.getElem?_eq_getElem hj]
  · have hl : (fsts xs).length = rs.length := by rw [fsts, List.length_map]; exact h.1
    rw [List.getElem?_eq_none (by omega), List.getElem?_eq_none (by omega)]

theorem fsts_snoc (pre : List PR) (x : PR) : fsts (pre ++ [x]) = fsts pre ++ [x.1.2] := by simp [fsts]
theorem ruV_snoc (l : List Int) (r : Int) : ruV (l ++ [r]) = ruV l ++ [.int .i32 r] := by simp [ruV]
theorem keepsB_box {b : Nat} {W W' : World} {t : TypeId} {v : Value} (h : Boxed W b t v) (h' : Boxed W' b t v) : KeepsB b W W' := Eq.trans h' (Eq.symm h)
/-- A slice of runes is answered, and no error. -/
def GivesR (w : World) (l : List Int) (e : Ending) (w' : World) : Prop := ∃ ao cap, e = .returned (.tuple #[.slice ao l.length cap, .int .i64 0]) ∧ Rd w' 1 ao l.length cap (ruV l) ∧ Below w.heap.size w w'

set_option maxRecDepth 100000 in
set_option maxHeartbeats 1000000 in
theorem decode_yes (s : ByteArray) (w : World) (hs : s.size ≤ 1000000000) (hv : wh s.data.toList = s.size) :
    Calls Try.prog 29 #[.string s] w (GivesR w (runes s.data.toList)) := by
  have hN := Lib.hid (runes_len s.data.toList)
  have hd := Lib.hid (len_data s)
  have Hv := Lib.hid hv
  clear hv
  refine (callsIn_wide (n := 9)).1 ?_
  refine callsIn_of_wp_marks Try.func29 rfl trivial ?_ rfl
  simp only [Try.ntmps29, List.size_toArray, List.length_cons, List.length_nil, Nat.reduceAdd, Nat.reduceSub, Array.replicate_succ, Array.replicate_zero, List.push_toArray, List.append_toArray, List.nil_append, List.cons_append]
  gi_wp2_with (first | (refine ⟨trivial, ?_⟩; gi_at_call 26; refine (callsIn_wide.2 (valid_any s _ (by omega))).mono ?_; rintro e w1 ⟨rfl, hb1⟩; rw [decide_eq_true Hv.out]) | (refine ⟨trivial, ?_⟩; gi_at_call 46; refine (callsIn_wide.2 (runesF_any _ _)).mono ?_; rintro e w' ⟨rfl, rfl⟩))
  have hbs := Boxed.new (w1.alloc (.cells #[.slice none 0 0] 39)) 9 (.string s)
  rw [World.size_alloc] at hbs
  have hb := hbs.cell
  have he := Boxed.new w1 39 (.slice none 0 0)
  have hz1 := hb1.size
  refine wpIn_rangeFunc_ownF (F := Fence.wide) (n := 9) rfl (by omega) (gf := 66) (lb := #[.pointer (some ⟨w1.heap.size + 1, 0, none⟩)]) rfl trivial (enters_of Try.func66 (by kernel_rfl) rfl)
    (runes_stops 8 (by omega) (w1.heap.size + 1) s (by omega) _ hb) keepsB_t (keepsB_b (by simp)) (Below.refl _ _) (fun _ => rfl)
    (fun pre W => Boxed W (w1.heap.size + 1) 9 (.string s) ∧ (∃ v, Boxed W w1.heap.size 39 v ∧ W.ownsRow w.heap.size 21 1 v (fsts pre).length (ruV (fsts pre)) ∧ True) ∧ Below w.heap.size w W)
    (fun _ _ _ => False) ?hI (fun _ _ _ _ _ h _ _ => h) ?h0 ?a1 ?assign ?body ?done ?stop
  case hI => exact OwnFrom.and (Own.from (boxed_own _ _ _) _) (OwnFrom.and (Own.from (holdsRow_own w.heap.size w1.heap.size 39 21 1 (fun pre => (fsts pre).length) (fun pre => ruV (fsts pre)) (fun _ _ => True)) _) (ownFrom_below (Nat.le_refl _) (by simp; omega)))
  case h0 => exact ⟨hbs, ⟨_, he.alloc _, World.ownsRow_nil _ _ _ _, trivial⟩, (hb1.alloc hz1 _).alloc (by simp; omega) _⟩
  case assign =>
    intro l x W K hK
    simp only [prV]
    gi_wp2
    exact hK
  case body =>
    rintro l pre x W ⟨hsb, ⟨v, hv, hrow, _⟩, hB⟩ hlen
    have hc0 := hv.cell
    have hlen2 : (fsts pre).length ≤ 1000000000 := by have := hN.out; have := hd.out; simp only [fsts, List.length_map]; omega
    gi_wp2_with (gi_at_builtin; refine wpListIn_lit _ rfl _ _ 39 rfl w.heap.size 21 (.int .i32 0) 1 4 ruT (by decide) _ _ _ rfl hrow 1 [.int .i32 x.1.2] rfl rfl (one1 _ rfl) hB.size (by omega) ?_; intro ao1 cap1 w3 ho1 hg1 hb3 _; obtain ⟨hv1, hv2, hr2, hk2, hb2⟩ := hv.appended (by decide) hrow hB.size hz1 ho1 hg1; have hc1 := hv1.cell; have hf1 := hv1.frozen)
    have hsb2 := ((hsb.alloc _).kept hg1 (hsb.not_row (by decide) hrow)).other (B' := w1.heap.size) (by omega) (.slice ao1 ((fsts pre).length + 1) cap1)
    refine ⟨hk2, keepsB_box hsb hsb2, hsb2, ⟨_, hv2, ?_, trivial⟩, hB.trans hb2⟩
    rw [fsts_snoc, ruV_snoc]
    simpa using hr2
  case done =>
    rintro D xs W hD hS ⟨_, ⟨v, hv, hrow, _⟩, hB⟩ hK
    have hc := hv.cell
    have hend := Lib.hid (fsts_all _ xs hS)
    rw [hend.out] at hrow
    obtain ⟨ao, cap, rfl, hrd⟩ := Rd.of_own hrow
    gi_wp2
    refine ⟨by simp, .inl ⟨_, _, rfl, run_takeDeferred hK, ?_⟩⟩
    have hB2 := belowK_b (n₀ := w.heap.size) (w := w) (Nat.le_refl _) W D (.deferred (some [])) (.deferred none) (by simp at hD; omega) hK rfl rfl
    refine ⟨_, results_tmp2 (t := 2) (u := 3) rfl _ _ _, ao, cap, rfl, Rd.of_own_slice (ownsRow_putObj hrow _ hK rfl), hB.trans hB2⟩
  case stop =>
    rintro D c pre W _ _ h _
    exact h.elim

set_option maxRecDepth 100000 in
set_option maxHeartbeats 400000 in
theorem decode_no (s : ByteArray) (w : World) (hs : s.size ≤ 1000000000) (hv : wh s.data.toList ≠ s.size) :
    Calls Try.prog 29 #[.string s] w fun e w' => e = .returned (.tuple #[.slice none 0 0, .int .i64 5]) ∧ Below w.heap.size w w' := by
  have Hv := Lib.hid hv
  clear hv
  go_enter Try.func29, Try.ntmps29
  go_wp2_with (go_at_call 26; refine (valid_any s _ (by omega)).mono ?_; rintro e w1 ⟨rfl, hb1⟩; rw [decide_eq_false Hv.out])
  go_ret2
  exact ⟨rfl, hb1⟩

theorem nx_take4 (l : List UInt8) : nx (l.take 4) = nx l := by
  by_cases h : (nx l).2 = 0
  · rw [nx_zero l h]
    apply nx_zero
    by_cases h2 : (nx (l.take 4)).2 = 0
    · exact h2
    · obtain ⟨a, b, c, d⟩ := nx_some (l.take 4) (nx (l.take 4)).1 (nx (l.take 4)).2 rfl h2
      have hl : (nx (l.take 4)).2 ≤ 4 := nx_le4 _
      have := nx_of_take l (nx (l.take 4)).1 (nx (l.take 4)).2 a (by rw [← d, List.take_take, Nat.min_eq_left hl]) (by rw [List.length_take] at c; omega)
      rw [this] at h; exact absurd h h2
  · obtain ⟨a, b, c, d⟩ := nx_some l (nx l).1 (nx l).2 rfl h
    have hl : (nx l).2 ≤ 4 := nx_le4 _
    exact nx_of_take (l.take 4) (nx l).1 (nx l).2 a (by rw [List.take_take, Nat.min_eq_left hl, d]) (by rw [List.length_take]; omega)
end Go.Proofs.Ytpkabinmnkadeaa.Utf
