/-
  The walks of utf.Runes, Where, Valid, Decode, and of the reference's Decode.
-/
import Derived.Test.YtienfppidmjfpaaUs
namespace Go.Proofs.Ytienfppidmjfpaa.Utf
open Go.RowKit Go.Shelf Go.Proofs.Ytienfppidmjfpaa.Mem
attribute [local go_sem] Oper.semAt_some

theorem runes_stops (n : Nat) (hn : 1 ≤ n) (Bn : Nat) (s : ByteArray) (hs : s.size ≤ 1099511627776) (w : World) (hBn : w.cell? ⟨Bn, 0, none⟩ = some (.string s)) :
    SeqStopsK Fence.wide n Try.prog 77 #[.pointer (some ⟨Bn, 0, none⟩)] prV (KeepsB Bn) (fun xs => IsPairs (runes s.data.toList) (runes s.data.toList).length xs)
      (fun pre => ∃ k, 1 ≤ k ∧ k ≤ (runes s.data.toList).length ∧ IsPairs (runes s.data.toList) k pre) (runes s.data.toList).length w :=
  fun l J Jx W hW _ _ hY h0 => runes1_in n hn l Bn s hs J Jx (fun pre x W1 hj hl => hY pre x W1 hj hl) W ((hW.cell (p := ⟨Bn, 0, none⟩) (World.block_lt_of_cell? w _ hBn)).trans hBn) h0

set_option maxHeartbeats 400000 in
theorem runesF_any (s : ByteArray) (w : World) : Calls Try.prog 71 #[.string s] w fun e w' => e = .returned (.func (.func 77) #[] #[.pointer (some ⟨w.heap.size, 0, none⟩)]) ∧ w.alloc (.cells #[.string s] 9) = w' := by
  go_enter Try.func71, Try.ntmps71
  go_wp2
  go_ret
  exact ⟨rfl, rfl⟩

def endOf (pre : List PR) : Int := match pre.getLast? with | none => 0 | some x => (x.1.1 : Int) + ((enc x.1.2).length : Int)
theorem endOf_snoc (pre : List PR) (x : PR) : endOf (pre ++ [x]) = (x.1.1 : Int) + ((enc x.1.2).length : Int) := by simp [endOf]
theorem endOf_all (rs : List Int) (xs : List PR) (h : IsPairs rs rs.length xs) : endOf xs = ((encAll rs).length : Int) := by
  by_cases h0 : rs.length = 0
  · have hr : rs = [] := List.eq_nil_of_length_eq_zero h0
    have hx : xs = [] := List.eq_nil_of_length_eq_zero (by rw [h.1, h0])
    subst hr; subst hx; rfl
  · obtain ⟨k, hk⟩ : ∃ k, rs.length = k + 1 := ⟨rs.length - 1, by omega⟩
    obtain ⟨x, hx, hx2⟩ := h.2 k (by omega)
    have hl : xs.getLast? = some x := by rw [List.getLast?_eq_getElem?, h.1, hk]; exact hx
    unfold endOf
    rw [hl]
    simp only [hx2]
    have := pl_succ rs k (by omega)
    rw [← hk, pl_full rs rs.length (Nat.le_refl _)] at this
    rw [this]; simp

set_option maxRecDepth 100000 in
set_option maxHeartbeats 1000000 in
theorem where_any (s : ByteArray) (w : World) (hs : s.size ≤ 1099511627776) :
    Calls Try.prog 66 #[.string s] w fun e w' => e = .returned (.int .i64 (wh s.data.toList : Nat)) ∧ Below w.heap.size w w' := by
  refine (callsIn_wide (n := 9)).1 ?_
  refine callsIn_of_wp_marks Try.func66 rfl trivial ?_ rfl
  simp only [Try.ntmps66, List.size_toArray, List.length_cons, List.length_nil, Nat.reduceAdd, Nat.reduceSub, Array.replicate_succ, Array.replicate_zero, List.push_toArray, List.append_toArray, List.nil_append, List.cons_append]
  gi_wp2_with (refine ⟨trivial, ?_⟩; gi_at_call 71; refine (callsIn_wide.2 (runesF_any _ _)).mono ?_; rintro e w' ⟨rfl, rfl⟩)
  have hb := (Boxed.new (w.alloc (.cells #[.int .i64 0] 3)) 9 (.string s)).cell
  rw [World.size_alloc] at hb
  have he := Boxed.new w 3 (.int .i64 0)
  refine wpIn_rangeFunc_ownF (F := Fence.wide) (n := 9) rfl (by omega) (gf := 77) (lb := #[.pointer (some ⟨w.heap.size + 1, 0, none⟩)]) rfl trivial (enters_of Try.func77 (by kernel_rfl) rfl)
    (runes_stops 8 (by omega) (w.heap.size + 1) s hs _ hb) keepsB_t (keepsB_b (by simp)) (Below.refl _ _) (fun _ => rfl)
    (fun pre W => Boxed W w.heap.size 3 (.int .i64 (endOf pre)) ∧ (endOf pre ≤ 1099511627780 ∧ 0 ≤ endOf pre) ∧ Below w.heap.size w W)
    (fun _ _ _ => False) ?hI (fun _ _ _ _ _ h _ _ => h) ?h0 ?a1 ?assign ?body ?done ?stop
  case hI => exact OwnFrom.and (Own.from (boxed_own _ _ _) _) (OwnFrom.and (ownFrom_pure _ _) (ownFrom_below (Nat.le_refl _) (by simp; omega)))
  case h0 => exact ⟨he.alloc _, ⟨by decide, by decide⟩, ((Below.refl _ w).alloc (Nat.le_refl _) _).alloc (by simp) _⟩
  case assign =>
    intro l x W K hK
    simp only [prV]
    gi_wp2
    exact hK
  case body =>
    rintro l pre x W ⟨hbx, _, hbel⟩ _
    have hc := hbx.cell
    have hf := hbx.frozen
    have hs := endOf_snoc pre x
    have hle := enc_le x.1.2
    have hx1 := x.2.1
    have hsz := size_len x.1.2 x.2.2
    have Hs := Lib.hid hs
    have Hz := Lib.hid hsz
    clear hs hsz
    gi_wp2_with (refine ⟨trivial, ?_⟩; gi_at_call 72; refine (CallsIn.inRound l (callsIn_wide.2 (size_any _ _))).mono ?_; rintro e w' ⟨rfl, rfl⟩; rw [Hz.out])
    exact ⟨KeepsOthers.setCell _ _ _, keepsB_set _ _ _ (by simp), by rw [Hs.out]; exact hbx.set _, ⟨by rw [Hs.out]; omega, by rw [Hs.out]; omega⟩, hbel.setCell (p := ⟨w.heap.size, 0, none⟩) (Nat.le_refl _) _⟩
  case done =>
    rintro D xs W hD hS ⟨hbx, _, hbel⟩ hK
    have hc := hbx.cell
    have hend := Lib.hid (endOf_all _ xs hS)
    gi_wp2
    refine ⟨by simp, .inl ⟨_, _, rfl, run_takeDeferred hK, ?_⟩⟩
    exact ⟨_, results_tmp (t := 2) rfl _ _ _, (by show Ending.returned (.int .i64 (endOf xs)) = _; exact ret1 hend.out), hbel.trans (belowK_b (w := w) (Nat.le_refl _) W D _ _ (by simp at hD; omega) hK rfl rfl)⟩
  case stop =>
    rintro D c pre W _ _ h _
    exact h.elim
end Go.Proofs.Ytienfppidmjfpaa.Utf
