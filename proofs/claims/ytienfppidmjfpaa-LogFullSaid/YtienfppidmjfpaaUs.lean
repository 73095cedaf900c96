/-
  The iterator utf.Runes: which places and runes it goes over.
-/
import Derived.Test.YtienfppidmjfpaaUr
import Derived.Test.YtienfppidmjfpaaUq
namespace Go.Proofs.Ytienfppidmjfpaa.Utf
open Go.RowKit Go.Shelf Go.Proofs.Ytienfppidmjfpaa.Mem
attribute [local go_sem] Oper.semAt_some

theorem ext_dropS (s : ByteArray) (m : Nat) : (s.extract m s.size).data.toList = s.data.toList.drop m := by
  have := ext_drop s.data.toList m
  rw [len_data] at this
  simpa using this
theorem ext_sizeS (s : ByteArray) (m : Nat) : (s.extract m s.size).size = s.size - m := by
  rw [← len_data, ext_dropS, List.length_drop, len_data]
/-- Block b lies as it lay. -/
def KeepsB (b : Nat) (W W' : World) : Prop := W'.heap[b]? = W.heap[b]?
theorem keepsB_t {b : Nat} {A B C : World} (h : KeepsB b A B) (k : KeepsB b B C) : KeepsB b A C := Eq.trans k h
theorem keepsB_b {b : Nat} {w : World} (hb : b < w.heap.size) (W : World) (l : Nat) (o o' : Obj) (hl : w.heap.size ≤ l) (_ : W.heap[l]? = some o) (_ : o.isCells = false) (_ : o.isWalk = false) : KeepsB b W (W.putObj l o') :=
  World.putObj_heap_other (by omega)
theorem keepsB_below {b : Nat} {W W' : World} (h : Below W.heap.size W W') (hb : b < W.heap.size) : KeepsB b W W' := h.block b hb
theorem keepsB_set {b : Nat} (W : World) (p : Addr) (v : Value) (h : b ≠ p.block) : KeepsB b W (W.setCell p v) := Below.heap_setCell W p v b h
theorem isPairs_snoc {rs : List Int} {k : Nat} {pre : List PR} {x : PR} (h : IsPairs rs k pre) (hx : x.1 = (pl rs k, rs[k]?.getD 0)) : IsPairs rs (k + 1) (pre ++ [x]) := by
  refine ⟨by simp [h.1], fun j hj => ?_⟩
  by_cases hjk : j < k
  · obtain ⟨y, hy, hy2⟩ := h.2 j hjk
    exact ⟨y, by rw [List.getElem?_append_left (by rw [h.1]; exact hjk)]; exact hy, hy2⟩
  · obtain rfl : j = k := by omega
    exact ⟨x, by rw [← h.1]; simp, hx⟩

set_option maxRecDepth 100000 in
set_option maxHeartbeats 1000000 in
theorem runes1_in (n : Nat) (hn : 1 ≤ n) (l Bn : Nat) (s : ByteArray) (hs : s.size ≤ 1099511627776) (J Jx : List PR → World → Prop)
    (hY : ∀ pre x W, J pre W → pre.length < (runes s.data.toList).length → YieldAt Fence.wide (n - 1) Try.prog l (prV x) W fun e W' =>
      (e = .returned (.bool true) ∧ J (pre ++ [x]) W' ∧ KeepsB Bn W W') ∨ (e = .returned (.bool false) ∧ Jx (pre ++ [x]) W'))
    (W : World) (hBn : W.cell? ⟨Bn, 0, none⟩ = some (.string s)) (h0 : J [] W) :
    CallsIn Fence.wide n Try.prog 77 #[.func (.yield l) #[] #[], .pointer (some ⟨Bn, 0, none⟩)] W fun e W' => (∃ v, e = .returned v) ∧
      ((∃ xs, IsPairs (runes s.data.toList) (runes s.data.toList).length xs ∧ J xs W') ∨ (∃ pre, (∃ k, 1 ≤ k ∧ k ≤ (runes s.data.toList).length ∧ IsPairs (runes s.data.toList) k pre) ∧ Jx pre W')) := by
  have hsz := len_data s
  have HS := Lib.hid hsz
  have hRm := Lib.hid (runes_may s.data.toList)
  have hNx := Lib.hid (fun k => nx_at s.data.toList k)
  have hLast := Lib.hid (nx_last s.data.toList)
  have hwl := wh_le s.data.toList
  unfold wh at hLast hwl
  have hpl := Lib.hid (fun k => pl_le (runes s.data.toList) k)
  have hpf := Lib.hid (pl_full (runes s.data.toList) (runes s.data.toList).length (Nat.le_refl _))
  have hps := Lib.hid (fun k => pl_succ (runes s.data.toList) k)
  rw [hsz] at hwl
  clear hsz
  have hJ := Lib.hid hY
  clear hY
  generalize hrs : runes s.data.toList = rs at *
  have Hrs := Lib.hid hrs
  clear hrs
  refine callsIn_of_wp Try.func77 rfl trivial ?_ rfl
  simp only [Try.ntmps77, List.size_toArray, List.length_cons, List.length_nil, Nat.reduceAdd, Nat.reduceSub, Array.replicate_succ, Array.replicate_zero, List.push_toArray, List.append_toArray, List.nil_append, List.cons_append]
  gi_wp2
  gi_loopw [3] (fun p wr => ∃ (k : Nat) (pre : List PR), k ≤ rs.length ∧ p = .int .i64 ((pl rs k : Nat) : Int) ∧ IsPairs rs k pre ∧ J pre wr ∧ wr.cell? ⟨Bn, 0, none⟩ = some (.string s)) (fun p _ => s.size - (intOf p).toNat)
  case atStart => exact ⟨0, [], Nat.zero_le _, rfl, ⟨rfl, fun j hj => by omega⟩, h0, hBn⟩
  case round =>
    obtain ⟨k, pre, hk, rfl, hp, hj, hcell⟩ := hrel
    by_cases hkr : k < rs.length
    · obtain ⟨hx, hlt2⟩ := hNx.out k hkr
      rw [HS.out] at hlt2
      have Hx := Lib.hid hx
      clear hx
      have hmr := hRm.out (rs[k]?.getD 0) (by rw [List.getElem?_eq_getElem hkr]; exact List.getElem_mem _)
      have Hps := Lib.hid (hps.out k hkr)
      have hle := enc_le (rs[k]?.getD 0)
      have hpo := enc_pos (rs[k]?.getD 0)
      have hple := hpl.out (k + 1)
      rw [Hps.out] at hple
      obtain ⟨x, hx⟩ : ∃ x : PR, x.1 = (pl rs k, rs[k]?.getD 0) := ⟨⟨(pl rs k, rs[k]?.getD 0), ⟨by dsimp only; omega, hmr⟩⟩, rfl⟩
      have hY := hJ.out pre x wr hj (by rw [hp.1]; exact hkr)
      obtain ⟨x, hx2⟩ := x
      dsimp only at hx
      subst hx
      obtain ⟨fn, tmps, assign, body, hy, hR⟩ := hY
      dsimp only [prV] at hy
      have HR := Lib.hid hR
      clear hR
      have hd := Lib.hid (ext_dropS s (pl rs k))
      have he := ext_sizeS s (pl rs k)
      generalize hr : rs[k]?.getD 0 = r at *
      have Hr := Lib.hid hr
      clear hr
      generalize hq : (enc r).length = q at *
      have Hq := Lib.hid hq
      clear hq
      gi_wp2_with (refine ⟨trivial, ?_⟩; gi_at_call 78; refine (callsIn_wide.2 (next_ok _ _ (by unfold maxLen; omega))).mono ?_; rintro e w' ⟨rfl, rfl⟩; rw [hd.out, Hx.out])
      refine HR.out.mono ?_
      rintro e W' (⟨rfl, hJ', hk'⟩ | ⟨rfl, hJx'⟩)
      · have hc' := (World.cell?_of_block (a := ⟨Bn, 0, none⟩) hk').trans hcell
        gi_wp2
        go_roundw
        case rel => exact ⟨k + 1, pre ++ [_], by omega, by rw [Hps.out]; simp, isPairs_snoc hp (by simp [Hr.out]), hJ', hc'⟩
        case measure => simp [intOf]; omega
      · gi_wp2
        refine bodyPost_ret (results_none rfl _ _ _) rfl ?_
        exact ⟨⟨_, rfl⟩, .inr ⟨pre ++ [_], ⟨k + 1, by omega, by omega, isPairs_snoc hp (by simp [Hr.out])⟩, hJx'⟩⟩
    · obtain rfl : k = rs.length := by omega
      have hL := hLast.out
      rw [← hpf.out] at hL hwl
      have HL := Lib.hid hL
      clear hL
      have hd := Lib.hid (ext_dropS s (pl rs rs.length))
      have he := ext_sizeS s (pl rs rs.length)
      have hend : (∃ v, Ending.returned (.tuple #[]) = .returned v) ∧ ((∃ xs, IsPairs rs rs.length xs ∧ J xs wr) ∨ (∃ pre, (∃ k, 1 ≤ k ∧ k ≤ rs.length ∧ IsPairs rs k pre) ∧ Jx pre wr)) := ⟨⟨_, rfl⟩, .inl ⟨pre, hp, hj⟩⟩
      have Hend := Lib.hid hend
      clear hend hk hkr
      generalize pl rs rs.length = p at *
      by_cases hps' : p < s.size
      · gi_wp2_with (refine ⟨trivial, ?_⟩; gi_at_call 78; refine (callsIn_wide.2 (next_ok _ _ (by unfold maxLen; omega))).mono ?_; rintro e w' ⟨rfl, rfl⟩; rw [hd.out, HL.out])
        refine ⟨fun _ h => (by cases h), ?_⟩
        gi_wp2
        refine bodyPost_ret (results_none rfl _ _ _) rfl ?_
        exact Hend.out
      · gi_wp2
        go_end0
        exact Hend.out
end Go.Proofs.Ytienfppidmjfpaa.Utf
