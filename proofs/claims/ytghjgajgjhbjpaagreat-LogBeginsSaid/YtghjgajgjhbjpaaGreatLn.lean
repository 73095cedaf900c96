/-
  Logs: is, sum, Size, End, Len, Base, New.
-/
import Derived.BigQuiet
import Derived.Test.YtghjgajgjhbjpaaGreatLm
namespace Go.Proofs.YtghjgajgjhbjpaaGreat.Msg
open Go.RowKit Go.Lib Go.Proofs.YtghjgajgjhbjpaaGreat.Mem Go.Proofs.YtghjgajgjhbjpaaGreat.Tlv

/-- Requests as cells. -/
def reqV (l : List RV) : List Value := l.flatMap fun r => r.cells.toList
theorem reqV_len (l : List RV) : (reqV l).length = l.length * 9 := by
  induction l with
  | nil => rfl
  | cons x l ih => simp only [reqV, List.flatMap_cons, List.length_append, List.length_cons] at ih ⊢; rw [ih]; simp [RV.cells]; omega
theorem reqV_at (l : List RV) (k : Nat) (y : RV) (h : l[k]? = some y) (i : Nat) (hi : i < 9) : (reqV l)[k * 9 + i]? = y.cells[i]? := by
  induction l generalizing k with
  | nil => simp at h
  | cons z xs ih =>
    have hz : z.cells.toList.length = 9 := by simp [RV.cells]
    cases k with
    | zero =>
      rw [List.getElem?_cons_zero, Option.some.injEq] at h
      subst h
      simp only [reqV, List.flatMap_cons]
      rw [List.getElem?_append_left (by omega)]
      simp
    | succ k =>
      rw [List.getElem?_cons_succ] at h
      have h1 := ih k h
      simp only [reqV, List.flatMap_cons] at h1 ⊢
      rw [List.getElem?_append_right (by omega), hz, ← h1]
      congr 1
      omega
def intV (l : List Int) : List Value := l.map (Value.int .i64)
theorem intV_len (l : List Int) : (intV l).length = l.length := by simp [intV]

/-- A log at g. -/
structure LogR (b : Bool) (g : Nat) (base : Int) (n : Nat) (lo : Option Addr) (lc : Nat) (so : Option Addr) (sc : Nat) (rs : List RV) (zs : List Int) (W : World) : Prop where
  at_ : W.heap[g]? = some (.cells #[.bool b, .int .u64 base, .slice lo n lc, .slice so n sc] 84)
  rl : Rd W 9 lo n lc (reqV rs)
  rz : Rd W 1 so n sc (intV zs)
theorem LogR.later {b : Bool} {g : Nat} {base : Int} {n : Nat} {lo : Option Addr} {lc : Nat} {so : Option Addr} {sc : Nat} {rs : List RV} {zs : List Int} {W W' : World} (h : LogR b g base n lo lc so sc rs zs W) (hb : Below W.heap.size W W') : LogR b g base n lo lc so sc rs zs W' :=
  ⟨(hb.block g (Array.getElem?_eq_some_iff.1 h.at_).1).trans h.at_, h.rl.later hb, h.rz.later hb⟩
theorem LogR.cells {b : Bool} {g : Nat} {base : Int} {n : Nat} {lo : Option Addr} {lc : Nat} {so : Option Addr} {sc : Nat} {rs : List RV} {zs : List Int} {W : World} (h : LogR b g base n lo lc so sc rs zs W) :
    W.cell? ⟨g, 0, none⟩ = some (.bool b) ∧ W.cell? ⟨g, 1, none⟩ = some (.int .u64 base) ∧ W.cell? ⟨g, 2, none⟩ = some (.slice lo n lc) ∧ W.cell? ⟨g, 3, none⟩ = some (.slice so n sc) ∧ ∀ i, W.frozen? ⟨g, i, none⟩ = false := by
  have := h.at_
  simp [World.cell?, World.frozen?, this]

theorem neq_some (g : Nat) (w : World) : Sem.run Tryz.prog (binOp BinOp.neq 27 (.pointer (some ⟨g, 0, none⟩)) (.pointer none)) w = .ok (.bool true) w := by kernel_rfl
theorem neq_none (w : World) : Sem.run Tryz.prog (binOp BinOp.neq 27 (.pointer none) (.pointer none)) w = .ok (.bool false) w := by kernel_rfl
theorem eql_some (g : Nat) (w : World) : Sem.run Tryz.prog (binOp BinOp.eql 27 (.pointer (some ⟨g, 0, none⟩)) (.pointer none)) w = .ok (.bool false) w := by kernel_rfl
theorem eql_none (w : World) : Sem.run Tryz.prog (binOp BinOp.eql 27 (.pointer none) (.pointer none)) w = .ok (.bool true) w := by kernel_rfl

section
variable (b : Bool) (g : Nat) (base : Int) (n : Nat) (lo : Option Addr) (lc : Nat) (so : Option Addr) (sc : Nat) (rs : List RV) (zs : List Int)
theorem is_any (w : World) (h : LogR b g base n lo lc so sc rs zs w) : Calls Tryz.prog 55 #[.pointer (some ⟨g, 0, none⟩)] w fun e w' => e = .returned (.bool b) ∧ w' = w := by
  obtain ⟨c0, c1, c2, c3, -⟩ := h.cells
  have hp := neq_some g w
  go_enter Tryz.func55, Tryz.ntmps55
  go_wp2_with fail
  go_ret
  exact ⟨rfl, rfl⟩
theorem is_nil (w : World) : Calls Tryz.prog 55 #[.pointer none] w fun e w' => e = .returned (.bool false) ∧ w' = w := by
  have hp := neq_none w
  go_enter Tryz.func55, Tryz.ntmps55
  go_wp2_with fail
  go_ret
  exact ⟨rfl, rfl⟩

theorem sum_next (l : List Int) (k : Nat) (z : Int) (h : l[k]? = some z) : (l.take (k + 1)).sum = (l.take k).sum + z := by
  obtain ⟨hl, e⟩ := List.getElem?_eq_some_iff.1 h
  rw [List.take_succ_eq_append_getElem hl, e]
  simp
theorem sum_le (l : List Int) (hz : ∀ z ∈ l, 0 ≤ z ∧ z ≤ 5000000) : 0 ≤ l.sum ∧ l.sum ≤ l.length * 5000000 := by
  induction l with
  | nil => simp
  | cons a l ih =>
    have h1 := hz a (by simp)
    have h2 := ih (fun z h => hz z (List.mem_cons_of_mem _ h))
    simp only [List.sum_cons, List.length_cons]
    omega

set_option maxRecDepth 100000 in
set_option maxHeartbeats 1000000 in
theorem sum_any (w : World) (h : Rd w 1 so n sc (intV zs)) (hn : n ≤ 1000000) (hz : ∀ z ∈ zs, 0 ≤ z ∧ z ≤ 5000000) : Calls Tryz.prog 104 #[.slice so n sc] w fun e w' => e = .returned (.int .i64 zs.sum) ∧ w' = w := by
  have lx : zs.length = n := by have := h.1; rw [intV_len] at this; omega
  have LX := Lib.hid lx
  have HZ := Lib.hid hz
  clear lx hz
  go_enter Tryz.func104, Tryz.ntmps104
  go_wp2_with fail
  go_loopw [2, 7] (fun s p wr => ∃ k : Nat, k ≤ n ∧ s = .int .i64 (zs.take k).sum ∧ p = .int .i64 (k : Int) ∧ wr = w) (fun _ p _ => n - (intOf p).toNat)
  case atStart => exact ⟨0, Nat.zero_le _, rfl, rfl, rfl⟩
  case round =>
    obtain ⟨k, hk, rfl, rfl, rfl⟩ := hrel
    by_cases hkn : k < n
    · obtain ⟨b1, o1, rfl, hl1, hc1⟩ := h.some (by have := h.le; omega)
      obtain ⟨z, hu⟩ : ∃ z, zs[k]? = some z := ⟨_, List.getElem?_eq_getElem (by rw [LX.out]; exact hkn)⟩
      have c1 := hc1 k (.int .i64 z) (by simp [intV, hu])
      have i0 : (0 : Int) ≤ (k : Int) := by omega
      have i1 : (k : Int) < (n : Int) := by omega
      have Hn := Lib.hid (sum_next zs k z hu)
      have hs1 := sum_le (zs.take (k + 1)) (fun z h => HZ.out z (List.mem_of_mem_take h))
      rw [Hn.out] at hs1
      have hle : (zs.take (k + 1)).length ≤ 1000000 := by rw [List.length_take]; omega
      have hwr : IntKind.wrap .i64 ((zs.take k).sum + z) = (zs.take k).sum + z := by rw [IntKind.wrap_i64]; omega
      clear hs1 hle
      go_wp2_with fail
      go_roundw
      case rel => exact ⟨k + 1, by omega, congrArg (Value.int .i64) Hn.out.symm, by go_num, trivial⟩
      case measure => simp [intOf]; omega
    · have hkn2 : k = n := by omega
      have Hs : Hid ((zs.take k).sum = zs.sum) := Lib.hid (by rw [List.take_of_length_le (by rw [LX.out]; omega)])
      rw [Hs.out]
      subst hkn2
      go_wp2_with fail
      go_ret
      exact ⟨rfl, rfl⟩
theorem size_any (w : World) (h : LogR b g base n lo lc so sc rs zs w) (hn : n ≤ 1000000) (hz : ∀ z ∈ zs, 0 ≤ z ∧ z ≤ 5000000) : Calls Tryz.prog 43 #[.pointer (some ⟨g, 0, none⟩)] w fun e w' => e = .returned (.int .i64 zs.sum) ∧ w' = w := by
  obtain ⟨c0, c1, c2, c3, -⟩ := h.cells
  have hp := eql_some g w
  go_enter Tryz.func43, Tryz.ntmps43
  go_wp2_with fail
  refine (sum_any n so sc zs w h.rz hn hz).mono ?_
  rintro e w1 ⟨rfl, rfl⟩
  go_wp2_with fail
  go_ret
  exact ⟨rfl, rfl⟩
theorem size_nil (w : World) : Calls Tryz.prog 43 #[.pointer none] w fun e w' => e = .returned (.int .i64 0) ∧ w' = w := by
  have hp := eql_none w
  go_enter Tryz.func43, Tryz.ntmps43
  go_wp2_with fail
  go_ret
  exact ⟨rfl, rfl⟩
theorem len_any (w : World) (h : LogR b g base n lo lc so sc rs zs w) : Calls Tryz.prog 54 #[.pointer (some ⟨g, 0, none⟩)] w fun e w' => e = .returned (.int .i64 (n : Int)) ∧ w' = w := by
  obtain ⟨c0, c1, c2, c3, -⟩ := h.cells
  have hp := eql_some g w
  go_enter Tryz.func54, Tryz.ntmps54
  go_wp2_with fail
  go_ret
  exact ⟨rfl, rfl⟩
theorem len_nil (w : World) : Calls Tryz.prog 54 #[.pointer none] w fun e w' => e = .returned (.int .i64 0) ∧ w' = w := by
  have hp := eql_none w
  go_enter Tryz.func54, Tryz.ntmps54
  go_wp2_with fail
  go_ret
  exact ⟨rfl, rfl⟩
theorem base_any (w : World) (h : LogR b g base n lo lc so sc rs zs w) : Calls Tryz.prog 51 #[.pointer (some ⟨g, 0, none⟩)] w fun e w' => e = .returned (.int .u64 base) ∧ w' = w := by
  obtain ⟨c0, c1, c2, c3, -⟩ := h.cells
  have hp := eql_some g w
  go_enter Tryz.func51, Tryz.ntmps51
  go_wp2_with fail
  go_ret
  exact ⟨rfl, rfl⟩
theorem base_nil (w : World) : Calls Tryz.prog 51 #[.pointer none] w fun e w' => e = .returned (.int .u64 0) ∧ w' = w := by
  have hp := eql_none w
  go_enter Tryz.func51, Tryz.ntmps51
  go_wp2_with fail
  go_ret
  exact ⟨rfl, rfl⟩
set_option maxRecDepth 100000 in
theorem end_any (w : World) (h : LogR b g base n lo lc so sc rs zs w) (hn : n ≤ 1000000) (h0 : 0 ≤ base) (h1 : base ≤ 9000000000000000000) : Calls Tryz.prog 52 #[.pointer (some ⟨g, 0, none⟩)] w fun e w' => e = .returned (.int .u64 (base + n)) ∧ ∃ q, w' = w.drewN q := by
  obtain ⟨c0, c1, c2, c3, -⟩ := h.cells
  have hp := eql_some g w
  have hw1 : IntKind.wrap .u64 (n : Int) = (n : Int) := by show (n : Int) % 18446744073709551616 = n; omega
  have hw2 : IntKind.wrap .u64 (base + (n : Int)) = base + (n : Int) := by show (base + (n : Int)) % 18446744073709551616 = base + n; omega
  go_enter Tryz.func52, Tryz.ntmps52
  go_wp2_with fail
  go_quiet (fail)
  go_wp2
  go_ret
  exact ⟨rfl, _, rfl⟩
theorem end_nil (w : World) : Calls Tryz.prog 52 #[.pointer none] w fun e w' => e = .returned (.int .u64 0) ∧ ∃ q, w' = w.drewN q := by
  have hp := eql_none w
  go_enter Tryz.func52, Tryz.ntmps52
  go_wp2_with fail
  go_ret
  exact ⟨rfl, 0, rfl⟩
end
end Go.Proofs.YtghjgajgjhbjpaaGreat.Msg
