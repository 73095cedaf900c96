/-
  The writer's lists: each item is one value.
-/
import Derived.Test.YtienfppidmjfpaaVo
namespace Go.Proofs.Ytienfppidmjfpaa.Tlv
open Go.RowKit Go.Proofs.Ytienfppidmjfpaa.Mem

/-- What a list's function puts, item by item. -/
def allIt (it : Nat → List UInt8) (k : Nat) : List UInt8 := (List.range k).flatMap it
theorem allIt_succ (it : Nat → List UInt8) (k : Nat) : allIt it (k + 1) = allIt it k ++ it k := by simp [allIt, List.range_succ]

theorem allIt_mono (it : Nat → List UInt8) {j k : Nat} (h : j ≤ k) : (allIt it j).length ≤ (allIt it k).length := by
  induction k with
  | zero =>
    obtain rfl : j = 0 := by omega
    exact Nat.le_refl _
  | succ k ih =>
    by_cases hj : j = k + 1
    · subst hj; exact Nat.le_refl _
    · have := ih (by omega)
      rw [allIt_succ, List.length_append]; omega

set_option maxRecDepth 100000 in
set_option maxHeartbeats 2000000 in
theorem wlist_ok (B g : Nat) (s : WS) (t : UInt8) (n : Nat) (f : FuncId) (caps : Array Value) (it : Nat → List UInt8) (W : World) (hw : WrS B g s W) (hs : s.bad = 0) (hn : n ≤ 1000000)
    (hf : ∀ args w, (callFunc f args).run Try.prog w = .ok (.enter f args) w)
    (hone : ∀ i, i < n → manyOf (it i) = 1 ∧ 0 < (it i).length) (hlen : (allIt it n).length ≤ 4194304) (hl : s.l.length ≤ 100000000)
    (hput : ∀ i W', i < n → Below W.heap.size W W' → WrS W.heap.size W.heap.size ⟨allIt it i, 0⟩ W' →
      Calls Try.prog f (#[.pointer (some ⟨W.heap.size, 0, none⟩), .int .i64 (i : Int)] ++ caps) W' fun e w' => (∃ r, e = .returned r) ∧ WrS W.heap.size W.heap.size ⟨allIt it (i + 1), 0⟩ w' ∧ Below W.heap.size W' w') :
    Calls Try.prog 63 #[.pointer (some ⟨g, 0, none⟩), .int .u8 (t.toNat : Int), .int .i64 (n : Int), .func (.func f) #[] caps] W (Turns B g (s.put t (allIt it n)) W) := by
  have hws := hw
  obtain ⟨v, hw⟩ := hw
  obtain ⟨l, bad⟩ := s
  dsimp only at hw hs hl
  subst hs
  have hat := hw.at_
  have c1 : W.cell? ⟨g, 1, none⟩ = some (.int .i64 0) := by simp [World.cell?, hat]
  have hpe : ∀ (w : World), Sem.run Try.prog (binOp BinOp.eql 76 (.pointer (some ⟨g, 0, none⟩)) (.pointer none)) w = .ok (.bool false) w := fun _ => by kernel_rfl
  have hfn : ∀ (w : World), Sem.run Try.prog (binOp BinOp.neq 99 (.func (.func f) #[] caps) .nilFunc) w = .ok (.bool true) w := fun _ => by kernel_rfl
  have hnew : WrS W.heap.size W.heap.size ⟨[], 0⟩ (W.alloc (.cells #[.slice none 0 0, .int .i64 0] 78)) := ⟨_, ⟨by show (W.heap.push _)[W.heap.size]? = some _; simp, Nat.le_refl _, World.ownsRow_nil _ _ _ _⟩⟩
  have hb0 : Below W.heap.size W (W.alloc (.cells #[.slice none 0 0, .int .i64 0] 78)) := (Below.refl _ W).alloc (Nat.le_refl _) _
  have Hput := Lib.hid hput
  have Hone := Lib.hid hone
  clear hput hone
  have hnn : decide ((n : Int) < 0) = false := decide_eq_false (by omega)
  go_enter Try.func63, Try.ntmps63
  go_wp2_with fail
  go_step3
  go_wp2_with fail
  go_step3
  go_wp2_with fail
  go_loopw [29] (fun p wr => ∃ k : Nat, k ≤ n ∧ p = .int .i64 (k : Int) ∧ WrS W.heap.size W.heap.size ⟨allIt it k, 0⟩ wr ∧ Below W.heap.size W wr) (fun p _ => (n - intOf p).toNat)
  case atStart => exact ⟨0, by omega, rfl, hnew, hb0⟩
  case round =>
    obtain ⟨k, hk, rfl, hwr, hbr⟩ := hrel
    obtain ⟨vi, hwi⟩ := hwr
    have hati := hwi.at_
    have d0 : wr.cell? ⟨W.heap.size, 0, none⟩ = some vi := by simp [World.cell?, hati]
    have d1 : wr.cell? ⟨W.heap.size, 1, none⟩ = some (.int .i64 0) := by simp [World.cell?, hati]
    obtain ⟨aoi, capi, rfl, hri⟩ := Rd.of_own hwi.own
    by_cases hkn : k = n
    · have f0 : decide ((k : Int) < (n : Int)) = false := decide_eq_false (by omega)
      subst hkn
      go_wp2_with fail
      have hdis : 0 < capi → ∀ a, aoi = some a → ∀ v', WrAt B g l 0 v' wr → some a.block ≠ v'.ownBlock := by
        intro _ a ha v' hv'
        subst ha
        refine fresh_dis hws hbr ?_ hv'
        rcases hwi.own.2 with ⟨h, _⟩ | ⟨g', c, cur, h, hg, _⟩
        · cases h
        · have := (Value.slice.inj h).1; cases this; exact hg
      refine (wput_any B g ⟨l, 0⟩ t _ aoi _ capi wr (hws.later hbr) hl hlen hri hdis).mono ?_
      rintro e w' h
      obtain ⟨rfl, h2⟩ := h.after hws.le hbr
      go_wp2
      rw [Exit.noGoto_ret]
      go_ret
      exact ⟨rfl, h2⟩
    · have f0 : decide ((k : Int) < (n : Int)) = true := decide_eq_true (by omega)
      have hkl : k < n := by omega
      go_wp2_with fail
      refine (Hput.out k wr hkl hbr ⟨_, hwi⟩).mono ?_
      rintro e w1 ⟨⟨r, rfl⟩, ⟨vj, hwj⟩, hb1⟩
      have hatj := hwj.at_
      have d2 : w1.cell? ⟨W.heap.size, 0, none⟩ = some vj := by simp [World.cell?, hatj]
      have d3 : w1.cell? ⟨W.heap.size, 1, none⟩ = some (.int .i64 0) := by simp [World.cell?, hatj]
      obtain ⟨hm1, hpos⟩ := Hone.out k hkl
      have hsucc := allIt_succ it k
      have hln : (allIt it (k + 1)).length = (allIt it k).length + (it k).length := by rw [hsucc, List.length_append]
      have hle : (allIt it (k + 1)).length ≤ 4194304 := Nat.le_trans (allIt_mono it (by omega)) hlen
      obtain ⟨bj, capj, rfl⟩ : ∃ bj capj, vj = .slice (some ⟨bj, 0, none⟩) (allIt it (k + 1)).length capj := by
        obtain ⟨q, hq⟩ : ∃ q, (allIt it (k + 1)).length = q + 1 := ⟨(allIt it (k + 1)).length - 1, by omega⟩
        have ho := hwj.own
        dsimp only at ho
        rw [hq] at ho ⊢
        exact ownsRow_succ ho
      have hrj := Rd.of_own_slice hwj.own
      dsimp only at hrj
      have hcj := hrj.le
      have hrs := rd_drop hrj (f := (allIt it k).length) (by omega)
      rw [hsucc, List.drop_left, ← hsucc, Nat.zero_add] at hrs
      have Hm1 := Lib.hid hm1
      have Hsucc := Lib.hid hsucc
      clear hm1 hsucc
      have i0 : (0 : Int) ≤ ((allIt it k).length : Int) := by omega
      have i1 : ((allIt it k).length : Int) ≤ ((allIt it (k + 1)).length : Int) := by omega
      have i2 : ((allIt it k).length : Int) ≤ (capj : Int) := by omega
      have i3 : ¬ capj - (allIt it k).length = 0 := by omega
      have Hln := Lib.hid hln
      clear hln
      go_wp2_with fail
      refine (many_any _ _ _ (it k) w1 (by omega) hrs).mono ?_
      rintro e w2 ⟨rfl, hb2⟩
      rw [Hm1.out]
      have hwj2 := hwj.later hb2
      go_wp2
      go_roundw
      case rel => exact ⟨k + 1, by omega, by go_num, ⟨_, hwj2⟩, hbr.trans (hb1.trans (hb2.mono (Nat.le_trans hbr.size hb1.size)))⟩
      case measure => simp [intOf]; omega
end Go.Proofs.Ytienfppidmjfpaa.Tlv
