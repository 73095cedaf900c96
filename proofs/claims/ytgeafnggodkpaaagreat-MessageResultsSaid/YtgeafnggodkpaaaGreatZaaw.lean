/-
  A part of the proof: what this text holds is told at each of its declarations.
-/
import Derived.Test.YtgeafnggodkpaaaGreatZaav
namespace Go.Proofs.YtgeafnggodkpaaaGreat.Tlv
open Go.RowKit Go.Proofs.YtgeafnggodkpaaaGreat.Mem

def RS.bytes (s : RS) (t : UInt8) : List UInt8 × RS := ((s.take t).1.getD [], (s.take t).2)
/-- A number, out of the first bytes. -/
def numK (b : List UInt8) : Nat → Nat
  | 0 => 0
  | k + 1 => numK b k * 256 + (b[k]?.getD 0).toNat
theorem numK_lt (b : List UInt8) : ∀ k, numK b k < 256 ^ k
  | 0 => by simp [numK]
  | k + 1 => by
    have ih := numK_lt b k
    have hc : (b[k]?.getD 0).toNat < 256 := UInt8.toNat_lt _
    rw [numK, Nat.pow_succ]
    omega
def RS.num (s : RS) (t : UInt8) : Nat × RS :=
  match (s.take t).1 with
  | none => (0, (s.take t).2)
  | some b => if b.length = 8 then (numK b 8, (s.take t).2) else (0, ⟨(s.take t).2.l, true⟩)
def RS.flag (s : RS) (t : UInt8) : Bool × RS :=
  match (s.take t).1 with
  | none => (false, (s.take t).2)
  | some b => if b.length = 1 ∧ (b[0]?.getD 0).toNat ≤ 1 then (decide ((b[0]?.getD 0).toNat = 1), (s.take t).2) else (false, ⟨(s.take t).2.l, true⟩)
def RS.tag (s : RS) : UInt8 := if s.bad = true then 0 else if fs s.l = 0 then 0 else (hd1 s.l).1
def RS.ends (s : RS) : Int := if s.bad = true ∨ 0 < s.l.length then 4 else 0

/-- A reader's answer, and its state behind it. -/
def GivesR (B g : Nat) (v : Value) (s : RS) (W : World) (e : Ending) (w' : World) : Prop := e = .returned v ∧ RdS B g s w' ∧ W.grownBy w' (some g)

set_option maxRecDepth 100000 in
theorem rbytes_any (B g : Nat) (s : RS) (t : UInt8) (W : World) (hr : RdS B g s W) (hl : s.l.length ≤ 100000000) : Calls Tryz.prog 52 #[.pointer (some ⟨g, 0, none⟩), .int .u8 (t.toNat : Int)] W fun e w' =>
    ∃ ao cap, e = .returned (.slice ao (s.bytes t).1.length cap) ∧ Rd w' 1 ao (s.bytes t).1.length cap (byV (s.bytes t).1) ∧ RdS B g (s.bytes t).2 w' ∧ W.grownBy w' (some g) := by
  have hc := take_any B g s t W hr hl
  unfold GivesT at hc
  unfold RS.bytes
  generalize s.take t = tk at *
  obtain ⟨ox, s'⟩ := tk
  cases ox with
  | none =>
    go_enter Tryz.func52, Tryz.ntmps52
    go_wp2_with fail
    refine hc.mono ?_
    rintro e w' ⟨h1, h2, rfl⟩
    go_wp2
    go_ret
    exact ⟨none, 0, rfl, Rd.nil _ _, h1, h2⟩
  | some x =>
    go_enter Tryz.func52, Tryz.ntmps52
    go_wp2_with fail
    refine hc.mono ?_
    rintro e w' ⟨h1, h2, ao, cap, rfl, h4, _⟩
    go_wp2
    go_ret
    exact ⟨ao, cap, rfl, h4, h1, h2⟩

set_option maxRecDepth 100000 in
theorem rtext_any (B g : Nat) (s : RS) (t : UInt8) (W : World) (hr : RdS B g s W) (hl : s.l.length ≤ 100000000) : Calls Tryz.prog 48 #[.pointer (some ⟨g, 0, none⟩), .int .u8 (t.toNat : Int)] W
    (GivesR B g (.string ⟨(s.bytes t).1.toArray⟩) (s.bytes t).2 W) := by
  have hc := rbytes_any B g s t W hr hl
  generalize s.bytes t = r at *
  go_enter Tryz.func48, Tryz.ntmps48
  go_wp2_with fail
  refine hc.mono ?_
  rintro e w' ⟨ao, cap, rfl, h1, h2, h3⟩
  have hs := run_strD ao _ cap _ w' h1
  go_wp2
  go_ret
  exact ⟨rfl, h2, h3⟩

set_option maxRecDepth 100000 in
theorem rend_any (B g : Nat) (s : RS) (W : World) (hr : RdS B g s W) : Calls Tryz.prog 53 #[.pointer (some ⟨g, 0, none⟩)] W fun e w' => e = .returned (.int .i64 s.ends) ∧ W = w' := by
  obtain ⟨ao, cap, hr⟩ := hr
  obtain ⟨l, bad⟩ := s
  have hat := hr.at_
  dsimp only at hat
  have c0 : W.cell? ⟨g, 0, none⟩ = some (.slice ao l.length cap) := by simp [World.cell?, hat]
  have c1 : W.cell? ⟨g, 1, none⟩ = some (.bool bad) := by simp [World.cell?, hat]
  have c2 : W.cell? ⟨g, 2, none⟩ = some (.bool true) := by simp [World.cell?, hat]
  have hpe : ∀ (w : World), Sem.run Tryz.prog (binOp BinOp.eql 82 (.pointer (some ⟨g, 0, none⟩)) (.pointer none)) w = .ok (.bool false) w := fun _ => by kernel_rfl
  cases bad with
  | true =>
    go_enter Tryz.func53, Tryz.ntmps53
    go_wp2
    go_ret
    exact ⟨rfl, rfl⟩
  | false =>
    by_cases h0 : 0 < l.length
    · have f0 : decide ((0 : Int) < (l.length : Int)) = true := decide_eq_true (by omega)
      have he : RS.ends ⟨l, false⟩ = 4 := if_pos (.inr h0)
      rw [he]
      go_enter Tryz.func53, Tryz.ntmps53
      go_wp2
      go_ret
      exact ⟨rfl, rfl⟩
    · have f0 : decide ((0 : Int) < (l.length : Int)) = false := decide_eq_false (by omega)
      have he : RS.ends ⟨l, false⟩ = 0 := if_neg (by simp at h0 ⊢; exact h0)
      rw [he]
      go_enter Tryz.func53, Tryz.ntmps53
      go_wp2
      go_ret
      exact ⟨rfl, rfl⟩

set_option maxRecDepth 100000 in
theorem read_any (ao : Option Addr) (n cap : Nat) (l : List UInt8) (W : World) (hr : Rd W 1 ao n cap (byV l)) (hn : n ≤ 1000000000) : Calls Tryz.prog 45 #[.slice ao n cap] W fun e w' =>
    ∃ g, e = .returned (.pointer (some ⟨g, 0, none⟩)) ∧ RdS W.heap.size g ⟨l, false⟩ w' ∧ Below W.heap.size W w' := by
  go_enter Tryz.func45, Tryz.ntmps45
  go_wp2_with fail
  refine (clone_own ao n cap l W hr hn).mono ?_
  rintro e w1 ⟨v1, rfl, ho1, hb1⟩
  obtain ⟨ao1, cap1, rfl, hr1⟩ := Rd.of_own ho1
  go_wp2
  go_ret
  have hb2 : Below w1.heap.size w1 (w1.alloc (.cells #[.slice ao1 l.length cap1, .bool false, .bool true] 146)) := (Below.refl _ _).alloc (Nat.le_refl _) _
  refine ⟨w1.heap.size, rfl, ⟨ao1, cap1, ?_, hb1.size, hr1.later hb2, (Ty8.of_own ho1).later hb2⟩, hb1.trans (hb2.mono hb1.size)⟩
  show (w1.heap.push _)[w1.heap.size]? = some _; simp

set_option maxRecDepth 100000 in
set_option maxHeartbeats 2000000 in
theorem rnum_any (B g : Nat) (s : RS) (t : UInt8) (W : World) (hr : RdS B g s W) (hl : s.l.length ≤ 100000000) : Calls Tryz.prog 83 #[.pointer (some ⟨g, 0, none⟩), .int .u8 (t.toNat : Int)] W
    (GivesR B g (.int .u64 ((s.num t).1 : Int)) (s.num t).2 W) := by
  have hc := take_any B g s t W hr hl
  unfold GivesT at hc
  unfold RS.num
  generalize s.take t = tk at *
  obtain ⟨ox, s'⟩ := tk
  cases ox with
  | none =>
    go_enter Tryz.func83, Tryz.ntmps83
    go_wp2_with fail
    refine hc.mono ?_
    rintro e w' ⟨h1, h2, rfl⟩
    go_wp2
    go_loop [7, 27] (fun v p => v = .int .u64 0 ∧ p = .int .i64 0) (fun _ _ => 0)
    case atStart => exact ⟨rfl, rfl⟩
    case round =>
      obtain ⟨rfl, rfl⟩ := hrel
      go_wp2
      go_ret
      exact ⟨rfl, h1, h2⟩
  | some x =>
    dsimp only at hc ⊢
    by_cases h8 : x.length = 8
    · have hc2 : Calls Tryz.prog 118 #[.pointer (some ⟨g, 0, none⟩), .int .u8 (t.toNat : Int)] W fun e w' => ∃ b o cap, e = .returned (.tuple #[.slice (some ⟨b, o, none⟩) 8 cap, .bool true]) ∧ (∀ k, k < 8 → w'.cell? ⟨b, o + k, none⟩ = some (.int .u8 ((x[k]?.getD 0).toNat : Int))) ∧ RdS B g s' w' ∧ W.grownBy w' (some g) := by
        refine hc.mono ?_
        rintro e w' ⟨h1, h2, ao, cap, rfl, h4, _⟩
        have hle := h4.le
        obtain ⟨b, o, rfl, _, hcc⟩ := h4.some (by omega)
        exact ⟨b, o, cap, by rw [h8], fun k hk => hcc k _ (byV_at x k (by omega)), h1, h2⟩
      rw [if_pos h8]
      have hk := numK_lt x
      have hv : ∀ k : Nat, Hid ((x[k]?.getD 0).toNat < 256) := fun k => UInt8.toNat_lt _
      have hsx : ∀ k : Nat, Hid (numK x (k + 1) = numK x k * 256 + (x[k]?.getD 0).toNat) := fun k => rfl
      clear hc h8
      go_enter Tryz.func83, Tryz.ntmps83
      go_wp2_with fail
      refine hc2.mono ?_
      rintro e w' ⟨b, o, cap, rfl, hcell, h1, h2⟩
      have Hcell := Lib.hid hcell
      have Hk := Lib.hid hk
      clear hcell hk
      go_wp2
      go_loop [7, 27] (fun v p => ∃ k : Nat, k ≤ 8 ∧ v = .int .u64 (numK x k : Int) ∧ p = .int .i64 (k : Int)) (fun _ p => (8 - intOf p).toNat)
      case atStart => exact ⟨0, by omega, rfl, rfl⟩
      case round =>
        obtain ⟨k, hk8, rfl, rfl⟩ := hrel
        by_cases hk9 : k = 8
        · subst hk9
          go_wp2
          go_ret
          exact ⟨rfl, h1, h2⟩
        · have hk7 : k < 8 := by omega
          have hc3 := Hcell.out k hk7
          have hlt := Hk.out k
          have hpow : 256 ^ k ≤ 256 ^ 7 := Nat.pow_le_pow_right (by decide) (by omega)
          have hv1 := (hv k).out
          have hs1 := (hsx k).out
          have Hs1 := Lib.hid hs1
          clear hs1
          generalize numK x k = q at *
          generalize (x[k]?.getD 0).toNat = c at *
          have hq7 : q < 72057594037927936 := Nat.lt_of_lt_of_le hlt hpow
          clear hlt hpow
          have j0 : IntKind.u64.wrap ((q : Int) * 256) = (q : Int) * 256 := by rw [IntWalk.u64_in] <;> omega
          have j1 : bits BinOp.or IntKind.u64 ((q : Int) * 256) (c : Int) = (q : Int) * 256 + (c : Int) := bits_join .u64 64 (by decide) (fun n h0 h1 => by rw [IntWalk.u64_in] <;> omega) 8 _ _ (by omega) (by omega) (by omega) (by omega) (by omega) (by omega)
          go_wp2
          case roundEnd => exact ⟨⟨k + 1, by omega, by rw [Hs1.out]; go_num, by go_num⟩, by simp [intOf]; omega⟩
    · rw [if_neg h8]
      have f8 : ((x.length : Int) != 8) = true := by simp; omega
      go_enter Tryz.func83, Tryz.ntmps83
      go_wp2_with fail
      refine hc.mono ?_
      rintro e w' ⟨⟨ao1, cap1, h1⟩, h2, ao, cap, rfl, _, _⟩
      have hat := h1.at_
      have c1 : w'.cell? ⟨g, 1, none⟩ = some (.bool s'.bad) := by simp [World.cell?, hat]
      have z1 : w'.frozen? ⟨g, 1, none⟩ = false := by simp [World.frozen?, hat]
      go_wp2
      go_ret
      exact ⟨rfl, ⟨ao1, cap1, h1.fail⟩, grown_trans h2 (grown_set _ _ _ _)⟩

set_option maxRecDepth 100000 in
set_option maxHeartbeats 2000000 in
theorem rflag2_any (B g : Nat) (s : RS) (t : UInt8) (W : World) (hr : RdS B g s W) (hl : s.l.length ≤ 100000000) : Calls Tryz.prog 90 #[.pointer (some ⟨g, 0, none⟩), .int .u8 (t.toNat : Int)] W
    (GivesR B g (.bool (s.flag t).1) (s.flag t).2 W) := by
  have hc := take_any B g s t W hr hl
  unfold GivesT at hc
  unfold RS.flag
  generalize s.take t = tk at *
  obtain ⟨ox, s'⟩ := tk
  cases ox with
  | none =>
    go_enter Tryz.func90, Tryz.ntmps90
    go_wp2_with fail
    refine hc.mono ?_
    rintro e w' ⟨h1, h2, rfl⟩
    go_wp2
    go_ret
    exact ⟨rfl, h1, h2⟩
  | some x =>
    dsimp only at hc ⊢
    by_cases h1l : x.length = 1
    · have hc2 : Calls Tryz.prog 118 #[.pointer (some ⟨g, 0, none⟩), .int .u8 (t.toNat : Int)] W fun e w' => ∃ b o cap, e = .returned (.tuple #[.slice (some ⟨b, o, none⟩) 1 cap, .bool true]) ∧ w'.cell? ⟨b, o, none⟩ = some (.int .u8 ((x[0]?.getD 0).toNat : Int)) ∧ RdS B g s' w' ∧ W.grownBy w' (some g) := by
        refine hc.mono ?_
        rintro e w' ⟨h1, h2, ao, cap, rfl, h4, _⟩
        have hle := h4.le
        obtain ⟨b, o, rfl, _, hcc⟩ := h4.some (by omega)
        exact ⟨b, o, cap, by rw [h1l], hcc 0 _ (byV_at x 0 (by omega)), h1, h2⟩
      by_cases hx : (x[0]?.getD 0).toNat ≤ 1
      · rw [if_pos ⟨h1l, hx⟩]
        clear hc h1l
        generalize (x[0]?.getD 0).toNat = c at *
        have f1 : decide ((1 : Int) < (c : Int)) = false := decide_eq_false (by omega)
        have f2 : ((c : Int) == 1) = decide (c = 1) := by rw [Bool.eq_iff_iff]; simp; omega
        have F2 := Lib.hid f2
        clear f2
        go_enter Tryz.func90, Tryz.ntmps90
        go_wp2_with fail
        refine hc2.mono ?_
        rintro e w' ⟨b, o, cap, rfl, hcell, h1, h2⟩
        go_wp2
        go_ret
        refine ⟨?_, h1, h2⟩
        rw [← F2.out]
        rfl
      · rw [if_neg (fun h => hx h.2)]
        clear hc h1l
        generalize (x[0]?.getD 0).toNat = c at *
        have f1 : decide ((1 : Int) < (c : Int)) = true := decide_eq_true (by omega)
        go_enter Tryz.func90, Tryz.ntmps90
        go_wp2_with fail
        refine hc2.mono ?_
        rintro e w' ⟨b, o, cap, rfl, hcell, ⟨ao1, cap1, h1⟩, h2⟩
        have hat := h1.at_
        have c1 : w'.cell? ⟨g, 1, none⟩ = some (.bool s'.bad) := by simp [World.cell?, hat]
        have z1 : w'.frozen? ⟨g, 1, none⟩ = false := by simp [World.frozen?, hat]
        go_wp2
        go_ret
        exact ⟨rfl, ⟨ao1, cap1, h1.fail⟩, grown_trans h2 (grown_set _ _ _ _)⟩
    · rw [if_neg (fun h => h1l h.1)]
      have f8 : ((x.length : Int) != 1) = true := by simp; omega
      go_enter Tryz.func90, Tryz.ntmps90
      go_wp2_with fail
      refine hc.mono ?_
      rintro e w' ⟨⟨ao1, cap1, h1⟩, h2, ao, cap, rfl, _, _⟩
      have hat := h1.at_
      have c1 : w'.cell? ⟨g, 1, none⟩ = some (.bool s'.bad) := by simp [World.cell?, hat]
      have z1 : w'.frozen? ⟨g, 1, none⟩ = false := by simp [World.frozen?, hat]
      go_wp2
      go_ret
      exact ⟨rfl, ⟨ao1, cap1, h1.fail⟩, grown_trans h2 (grown_set _ _ _ _)⟩
end Go.Proofs.YtgeafnggodkpaaaGreat.Tlv
