/-
  A part of the proof: what this text holds is told at each of its declarations.
-/
import Derived.Test.YtgeafnggodkpaaaGreatZaac
namespace Go.Proofs.YtgeafnggodkpaaaGreat.Tlv
open Go.RowKit Go.Proofs.YtgeafnggodkpaaaGreat.Mem

theorem own_new (w : World) (e : TypeId) (xs : List Value) (n : Nat) (hl : xs.length = n) (hm : n ≤ maxLen) : (w.alloc (.cells xs.toArray e)).ownsRow w.heap.size e 1 (.slice (some ⟨w.heap.size, 0, none⟩) n n) n xs :=
  ⟨by omega, .inr ⟨w.heap.size, n, xs.toArray, rfl, Nat.le_refl _, (by show (w.heap.push _)[w.heap.size]? = some _; simp), Nat.le_refl _, hm, by simp [hl], by rw [List.take_of_length_le (by simp [hl])]⟩⟩

theorem own_base {w : World} {B B' n size : Nat} {e : TypeId} {v : Value} {xs : List Value} (h : w.ownsRow B e size v n xs) (hB : B' ≤ B) : w.ownsRow B' e size v n xs := by
  refine ⟨h.1, ?_⟩
  rcases h.2 with h2 | ⟨g, cap, cur, h1, h2, h3⟩
  · exact .inl h2
  · exact .inr ⟨g, cap, cur, h1, Nat.le_trans hB h2, h3⟩

set_option maxRecDepth 100000 in
set_option maxHeartbeats 1000000 in
theorem rvalue_any (t : UInt8) (b : List UInt8) (ao : Option Addr) (n cap : Nat) (W : World) (hn : n ≤ 4194304) (hr : Rd W 1 ao n cap (byV b)) :
    Calls Tryz.prog 77 #[.int .u8 (t.toNat : Int), .slice ao n cap] W (GivesO W (val t b)) := by
  have hbl : b.length = n := by have := hr.1; rw [byV_len] at this; omega
  have k63 : 5 + n ≤ maxLen := by unfold maxLen; omega
  have kby : (5 + n) * 1 ≤ 140737488355328 := by omega
  have hv : byV (val t b) = [.int .u8 (t.toNat : Int), .int .u8 ((n : Int) / 16777216), .int .u8 ((n : Int) / 65536 % 256), .int .u8 ((n : Int) / 256 % 256), .int .u8 ((n : Int) % 256)] ++ byV b := by
    rw [byV_val t b n hbl hn, show (n : Int) / 65536 % 256 = (n : Int) / 65536 from by omega]
  have hvl := val_len t b
  rw [hbl] at hvl
  have Hv := Lib.hid hv
  have Hvl := Lib.hid hvl
  clear hv hvl
  have hb0 : ∀ o, Below W.heap.size W (W.alloc o) := fun o => (Below.refl _ W).alloc (Nat.le_refl _) _
  have ho0 := own_new W 5 [.int .u8 (t.toNat : Int), .int .u8 ((n : Int) / 16777216), .int .u8 ((n : Int) / 65536 % 256), .int .u8 ((n : Int) / 256 % 256), .int .u8 ((n : Int) % 256)] 5 rfl (by decide)
  have hr1 := hr.later (hb0 (.cells [Value.int .u8 (t.toNat : Int), .int .u8 ((n : Int) / 16777216), .int .u8 ((n : Int) / 65536 % 256), .int .u8 ((n : Int) / 256 % 256), .int .u8 ((n : Int) % 256)].toArray 5))
  have hsz : W.heap.size ≤ (W.alloc (.cells [Value.int .u8 (t.toNat : Int), .int .u8 ((n : Int) / 16777216), .int .u8 ((n : Int) / 65536 % 256), .int .u8 ((n : Int) / 256 % 256), .int .u8 ((n : Int) % 256)].toArray 5)).heap.size := by simp
  go_enter Tryz.func77, Tryz.ntmps77
  go_wp2_with (at_builtin; refine wpList_app _ rfl (.tmp 25) (.tmp 26) 25 rfl W.heap.size 5 (.int .u8 0) 1 1 byT _ 5 _ rfl ho0 ao n cap (byV b) rfl hr1 (byV_one _) k63 kby hsz ?_; intro ao2 cap2 w2 ho2 hg2 hb2 _)
  go_ret
  refine ⟨_, rfl, ?_, (hb0 _).trans hb2⟩
  rw [Hvl.out, Hv.out]
  exact ho2

set_option maxRecDepth 100000 in
theorem rflag_any (t : UInt8) (is : Bool) (W : World) :
    Calls Tryz.prog 89 #[.int .u8 (t.toNat : Int), .bool is] W (GivesO W (val t [if is then 1 else 0])) := by
  have hb : ∀ v, Below W.heap.size W (W.alloc (.cells #[v] 5)) := fun _ => (Below.refl _ W).alloc (Nat.le_refl _) _
  have hc : ∀ x : UInt8, Calls Tryz.prog 77 #[.int .u8 (t.toNat : Int), .slice (some ⟨W.heap.size, 0, none⟩) 1 1] (W.alloc (.cells #[.int .u8 (x.toNat : Int)] 5)) (GivesO W (val t [x])) := fun x =>
    (rvalue_any t [x] _ 1 1 _ (by decide) (Rd.new W [.int .u8 (x.toNat : Int)] 5 (0, 0) 1 1 rfl (by decide))).mono fun e w' h => by
      obtain ⟨v, rfl, h1, h2⟩ := h
      exact ⟨v, rfl, own_base h1 (hb _).size, (hb _).trans (h2.mono (hb _).size)⟩
  cases is with
  | true =>
    have hc1 := hc 1
    go_enter Tryz.func89, Tryz.ntmps89
    go_wp2_with fail
    refine hc1.mono ?_
    rintro e w' ⟨v, rfl, h2⟩
    go_wp2
    go_ret
    exact ⟨v, rfl, h2⟩
  | false =>
    have hc1 := hc 0
    go_enter Tryz.func89, Tryz.ntmps89
    go_wp2_with fail
    refine hc1.mono ?_
    rintro e w' ⟨v, rfl, h2⟩
    go_wp2
    go_ret
    exact ⟨v, rfl, h2⟩

set_option maxRecDepth 100000 in
set_option maxHeartbeats 1000000 in
theorem rnumber_any (t : UInt8) (n : Nat) (W : World) (hn : n < 18446744073709551616) :
    Calls Tryz.prog 76 #[.int .u8 (t.toNat : Int), .int .u64 (n : Int)] W (GivesO W (val t (num8 n))) := by
  have hmk : (Instr.makeSlice 25 (.int .i64 8) (.int .i64 8)).run Tryz.prog W = .ok (.slice (some ⟨W.heap.size, 0, none⟩) 8 8) (W.alloc (.cells (madeCells #[.int .u8 0] 8) 5)) := run_make_row' (P := Tryz.prog) 25 5 (.int .u8 0) 1 rfl (by kernel_rfl) rfl .i64 .i64 8 (by decide) (by decide) W
  have hrow0 := World.rowIs_made W (.int .u8 0) 8 5
  have hb0 : Below W.heap.size W (W.alloc (.cells (madeCells #[.int .u8 0] 8) 5)) := (Below.refl _ W).alloc (Nat.le_refl _) _
  go_enter Tryz.func76, Tryz.ntmps76
  go_wp2_with fail
  go_loopw [1, 6] (fun q p wr => ∃ k : Nat, k ≤ 8 ∧ q = .int .u64 ((n / 256 ^ k : Nat) : Int) ∧ p = .int .i64 (7 - (k : Int)) ∧ wr.rowIs W.heap.size 5 8 (part8 n k) ∧ Below W.heap.size W wr) (fun _ p _ => (intOf p + 1).toNat)
  case atStart => exact ⟨0, by omega, by simp, rfl, hrow0.congr (fun i hi => by simp only [part8]; rw [if_neg (by omega)]), hb0⟩
  case round =>
    obtain ⟨k, hk, rfl, rfl, hrow, hbr⟩ := hrel
    by_cases hk8 : k = 8
    · subst hk8
      have hown : wr.ownsRow W.heap.size 5 1 (.slice (some ⟨W.heap.size, 0, none⟩) 8 8) 8 (byV (num8 n)) := hrow.own (by decide) rfl (by intro j hj; simp [part8, num8, byV, List.getElem?_map, List.getElem?_range hj, UInt8.toNat_ofNat'])
      go_wp2_with fail
      refine (rvalue_any t (num8 n) _ 8 8 wr (by decide) (Rd.of_own_slice hown)).mono ?_
      rintro e w' ⟨v, rfl, h1, h2⟩
      go_wp2
      go_ret
      exact ⟨v, rfl, own_base h1 hbr.size, hbr.trans (h2.mono hbr.size)⟩
    · have hk7 : k < 8 := by omega
      have hcell := hrow.cell (i := 7 - k) (by omega)
      have hfr := hrow.frozen (7 - k)
      have f0 : decide ((0 : Int) ≤ 7 - (k : Int)) = true := decide_eq_true (by omega)
      have i0 : (0 : Int) ≤ 7 - (k : Int) := by omega
      have i1 : 7 - (k : Int) < 8 := by omega
      have hqn : n / 256 ^ k ≤ n := Nat.div_le_self _ _
      have hcl : ((n / 256 ^ k : Nat) : Int) % 256 = ((n / 256 ^ (7 - (7 - k)) % 256 : Nat) : Int) := by rw [show 7 - (7 - k) = k by omega]; simp
      have hcs : ((n / 256 ^ k : Nat) : Int) / 256 = ((n / 256 ^ (k + 1) : Nat) : Int) := by rw [Nat.pow_succ, ← Nat.div_div_eq_div_mul]; simp
      have Hcl := Lib.hid hcl
      have Hcs := Lib.hid hcs
      clear hcl hcs
      generalize hq : n / 256 ^ k = q at *
      clear hq
      have hu : IntKind.u64.wrap ((q : Int) / 256) = (q : Int) / 256 := by rw [IntWalk.u64_in] <;> omega
      go_wp2_with fail
      case roundEnd =>
        have hs := hrow.set (7 - k) (.int .u8 ((q : Int) % 256))
        refine ⟨⟨k + 1, by omega, by rw [Hcs.out], by congr 1; omega, hs.congr ?_, hbr.setCell (Nat.le_refl _) _⟩, by simp [intOf]; omega⟩
        intro j hj
        by_cases hjk : j = 7 - k
        · subst hjk
          rw [if_pos rfl]
          unfold part8
          rw [if_pos (by omega), Hcl.out]
        · simp only [part8, if_neg hjk]
          by_cases h8 : 8 ≤ j + k
          · rw [if_pos h8, if_pos (by omega)]
          · rw [if_neg h8, if_neg (by omega)]
end Go.Proofs.YtgeafnggodkpaaaGreat.Tlv
