/-
  The writer: Number, End; the statement's 'known'.
-/
import Derived.Test.YtienfppidmjfpaaVi
import Derived.Deep.OwnRows
import Derived.Deep.QuietTactic
import Derived.BigQuiet
import Derived.Handy
namespace Go.Proofs.Ytienfppidmjfpaa.Tlv
open Go.RowKit Go.Proofs.Ytienfppidmjfpaa.Mem

/-- A number's bytes. -/
def num8 (n : Nat) : List UInt8 := (List.range 8).map fun i => UInt8.ofNat (n / 256 ^ (7 - i))
/-- The cells of a number, the last k of them laid. -/
def part8 (n k j : Nat) : Value := if 8 ≤ j + k then .int .u8 ((n / 256 ^ (7 - j) % 256 : Nat) : Int) else .int .u8 0

theorem _root_.Go.World.rowIs.own {w : World} {b n : Nat} {t : TypeId} {f : Nat → Value} (h : w.rowIs b t n f) {xs : List Value} (hm : n ≤ maxLen) (hl : xs.length = n) (hx : ∀ j, j < n → xs[j]? = some (f j)) : w.ownsRow b t 1 (.slice (some ⟨b, 0, none⟩) n n) n xs := by
  obtain ⟨c, h1, h2, h3⟩ := h
  have hc : c.toList = xs := by
    apply List.ext_getElem?
    intro i
    by_cases hi : i < n
    · rw [hx i hi, ← h3 i hi]; simp
    · rw [List.getElem?_eq_none (by simp; omega), List.getElem?_eq_none (by omega)]
  exact ⟨by omega, .inr ⟨b, n, c, rfl, Nat.le_refl _, h1, Nat.le_refl _, hm, by omega, by rw [hc, List.take_of_length_le (by omega)]⟩⟩

theorem WrAt.later {B g : Nat} {l : List UInt8} {bad : Int} {v : Value} {W w' : World} (h : WrAt B g l bad v W) (hb : Below W.heap.size W w') : WrAt B g l bad v w' := ⟨(hb.block g h.lt).trans h.at_, h.le, own_later h.own hb⟩
theorem own_lt {W : World} {B n size : Nat} {e : TypeId} {v : Value} {xs : List Value} (ho : W.ownsRow B e size v n xs) : v.ownBlock ≠ some W.heap.size := by
  rcases ho.2 with ⟨rfl, _⟩ | ⟨g', cap, cur, rfl, _, hg', _⟩
  · simp [Value.ownBlock]
  · intro h
    have : g' = W.heap.size := by simpa [Value.ownBlock] using h
    subst this
    simp at hg'
theorem num8_len (n : Nat) : (num8 n).length = 8 := by simp [num8]

set_option maxRecDepth 100000 in
set_option maxHeartbeats 1000000 in
theorem wnumber_any (B g : Nat) (l : List UInt8) (v : Value) (t : UInt8) (n : Nat) (W : World) (hw : WrAt B g l 0 v W) (ht : 0 < t.toNat) (hl : l.length ≤ 100000000) :
    Calls Try.prog 45 #[.pointer (some ⟨g, 0, none⟩), .int .u8 (t.toNat : Int), .int .u64 (n : Int)] W fun e w' => e = .returned (.pointer (some ⟨g, 0, none⟩)) ∧ ∃ v', WrAt B g (l ++ val t (num8 n)) 0 v' w' ∧ Below B W w' ∧ Stays g W w' := by
  have hmk : (Instr.makeSlice 29 (.int .i64 8) (.int .i64 8)).run Try.prog W = .ok (.slice (some ⟨W.heap.size, 0, none⟩) 8 8) (W.alloc (.cells (madeCells #[.int .u8 0] 8) 5)) := run_make_row' (P := Try.prog) 29 5 (.int .u8 0) 1 rfl (by kernel_rfl) rfl .i64 .i64 8 (by decide) (by decide) W
  have hrow0 := World.rowIs_made W (.int .u8 0) 8 5
  have hb0 : Below W.heap.size W (W.alloc (.cells (madeCells #[.int .u8 0] 8) 5)) := (Below.refl _ W).alloc (Nat.le_refl _) _
  go_enter Try.func45, Try.ntmps45
  go_wp2_with fail
  go_loopw [12] (fun p wr => ∃ k : Nat, k ≤ 8 ∧ p = .int .i64 (k : Int) ∧ wr.rowIs W.heap.size 5 8 (part8 n k) ∧ Below W.heap.size W wr) (fun p _ => (8 - intOf p).toNat)
  case atStart => exact ⟨0, by omega, rfl, hrow0.congr (fun i hi => by simp only [part8]; rw [if_neg (by omega)]), hb0⟩
  case round =>
    obtain ⟨k, hk, rfl, hrow, hbr⟩ := hrel
    by_cases hk8 : k = 8
    · subst hk8
      have hown : wr.ownsRow W.heap.size 5 1 (.slice (some ⟨W.heap.size, 0, none⟩) 8 8) 8 (byV (num8 n)) := hrow.own (by decide) rfl (by intro j hj; simp [part8, num8, byV, List.getElem?_map, List.getElem?_range hj, UInt8.toNat_ofNat']) 
      go_wp2_with fail
      refine (wbytes_any B g l (num8 n) v t _ 8 8 wr (hw.later hbr) ht hl (by omega) (Rd.of_own_slice hown) (fun _ a ha => by cases ha; exact fun e => own_lt hw.own e.symm)).mono ?_
      rintro e w' ⟨rfl, v', h1, h2, h3⟩
      go_wp2
      go_ret
      exact ⟨rfl, v', h1, (hbr.mono (by have := hw.le; have := hw.lt; omega)).trans h2, (Stays.of_below hbr).trans h3⟩
    · have hk7 : k < 8 := by omega
      have hcell := hrow.cell (i := 7 - k) (by omega)
      have hfr := hrow.frozen (7 - k)
      go_wp2_with fail
      case roundEnd =>
        have hs := hrow.set (7 - k) (.int .u8 ((n : Int) / 2 ^ (8 * k) % 256))
        refine ⟨⟨k + 1, by omega, by go_num, hs.congr ?_, hbr.setCell (Nat.le_refl _) _⟩, by simp [intOf]; omega⟩
        intro j hj
        by_cases hjk : j = 7 - k
        · subst hjk
          have e1 : 7 - (7 - k) = k := by omega
          have e2 : 256 ^ k = 2 ^ (8 * k) := by rw [Nat.pow_mul]
          rw [if_pos rfl]
          unfold part8
          rw [if_pos (by omega), e1, e2]
          simp
        · simp only [part8, if_neg hjk]
          by_cases h8 : 8 ≤ j + k
          · rw [if_pos h8, if_pos (by omega)]
          · rw [if_neg h8, if_neg (by omega)]
/-- What End answers. -/
def GivesE (w : World) (l : List UInt8) (bad : Int) (e : Ending) (w' : World) : Prop := ∃ v, e = .returned (.tuple #[v, .int .i64 bad]) ∧ w'.ownsRow w.heap.size 5 1 v l.length (byV l) ∧ Below w.heap.size w w'

set_option maxRecDepth 100000 in
theorem wend_ok (B g : Nat) (l : List UInt8) (v : Value) (W : World) (hw : WrAt B g l 0 v W) (hl : l.length ≤ 100000000) : Calls Try.prog 48 #[.pointer (some ⟨g, 0, none⟩)] W (GivesE W l 0) := by
  have hat := hw.at_
  have c0 : W.cell? ⟨g, 0, none⟩ = some v := by simp [World.cell?, hat]
  have c1 : W.cell? ⟨g, 1, none⟩ = some (.int .i64 0) := by simp [World.cell?, hat]
  have hpe : ∀ (w : World), Sem.run Try.prog (binOp BinOp.eql 76 (.pointer (some ⟨g, 0, none⟩)) (.pointer none)) w = .ok (.bool false) w := fun _ => by kernel_rfl
  obtain ⟨ao, cap, rfl, hr⟩ := Rd.of_own hw.own
  go_enter Try.func48, Try.ntmps48
  go_wp2_with fail
  refine (clone_own ao l.length cap l W hr (by omega)).mono ?_
  rintro e w' ⟨v', rfl, ho, hb⟩
  go_wp2
  go_ret2
  exact ⟨v', rfl, ho, hb⟩
set_option maxRecDepth 100000 in
theorem wend_bad (B g : Nat) (l : List UInt8) (bad : Int) (v : Value) (W : World) (hw : WrAt B g l bad v W) (hl : ¬ bad = 0) : Calls Try.prog 48 #[.pointer (some ⟨g, 0, none⟩)] W (GivesE W [] bad) := by
  have hat := hw.at_
  have c0 : W.cell? ⟨g, 0, none⟩ = some v := by simp [World.cell?, hat]
  have c1 : W.cell? ⟨g, 1, none⟩ = some (.int .i64 bad) := by simp [World.cell?, hat]
  have f1 : (bad == 0) = false := by simp [hl]
  have hpe : ∀ (w : World), Sem.run Try.prog (binOp BinOp.eql 76 (.pointer (some ⟨g, 0, none⟩)) (.pointer none)) w = .ok (.bool false) w := fun _ => by kernel_rfl
  go_enter Try.func48, Try.ntmps48
  go_wp2_with fail
  go_quiet (fail)
  go_wp2
  go_ret2
  exact ⟨_, rfl, World.ownsRow_nil _ _ _ _, below_drewN (Below.refl _ _) _⟩
end Go.Proofs.Ytienfppidmjfpaa.Tlv
