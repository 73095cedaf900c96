/-
  The writer, whatever its state: fail, Bytes, Text, Number, Flag.
-/
import Derived.Test.YtienfppidmjfpaaVj
namespace Go.Proofs.Ytienfppidmjfpaa.Tlv
open Go.RowKit Go.Proofs.Ytienfppidmjfpaa.Mem

/-- A writer's state: its bytes, and what failed. -/
structure WS where
  l : List UInt8
  bad : Int
/-- .. behind a failure. -/
def WS.fail (s : WS) (e : Int) : WS := if s.bad = 0 then ⟨s.l, e⟩ else s
/-- .. behind bytes put. -/
def WS.put (s : WS) (t : UInt8) (b : List UInt8) : WS := if s.bad = 0 then (if t.toNat = 0 then ⟨s.l, 2⟩ else ⟨s.l ++ val t b, 0⟩) else s
/-- A writer at g of a state. -/
def WrS (B g : Nat) (s : WS) (W : World) : Prop := ∃ v, WrAt B g s.l s.bad v W
/-- What a method of the writer does. -/
def Turns (B g : Nat) (s : WS) (W : World) (e : Ending) (w' : World) : Prop := e = .returned (.pointer (some ⟨g, 0, none⟩)) ∧ WrS B g s w' ∧ Below B W w' ∧ Stays g W w'

theorem WrAt.mark {B g : Nat} {l : List UInt8} {bad : Int} {v : Value} {W : World} (h : WrAt B g l bad v W) (e : Int) : WrAt B g l e v (W.setCell ⟨g, 1, none⟩ (.int .i64 e)) := by
  have hlt := h.lt
  refine ⟨?_, h.le, ownsRow_setCell_other h.own h.ne _⟩
  have h2 := (Array.getElem?_eq_some_iff.1 h.at_).2
  simp only [World.setCell, Array.getElem?_eq_getElem, Array.size_modify, hlt, Array.getElem_modify_self, h2]
  rfl

set_option maxRecDepth 100000 in
theorem wfail_any (B g : Nat) (s : WS) (e : Int) (W : World) (hw : WrS B g s W) : Calls Try.prog 60 #[.pointer (some ⟨g, 0, none⟩), .int .i64 e] W (Turns B g (s.fail e) W) := by
  obtain ⟨v, hw⟩ := hw
  obtain ⟨l, bad⟩ := s
  dsimp only at hw
  have hat := hw.at_
  have c0 : W.cell? ⟨g, 0, none⟩ = some v := by simp [World.cell?, hat]
  have c1 : W.cell? ⟨g, 1, none⟩ = some (.int .i64 bad) := by simp [World.cell?, hat]
  have g1 : W.frozen? ⟨g, 1, none⟩ = false := by simp [World.frozen?, hat]
  have hpe : ∀ (w : World), Sem.run Try.prog (binOp BinOp.eql 76 (.pointer (some ⟨g, 0, none⟩)) (.pointer none)) w = .ok (.bool false) w := fun _ => by kernel_rfl
  by_cases hb : bad = 0
  · subst hb
    go_enter Try.func60, Try.ntmps60
    go_wp2_with fail
    go_ret
    exact ⟨rfl, ⟨v, hw.mark e⟩, (Below.refl _ _).setCell hw.le _, (Stays.refl g W).set 1 _⟩
  · have f1 : (bad == 0) = false := by simp [hb]
    go_enter Try.func60, Try.ntmps60
    go_wp2_with fail
    go_ret
    refine ⟨rfl, ?_, Below.refl _ _, Stays.refl g W⟩
    rw [show WS.fail ⟨l, bad⟩ e = ⟨l, bad⟩ from by simp [WS.fail, hb]]
    exact ⟨v, hw⟩

theorem wr_low {B g : Nat} {l : List UInt8} {bad : Int} {v : Value} {W : World} (h : WrAt B g l bad v W) {k : Nat} (hk : k < B) : some k ≠ v.ownBlock := by
  intro e
  rcases h.own.2 with ⟨rfl, _⟩ | ⟨g', cap, cur, rfl, hB, _⟩
  · cases e
  · have : k = g' := by simpa [Value.ownBlock] using e
    omega

set_option maxRecDepth 100000 in
theorem wput_any (B g : Nat) (s : WS) (t : UInt8) (b : List UInt8) (ao : Option Addr) (n cap : Nat) (W : World) (hw : WrS B g s W) (hl : s.l.length ≤ 100000000) (hn : n ≤ 4194304) (hr : Rd W 1 ao n cap (byV b))
    (hdis : 0 < cap → ∀ a, ao = some a → ∀ v, WrAt B g s.l s.bad v W → some a.block ≠ v.ownBlock) :
    Calls Try.prog 46 #[.pointer (some ⟨g, 0, none⟩), .int .u8 (t.toNat : Int), .slice ao n cap] W (Turns B g (s.put t b) W) := by
  have hws := hw
  obtain ⟨v, hw⟩ := hw
  obtain ⟨l, bad⟩ := s
  dsimp only at hw hl hdis
  by_cases hb : bad = 0
  · subst hb
    by_cases ht : t.toNat = 0
    · rw [show WS.put ⟨l, 0⟩ t b = WS.fail ⟨l, 0⟩ 2 from by simp [WS.put, WS.fail, ht]]
      have hat := hw.at_
      have c1 : W.cell? ⟨g, 1, none⟩ = some (.int .i64 0) := by simp [World.cell?, hat]
      have f1 : decide ((4194304 : Int) < (n : Int)) = false := decide_eq_false (by omega)
      have f2 : ((t.toNat : Int) == 0) = true := by simp [ht]
      have hpe : ∀ (w : World), Sem.run Try.prog (binOp BinOp.eql 76 (.pointer (some ⟨g, 0, none⟩)) (.pointer none)) w = .ok (.bool false) w := fun _ => by kernel_rfl
      go_enter Try.func46, Try.ntmps46
      go_wp2_with fail
      refine (wfail_any B g ⟨l, 0⟩ 2 W hws).mono ?_
      rintro e w' ⟨rfl, h1, h2, h3⟩
      go_wp2
      go_ret
      exact ⟨rfl, h1, h2, h3⟩
    · rw [show WS.put ⟨l, 0⟩ t b = ⟨l ++ val t b, 0⟩ from by simp [WS.put, ht]]
      refine (wbytes_any B g l b v t ao n cap W hw (by omega) hl hn hr (fun h0 a ha => hdis h0 a ha v hw)).mono ?_
      rintro e w' ⟨rfl, v', h1, h2, h3⟩
      exact ⟨rfl, ⟨v', h1⟩, h2, h3⟩
  · rw [show WS.put ⟨l, bad⟩ t b = ⟨l, bad⟩ from by simp [WS.put, hb]]
    have hat := hw.at_
    have c1 : W.cell? ⟨g, 1, none⟩ = some (.int .i64 bad) := by simp [World.cell?, hat]
    have f1 : (bad == 0) = false := by simp [hb]
    have hpe : ∀ (w : World), Sem.run Try.prog (binOp BinOp.eql 76 (.pointer (some ⟨g, 0, none⟩)) (.pointer none)) w = .ok (.bool false) w := fun _ => by kernel_rfl
    go_enter Try.func46, Try.ntmps46
    go_wp2_with fail
    go_ret
    exact ⟨rfl, hws, Below.refl _ _, Stays.refl g W⟩

/-- Bytes that lie anew are not the writer's. -/
theorem fresh_dis {B g : Nat} {s : WS} {W W' : World} {k : Nat} (hw : WrS B g s W) (hb : Below W.heap.size W W') (hk : W.heap.size ≤ k) {v : Value} (h : WrAt B g s.l s.bad v W') : some k ≠ v.ownBlock := by
  obtain ⟨v0, h0⟩ := hw
  have h1 := (h0.later hb).at_
  rw [h.at_] at h1
  simp only [Option.some.injEq, Obj.cells.injEq] at h1
  obtain rfl : v = v0 := by simpa using h1.1
  intro e
  rcases h0.own.2 with ⟨rfl, _⟩ | ⟨g', cap, cur, rfl, _, hg', _⟩
  · cases e
  · have : k = g' := by simpa [Value.ownBlock] using e
    have := (Array.getElem?_eq_some_iff.1 hg').1
    omega
theorem WrS.later {B g : Nat} {s : WS} {W w' : World} (h : WrS B g s W) (hb : Below W.heap.size W w') : WrS B g s w' := by
  obtain ⟨v, h⟩ := h; exact ⟨v, h.later hb⟩
theorem WrS.le {B g : Nat} {s : WS} {W : World} (h : WrS B g s W) : B ≤ W.heap.size := by
  obtain ⟨v, h⟩ := h; have := h.le; have := h.lt; omega
theorem Turns.after {B g : Nat} {s : WS} {W W1 : World} {e : Ending} {w' : World} (h : Turns B g s W1 e w') (hB : B ≤ W.heap.size) (hb : Below W.heap.size W W1) : Turns B g s W e w' :=
  ⟨h.1, h.2.1, (hb.mono hB).trans h.2.2.1, (Stays.of_below hb).trans h.2.2.2⟩

theorem rd_front {w : World} {size n m cap : Nat} {ao : Option Addr} {xs ys : List Value} (h : Rd w size ao m cap (xs ++ ys)) (hl : xs.length = n * size) (hn : n ≤ m) : Rd w size ao n cap xs := by
  obtain ⟨h1, h2, h3, h4, h5⟩ := h
  refine ⟨hl, by omega, h3, h4, fun h0 a ha => ?_⟩
  obtain ⟨s, l, c⟩ := h5 h0 a ha
  exact ⟨s, l, fun j u hu => c j u (by rw [List.getElem?_append_left (List.getElem?_eq_some_iff.1 hu).1]; exact hu)⟩
/-- A text's bytes, laid anew. -/
theorem run_txt (x : ByteArray) (hx : x.size ≤ maxLen) (W : World) : ∃ cap W1, (convert 9 29 (.string x)).run Try.prog W = .ok (.slice (some ⟨W.heap.size, 0, none⟩) x.size cap) W1 ∧ Rd W1 1 (some ⟨W.heap.size, 0, none⟩) x.size cap (byV x.data.toList) ∧ Below W.heap.size W W1 := by
  have hsz : x.data.size = x.size := rfl
  refine ⟨_, _, run_bytes_of_string W 9 29 5 x (by kernel_rfl) Try.underlying29 (by kernel_rfl), ?_, (Below.drew (Below.refl _ W)).alloc (Nat.le_refl _) _⟩
  have hge := grownCap_ge W x.size 0 5
  have hle := grownCap_le_maxLen W x.size 0 5 hx
  generalize grownCap W x.size 0 5 = cap at *
  have he : (bytesRow x cap).toList = byV x.data.toList ++ List.replicate (cap - x.size) (.int .u8 0) := by simp [bytesRow, byV]
  have hr := Rd.new W.drew (bytesRow x cap).toList 5 ((bytesRow x cap).size, (bytesRow x cap).size + 1) 1 cap (by rw [he]; simp [byV_len, hsz]; omega) hle
  rw [he, ← he, Array.toArray_toList] at hr
  rw [he] at hr
  exact rd_front hr (by rw [byV_len]; simp [hsz]) hge

set_option maxRecDepth 100000 in
theorem wtext_any (B g : Nat) (s : WS) (t : UInt8) (x : ByteArray) (W : World) (hw : WrS B g s W) (hl : s.l.length ≤ 100000000) (hn : x.size ≤ 4194304) :
    Calls Try.prog 61 #[.pointer (some ⟨g, 0, none⟩), .int .u8 (t.toNat : Int), .string x] W (Turns B g (s.put t x.data.toList) W) := by
  have hm : x.size ≤ maxLen := by unfold maxLen; omega
  obtain ⟨cap, W1, hrun, hr, hb⟩ := run_txt x hm W
  have hk : (0 < cap → ∀ a, some (⟨W.heap.size, 0, none⟩ : Addr) = some a → ∀ v, WrAt B g s.l s.bad v W1 → some a.block ≠ v.ownBlock) := fun _ a ha v hv => by cases ha; exact fresh_dis hw hb (Nat.le_refl _) hv
  have hc := wput_any B g s t x.data.toList _ x.size cap W1 (hw.later hb) hl hn hr hk
  clear hn hm
  go_enter Try.func61, Try.ntmps61
  go_wp2_with fail
  refine hc.mono ?_
  rintro e w' h
  have h2 := h.after hw.le hb
  obtain ⟨rfl, h2⟩ := h2
  go_wp2
  go_ret
  exact ⟨rfl, h2⟩
set_option maxRecDepth 100000 in
set_option maxHeartbeats 1000000 in
theorem wnum_any (B g : Nat) (s : WS) (t : UInt8) (n : Nat) (W : World) (hw : WrS B g s W) (hl : s.l.length ≤ 100000000) :
    Calls Try.prog 45 #[.pointer (some ⟨g, 0, none⟩), .int .u8 (t.toNat : Int), .int .u64 (n : Int)] W (Turns B g (s.put t (num8 n)) W) := by
  have hmk : (Instr.makeSlice 29 (.int .i64 8) (.int .i64 8)).run Try.prog W = .ok (.slice (some ⟨W.heap.size, 0, none⟩) 8 8) (W.alloc (.cells (madeCells #[.int .u8 0] 8) 5)) := run_make_row' (P := Try.prog) 29 5 (.int .u8 0) 1 rfl (by kernel_rfl) rfl .i64 .i64 8 (by decide) (by decide) W
  have hrow0 := World.rowIs_made W (.int .u8 0) 8 5
  have hb0 : Below W.heap.size W (W.alloc (.cells (madeCells #[.int .u8 0] 8) 5)) := (Below.refl _ W).alloc (Nat.le_refl _) _
  go_enter Try.func45, Try.ntmps45
  go_wp2_with fail
  go_loopw [12] (fun p wr => ∃ k : Nat, k ≤ 8 ∧ p = .int .i64 (k : Int) ∧ wr.rowIs W.heap.size 5 8 (part8 n k) ∧ Below W.heap.size W wr) (fun p _ => (8 - intOf p).toNat)
  case atStart => exact ⟨0, by omega, rfl, hrow0.congr (fun i hi => by simp only [part8]; rw [if_neg (by omega)]), hb0⟩
  case round =>
    obtain ⟨k, hk, rfl, hrow, hbr⟩ := hrel
    by_cases hk8 : k = 8
    · subst hk8
      have hown : wr.ownsRow W.heap.size 5 1 (.slice (some ⟨W.heap.size, 0, none⟩) 8 8) 8 (byV (num8 n)) := hrow.own (by decide) rfl (by intro j hj; simp [part8, num8, byV, List.getElem?_map, List.getElem?_range hj, UInt8.toNat_ofNat']) 
      go_wp2_with fail
      refine (wput_any B g s t (num8 n) _ 8 8 wr (hw.later hbr) hl (by decide) (Rd.of_own_slice hown) (fun _ a ha v hv => by cases ha; exact fresh_dis hw hbr (Nat.le_refl _) hv)).mono ?_
      rintro e w' h
      obtain ⟨rfl, h2⟩ := h.after hw.le hbr
      go_wp2
      go_ret
      exact ⟨rfl, h2⟩
    · have hk7 : k < 8 := by omega
      have hcell := hrow.cell (i := 7 - k) (by omega)
      have hfr := hrow.frozen (7 - k)
      go_wp2_with fail
      case roundEnd =>
        have hs := hrow.set (7 - k) (.int .u8 ((n : Int) / 2 ^ (8 * k) % 256))
        refine ⟨⟨k + 1, by omega, by go_num, hs.congr ?_, hbr.setCell (Nat.le_refl _) _⟩, by simp [intOf]; omega⟩
        intro j hj
        by_cases hjk : j = 7 - k
        · subst hjk
          have e1 : 7 - (7 - k) = k := by omega
          have e2 : 256 ^ k = 2 ^ (8 * k) := by rw [Nat.pow_mul]
          rw [if_pos rfl]
          unfold part8
          rw [if_pos (by omega), e1, e2]
          simp
        · simp only [part8, if_neg hjk]
          by_cases h8 : 8 ≤ j + k
          · rw [if_pos h8, if_pos (by omega)]
          · rw [if_neg h8, if_neg (by omega)]
end Go.Proofs.Ytienfppidmjfpaa.Tlv
