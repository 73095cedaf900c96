/-
  The iterator tlv.All: which values it goes over.
-/
import Derived.Test.YtienfppidmjfpaaVc
import Derived.Test.YtienfppidmjfpaaVd
import Derived.Shelf.Abstract
import Derived.LoopIn
import Derived.LoopNIn
import Derived.TacticsInMore
namespace Go.Proofs.Ytienfppidmjfpaa.Tlv
open Go.RowKit Go.Proofs.Ytienfppidmjfpaa.Mem
attribute [local go_sem] Oper.semAt_some

/-- An element: a value, and where its bytes lie. -/
structure El where
  it : It
  ao : Option Addr
  cap : Nat
def elV (x : El) : Array Value := #[.int .u8 (x.it.1.toNat : Int), .slice x.ao x.it.2.length x.cap]
def elG (x : El) (W : World) : Prop := Rd W 1 x.ao x.it.2.length x.cap (byV x.it.2)

theorem rd_kept {W W' : World} {row : Option Nat} {ao : Option Addr} {n cap : Nat} {xs : List Value} (h : Rd W 1 ao n cap xs) (hg : W.grownBy W' row) (hr : ∀ r, row = some r → ∃ o : Obj, W.heap[r]? = some o ∧ o.isCells = false) : Rd W' 1 ao n cap xs := by
  obtain ⟨h1, h2, h3, h4, h5⟩ := h
  refine ⟨h1, h2, h3, h4, fun h0 a ha => ?_⟩
  obtain ⟨s, l, c⟩ := h5 h0 a ha
  exact ⟨s, Nat.lt_of_lt_of_le l hg.size, fun j u hu => cell_kept (c j u hu) hg hr⟩
theorem fr_of {ao : Option Addr} {n : Nat} (h : ao = none ∨ ∃ b, n ≤ b ∧ ao = some ⟨b, 0, none⟩) : ∀ a, ao = some a → n ≤ a.block := by
  rintro a ha
  rcases h with h | ⟨b, h1, h2⟩
  · rw [h] at ha; cases ha
  · rw [h2] at ha; cases ha; exact h1
/-- Its bytes were laid behind a world. -/
def elFr (x : El) (W : World) : Prop := ∀ a, x.ao = some a → W.heap.size ≤ a.block
theorem elG_own (B : Nat) : OwnFrom B elG := fun _ _ _ _ hs hg hr => rd_kept hs hg (fun r e => (hr r e).2)

/-- The values that have come. -/
def came (pre : List El) : List It := pre.map El.it
def SAll (rs : List It) (xs : List El) : Prop := came xs = rs
def SPart (rs : List It) (pre : List El) : Prop := ∃ k, 1 ≤ k ∧ k ≤ rs.length ∧ came pre = rs.take k

theorem get_some {rs : List It} {k : Nat} {x : It} (hk : k < rs.length) (hx : rs[k]?.getD (0, []) = x) : rs[k]? = some x := by
  rw [List.getElem?_eq_getElem hk] at hx ⊢
  simpa using hx
theorem came_len {pre : List El} {rs : List It} {k : Nat} (h : came pre = rs.take k) (hk : k ≤ rs.length) : pre.length = k := by
  have := congrArg List.length h
  simp only [came, List.length_map, List.length_take] at this
  omega
theorem came_snoc {pre : List El} {rs : List It} {k : Nat} {x : El} (h : came pre = rs.take k) (hk : k < rs.length) (hx : rs[k]?.getD (0, []) = x.it) : came (pre ++ [x]) = rs.take (k + 1) := by
  rw [List.take_add_one, ← h, get_some hk hx]
  simp [came]
theorem rd_drop {w : World} {b off n cap f : Nat} {l : List UInt8} (h : Rd w 1 (some ⟨b, off, none⟩) n cap (byV l)) (hf : f ≤ n) : Rd w 1 (some ⟨b, off + f, none⟩) (n - f) (cap - f) (byV (l.drop f)) := by
  have hl := h.1
  rw [byV_len] at hl
  have := rd_sub h f (n - f) (cap - f) (by omega) (by have := h.le; omega) (by have := h.le; omega)
  rwa [List.take_of_length_le (by rw [List.length_drop]; omega)] at this
theorem rd_end {w : World} {a : Addr} {n cap f : Nat} {l : List UInt8} (h : Rd w 1 (some a) n cap (byV l)) (hf : f ≤ n) (hc : cap = f) : Rd w 1 (some a) 0 0 (byV (l.drop f)) := by
  have hl := h.1
  rw [byV_len] at hl
  have := h.le
  rw [List.drop_eq_nil_of_le (by omega)]
  exact rd_zero _ _

def lenOf : Value → Nat
  | .slice _ n _ => n
  | _ => 0
theorem grownNone {W W' : World} (h : Below W.heap.size W W') : W.grownBy W' none := ⟨h.os, h.tape, h.output, h.size, fun k hk _ => h.block k hk⟩
theorem abides_below {J : List El → World → Prop} {B : Nat} {pre : List El} {W W' : World} (hJ : AbidesFrom B J) (h : J pre W) (hb : Below W.heap.size W W') : J pre W' := hJ _ _ _ none h (grownNone hb) (fun _ e => by cases e)

set_option maxRecDepth 100000 in
set_option maxHeartbeats 1000000 in
theorem all1_in (m : Nat) (hm : 1 ≤ m) (l Bn n0 : Nat) (ao : Option Addr) (n cap : Nat) (b : List UInt8) (hn : n ≤ 1000000000) (J Jx : List El → World → Prop)
    (hY : ∀ pre x W, elG x W → SPart (its b) (pre ++ [x]) → (∃ W0, J pre W0 ∧ elFr x W0 ∧ CelKept W0 W) → J pre W → pre.length < (its b).length → YieldAt Fence.wide (m - 1) Try.prog l (elV x) W fun e W' =>
      (e = .returned (.bool true) ∧ J (pre ++ [x]) W' ∧ Below n0 W W') ∨ (e = .returned (.bool false) ∧ Jx (pre ++ [x]) W'))
    (W : World) (hJa : AbidesFrom W.heap.size J) (hBn : W.cell? ⟨Bn, 0, none⟩ = some (.slice ao n cap)) (hrd : Rd W 1 ao n cap (byV b)) (hlow : 0 < cap → ∀ a, ao = some a → a.block < n0) (hn0 : n0 ≤ W.heap.size) (h0 : J [] W) :
    CallsIn Fence.wide m Try.prog 81 #[.func (.yield l) #[] #[], .pointer (some ⟨Bn, 0, none⟩)] W fun e W' => (∃ v, e = .returned v) ∧
      ((∃ xs, SAll (its b) xs ∧ J xs W') ∨ (∃ pre, SPart (its b) pre ∧ Jx pre W')) := by
  have hb : b.length = n := by have := hrd.1; rw [byV_len] at this; omega
  have HB := Lib.hid hb
  have hAt := Lib.hid (its_at b)
  have hLast := Lib.hid (its_last b)
  have hJ := Lib.hid hY
  clear hY hb
  generalize hrs : its b = rs at *
  clear hrs
  refine callsIn_of_wp Try.func81 rfl trivial ?_ rfl
  simp only [Try.ntmps81, List.size_toArray, List.length_cons, List.length_nil, Nat.reduceAdd, Nat.reduceSub, Array.replicate_succ, Array.replicate_zero, List.push_toArray, List.append_toArray, List.nil_append, List.cons_append]
  gi_wp2
  gi_loopw [3] (fun p wr => ∃ (k : Nat) (pre : List El) (ao' : Option Addr) (q c' : Nat), k ≤ rs.length ∧ p = .slice ao' q c' ∧ Hid (q = n - ip rs k) ∧ q ≤ n ∧ Rd wr 1 ao' q c' (byV (b.drop (ip rs k))) ∧
    (0 < c' → ∀ a, ao' = some a → a.block < n0) ∧ Hid (came pre = rs.take k) ∧ J pre wr ∧ n0 ≤ wr.heap.size) (fun p _ => lenOf p)
  case atStart => exact ⟨0, [], ao, n, cap, Nat.zero_le _, rfl, (by show n = n - ip rs 0; rw [ip_zero]; rfl), Nat.le_refl _, (by rw [ip_zero]; exact hrd), hlow, rfl, h0, hn0⟩
  case round =>
    obtain ⟨k, pre, ao', q, c', hk, rfl, Hq, hqn, hrd', hlow', Hpre, hj, hn0'⟩ := hrel
    gi_wp2_with fail
    refine ⟨trivial, ?_⟩
    gi_at_call 82
    refine (callsIn_wide.2 (first_any ao' q c' _ wr hrd' (by omega))).mono ?_
    rintro e w1 ⟨hb1, hc1⟩
    by_cases hkr : k < rs.length
    · obtain ⟨hx, hf, hip, hle⟩ := hAt.out k hkr
      rcases hc1 with ⟨h00, _⟩ | ⟨_, ao2, cap2, rfl, hrd2, _⟩
      · exact absurd h00 hf
      have hfl := hd1_len _ hf
      have hfp := fs_five _ hf
      have Hx := Lib.hid hx
      have hip2 := Lib.hid hip
      have hq2 : fs (b.drop (ip rs k)) ≤ q := by rw [Hq.out]; have := HB.out; omega
      have hqn2 : q - fs (b.drop (ip rs k)) = n - ip rs (k + 1) := by rw [hip, Hq.out]; omega
      have Hqn2 := Lib.hid hqn2
      have hdr : b.drop (ip rs (k + 1)) = (b.drop (ip rs k)).drop (fs (b.drop (ip rs k))) := by rw [List.drop_drop, hip]
      have Hdr := Lib.hid hdr
      clear hx hip hle hdr hqn2
      generalize hit : hd1 (b.drop (ip rs k)) = it at *
      generalize hff : fs (b.drop (ip rs k)) = f at *
      clear hit hff
      have f1 : ((f : Int) == 0) = false := by simp; omega
      have hj1 := abides_below hJa hj hb1
      gi_wp2_with fail
      refine ⟨trivial, ?_⟩
      gi_at_call 51
      refine (callsIn_wide.2 (clone_any ao2 _ cap2 it.2 w1 hrd2 (by omega))).mono ?_
      rintro e w2 ⟨ao3, cap3, rfl, hrd3, hb2, hfr⟩
      have hj2 := abides_below hJa hj1 hb2
      have hY := hJ.out pre ⟨it, ao3, cap3⟩ w2 hrd3 ⟨k + 1, by omega, by omega, came_snoc Hpre.out hkr Hx.out⟩ ⟨w1, hj1, fr_of hfr, CelKept.of_below hb2⟩ hj2 (by rw [came_len Hpre.out (Nat.le_of_lt hkr)]; exact hkr)
      obtain ⟨fn, tmps, assign, body, hy, hR⟩ := hY
      dsimp only [elV] at hy
      have HR := Lib.hid hR
      clear hR
      obtain ⟨b1, o1, e1, hlt1, hcc1⟩ := hrd'.some (by have := hrd'.le; omega)
      subst e1
      have hqc := hrd'.le
      have hcm := hrd'.2.2.1
      unfold maxLen at hcm
      have i0 : (0 : Int) ≤ (f : Int) := by omega
      have i1 : (f : Int) ≤ (q : Int) := by omega
      have i2 : (f : Int) ≤ (c' : Int) := by omega
      gi_wp2_with fail
      refine HR.out.mono ?_
      rintro e W' (⟨rfl, hJ', hb3⟩ | ⟨rfl, hJx'⟩)
      · have hb12 := (hb1.mono hn0').trans ((hb2.mono (Nat.le_trans hn0' hb1.size)).trans hb3)
        have hrdW := hrd'.below hb12 hlow'
        have hW' := Nat.le_trans hn0' hb12.size
        by_cases hcf : c' = f
        · subst hcf
          gi_wp2
          go_roundw
          case rel => exact ⟨k + 1, pre ++ [_], some ⟨b1, o1, none⟩, q - c', 0, by omega, (by simp; omega), Hqn2.out, by omega, (by rw [Hdr.out, show q - c' = 0 by omega]; exact rd_end hrdW (by omega) rfl), (fun h => absurd h (Nat.lt_irrefl 0)), came_snoc Hpre.out hkr Hx.out, hJ', hW'⟩
          case measure => simp [lenOf]; omega
        · have hcf2 : ¬ c' - f = 0 := by omega
          gi_wp2
          go_roundw
          case rel => exact ⟨k + 1, pre ++ [_], some ⟨b1, o1 + f, none⟩, q - f, c' - f, by omega, by simp, Hqn2.out, by omega, (by rw [Hdr.out]; exact rd_drop hrdW (by omega)), (fun h a ha => by cases ha; exact hlow' (by omega) ⟨b1, o1, none⟩ rfl), came_snoc Hpre.out hkr Hx.out, hJ', hW'⟩
          case measure => simp [lenOf]; omega
      · gi_wp2
        refine bodyPost_ret (results_none rfl _ _ _) rfl ?_
        exact ⟨⟨_, rfl⟩, .inr ⟨pre ++ [_], ⟨k + 1, by omega, by omega, came_snoc Hpre.out hkr Hx.out⟩, hJx'⟩⟩
    · obtain rfl : k = rs.length := by omega
      rcases hc1 with ⟨_, rfl⟩ | ⟨h00, _⟩
      case inr => exact absurd hLast.out.1 h00
      have hj1 := abides_below hJa hj hb1
      have hend : came pre = rs := by rw [Hpre.out, List.take_of_length_le (Nat.le_refl _)]
      have Hend := Lib.hid hend
      clear hend
      gi_wp2_with fail
      refine ⟨trivial, ?_⟩
      gi_wp2_with fail
      refine ⟨fun _ h => (by cases h), ?_⟩
      gi_wp2
      refine bodyPost_ret (results_none rfl _ _ _) rfl ?_
      exact ⟨⟨_, rfl⟩, .inl ⟨pre, Hend.out, hj1⟩⟩
end Go.Proofs.Ytienfppidmjfpaa.Tlv
