/-
  The walks of tlv.first and of the reference's First.
-/
import Derived.Test.YtienfppidmjfpaaVa
import Derived.Test.YtienfppidmjfpaaMem
import Derived.Test.YtienfppidmjfpaaRows
import Derived.WalkKit
import Derived.WalkSpells
import Derived.WalkLawsBesides
import Derived.Deep.QuietTactic
import Derived.Deep.DrawnRows
import Derived.BigQuiet
import Derived.Deep.RegionLaw
namespace Go.Proofs.Ytienfppidmjfpaa.Tlv
open Go.RowKit Go.Proofs.Ytienfppidmjfpaa.Mem

theorem byV_at (l : List UInt8) (k : Nat) (h : k < l.length) : (byV l)[k]? = some (.int .u8 ((l[k]?.getD 0).toNat : Int)) := by
  simp [byV, List.getElem?_map, List.getElem?_eq_getElem h]

theorem wraps_i64' (n : Int) (h₀ : 0 ≤ n) (h₁ : n < 2 ^ 63) : IntKind.i64.wrap n = n := by rw [IntKind.wrap_i64]; omega

theorem big_iff (q : Nat) : (4194304 : Int) < (q : Int) ↔ 4194304 < q := by omega

theorem wrap5 {n q : Nat} (hn : n ≤ 1000000000) (h : (5 : Int) + q ≤ n) : IntKind.i64.wrap (5 + (q : Int)) = 5 + (q : Int) := by rw [IntKind.wrap_i64]; omega
theorem ret_sl {x : Int} {b o m q : Nat} {i : Int} (h : m = 5 + q - 5) (hi : i = ((5 + q : Nat) : Int)) : Ending.returned (.tuple #[.int .u8 x, .slice (some ⟨b, o, none⟩) m m, .int .i64 i]) = .returned (.tuple #[.int .u8 x, .slice (some ⟨b, o, none⟩) (5 + q - 5) (5 + q - 5), .int .i64 ((5 + q : Nat) : Int)]) := by rw [← h, hi]
theorem sub_lt {n q : Nat} (h5 : ¬ n < 5) (h : n - 5 < q) : decide ((n : Int) - 5 < (q : Int)) = true := decide_eq_true (by omega)
theorem sub_ge {n q cap : Nat} (h5 : ¬ n < 5) (h : ¬ n - 5 < q) (hc : n ≤ cap) : decide ((n : Int) - 5 < (q : Int)) = false ∧ (0 : Int) ≤ q ∧ (5 : Int) + q ≤ n ∧ (5 : Int) + q ≤ cap := ⟨decide_eq_false (by omega), by omega, by omega, by omega⟩

theorem rd_sub {w : World} {b off n cap : Nat} {l : List UInt8} (h : Rd w 1 (some ⟨b, off, none⟩) n cap (byV l)) (a m c : Nat) (hm : a + m ≤ n) (hc : m ≤ c) (hc2 : a + c ≤ cap) :
    Rd w 1 (some ⟨b, off + a, none⟩) m c (byV ((l.drop a).take m)) := by
  obtain ⟨h1, h2, h3, h4, h5⟩ := h
  rw [byV_len] at h1
  refine ⟨by rw [byV_len, List.length_take, List.length_drop]; omega, hc, by omega, (fun h => by cases h), fun h0 a' ha => ?_⟩
  cases ha
  obtain ⟨s, lt, cc⟩ := h5 (by omega) _ rfl
  refine ⟨rfl, lt, fun j u hu => ?_⟩
  dsimp only at cc ⊢
  rw [show off + a + j = off + (a + j) by omega]
  refine cc (a + j) u ?_
  unfold byV at hu ⊢
  rw [List.getElem?_map] at hu ⊢
  rw [List.getElem?_take] at hu
  split at hu
  · rwa [List.getElem?_drop] at hu
  · simp at hu
theorem rd_zero (w : World) (a : Addr) : Rd w 1 (some a) 0 0 (byV []) := ⟨rfl, Nat.le_refl _, Nat.zero_le _, (fun _ => rfl), fun h => absurd h (Nat.lt_irrefl 0)⟩

/-- What first answers. -/
def FirstAns (w : World) (ao0 : Option Addr) (l : List UInt8) (e : Ending) (w' : World) : Prop := Below w.heap.size w w' ∧
  ((fs l = 0 ∧ e = .returned (.tuple #[.int .u8 0, .slice none 0 0, .int .i64 0])) ∨
   (fs l ≠ 0 ∧ ∃ ao cap, e = .returned (.tuple #[.int .u8 ((hd1 l).1.toNat : Int), .slice ao (hd1 l).2.length cap, .int .i64 (fs l : Int)]) ∧ Rd w' 1 ao (hd1 l).2.length cap (byV (hd1 l).2) ∧ (0 < cap → ∀ a, ao = some a → ∃ a0, ao0 = some a0 ∧ a.block = a0.block)))
theorem FirstAns.no {w : World} {ao0 : Option Addr} {l : List UInt8} {e : Ending} (h : fs l = 0) (he : e = .returned (.tuple #[.int .u8 0, .slice none 0 0, .int .i64 0])) (q : Nat) : FirstAns w ao0 l e (w.drewN q) :=
  ⟨below_drewN (Below.refl _ _) _, .inl ⟨h, he⟩⟩
theorem FirstAns.yes {w : World} {b off n cap q c x0 : Nat} {l : List UInt8} {e : Ending} {ao : Option Addr} (hr : Rd w 1 (some ⟨b, off, none⟩) n cap (byV l)) (hx : (l[0]?.getD 0).toNat = x0) (hf : fs l = 5 + q) (hq : 5 + q ≤ n) (hc : q ≤ c) (hc2 : 5 + c ≤ cap)
    (hao : ao = some ⟨b, off + 5, none⟩ ∨ (q = 0 ∧ c = 0 ∧ ∃ a, ao = some a)) (he : e = .returned (.tuple #[.int .u8 (x0 : Int), .slice ao q c, .int .i64 (5 + (q : Int))])) {w' : World} (hb : Below w.heap.size w w') : FirstAns w (some ⟨b, off, none⟩) l e w' := by
  have hl : l.length = n := by have := hr.1; rw [byV_len] at this; omega
  have h2 : (hd1 l).2 = (l.drop 5).take q := by simp only [hd1, hf]; congr 1; omega
  have h3 : (hd1 l).2.length = q := by rw [h2, List.length_take, List.length_drop]; omega
  refine ⟨hb, .inr ⟨by omega, ao, c, ?_, ?_, fun h0 a ha => ?_⟩⟩
  · rw [he, h3, hf, ← hx]; rfl
  · rw [h3, h2]
    refine Rd.later (w := w) ?_ hb
    rcases hao with rfl | ⟨rfl, rfl, a, rfl⟩
    · exact rd_sub hr 5 q c hq hc hc2
    · exact rd_zero _ _
  · rcases hao with rfl | ⟨rfl, rfl, a, rfl⟩
    · cases ha; exact ⟨_, rfl, rfl⟩
    · exact absurd h0 (Nat.lt_irrefl 0)

theorem FirstAns.yes0 {w : World} {b off n cap x0 : Nat} {l : List UInt8} {e : Ending} {a : Addr} (hr : Rd w 1 (some ⟨b, off, none⟩) n cap (byV l)) (hx : (l[0]?.getD 0).toNat = x0) (hf : fs l = 5 + 0) (hq : 5 ≤ n)
    (he : e = .returned (.tuple #[.int .u8 (x0 : Int), .slice (some a) 0 0, .int .i64 5])) {w' : World} (hb : Below w.heap.size w w') : FirstAns w (some ⟨b, off, none⟩) l e w' :=
  FirstAns.yes (q := 0) (c := 0) hr hx hf (by omega) (by omega) (by have := hr.le; omega) (.inr ⟨rfl, rfl, _, rfl⟩) he hb

set_option maxRecDepth 100000 in
set_option maxHeartbeats 1000000 in
theorem first_any (ao : Option Addr) (n cap : Nat) (l : List UInt8) (w : World) (hr : Rd w 1 ao n cap (byV l)) (hn : n ≤ 1000000000) :
    Calls Try.prog 82 #[.slice ao n cap] w (FirstAns w ao l) := by
  have ll : l.length = n := by have := hr.1; rw [byV_len] at this; omega
  by_cases h5 : n < 5
  · have hf := fs_no (l := l) (.inl (by omega))
    go_enter Try.func82, Try.ntmps82
    go_wp2
    go_ret3
    exact FirstAns.no hf (by first | rfl | simp) 0
  · obtain ⟨b, off, e1, hlt, hc⟩ := hr.some (by have := hr.le; omega)
    subst e1
    have c0 : w.cell? ⟨b, off, none⟩ = _ := hc 0 _ (byV_at l 0 (by omega))
    have c1 := hc 1 _ (byV_at l 1 (by omega))
    have c2 := hc 2 _ (byV_at l 2 (by omega))
    have c3 := hc 3 _ (byV_at l 3 (by omega))
    have c4 := hc 4 _ (byV_at l 4 (by omega))
    have hle := hr.le
    have hcap := hr.2.2.1
    unfold maxLen at hcap
    have b1 : (l[1]?.getD 0).toNat < 256 := UInt8.toNat_lt _
    have b2 : (l[2]?.getD 0).toNat < 256 := UInt8.toNat_lt _
    have b3 : (l[3]?.getD 0).toNat < 256 := UInt8.toNat_lt _
    have b4 : (l[4]?.getD 0).toNat < 256 := UInt8.toNat_lt _
    have hln : ln l = 16777216 * (l[1]?.getD 0).toNat + 65536 * (l[2]?.getD 0).toNat + 256 * (l[3]?.getD 0).toNat + (l[4]?.getD 0).toNat := rfl
    have hx0 : l[0]?.getD 0 = 0 ↔ (l[0]?.getD 0).toNat = 0 := by rw [← UInt8.toNat_inj]; rfl
    have hn1 := fs_no (l := l)
    have hn2 := fs_yes (l := l)
    rw [ll] at hn1 hn2
    have b0 : (l[0]?.getD 0).toNat < 256 := UInt8.toNat_lt _
    rw [hx0] at hn1 hn2
    generalize hX : (l[0]?.getD 0).toNat = x0 at *
    have HX := Lib.hid hX
    clear hX
    generalize (l[1]?.getD 0).toNat = x1 at *
    generalize (l[2]?.getD 0).toNat = x2 at *
    generalize (l[3]?.getD 0).toNat = x3 at *
    generalize (l[4]?.getD 0).toNat = x4 at *
    clear ll hx0
    generalize hF : fs l = f at *
    have HF0 := Lib.hid hF
    clear hF
    generalize ln l = q at *
    by_cases h0 : x0 = 0
    · have := hn1 (.inr (.inl h0))
      have HF := Lib.hid this
      clear this hn1 hn2
      have f1 : ((x0 : Int) == 0) = true := by simp [h0]
      clear h0
      go_enter Try.func82, Try.ntmps82
      go_wp2
      go_ret3
      exact FirstAns.no (HF0.out.trans HF.out) (by first | rfl | simp) 0
    · have f1 : ((x0 : Int) == 0) = false := by simp [h0]
      have f5 : decide ((n : Int) < 5) = false := by simp; omega
      have j1 : bits BinOp.or IntKind.i64 ((x1 : Int) * 16777216) ((x2 : Int) * 65536) = (x1 : Int) * 16777216 + (x2 : Int) * 65536 := bits_join .i64 63 (by decide) wraps_i64' 24 _ _ (by omega) (by omega) (by omega) (by omega) (by omega) (by omega)
      have j2 : bits BinOp.or IntKind.i64 ((x1 : Int) * 16777216 + (x2 : Int) * 65536) ((x3 : Int) * 256) = (x1 : Int) * 16777216 + (x2 : Int) * 65536 + (x3 : Int) * 256 := bits_join .i64 63 (by decide) wraps_i64' 16 _ _ (by omega) (by omega) (by omega) (by omega) (by omega) (by omega)
      have j3 : bits BinOp.or IntKind.i64 ((x1 : Int) * 16777216 + (x2 : Int) * 65536 + (x3 : Int) * 256) (x4 : Int) = (q : Int) := by
        rw [show (q : Int) = (x1 : Int) * 16777216 + (x2 : Int) * 65536 + (x3 : Int) * 256 + (x4 : Int) by omega]
        exact bits_join .i64 63 (by decide) wraps_i64' 8 _ _ (by omega) (by omega) (by omega) (by omega) (by omega) (by omega)
      by_cases hq : 4194304 < q ∨ n - 5 < q
      · have := hn1 (.inr (.inr hq))
        have HF := Lib.hid this
        clear this hn1 hn2 h0
        by_cases hq1 : (4194304 : Int) < (q : Int)
        · have g1 : decide ((4194304 : Int) < (q : Int)) = true := decide_eq_true hq1
          clear hln
          go_enter Try.func82, Try.ntmps82
          go_wp2
          go_quiet (fail)
          go_wp2
          go_ret3
          exact FirstAns.no (HF0.out.trans HF.out) (by first | rfl | simp) _
        · have hq2 : n - 5 < q := hq.resolve_left (fun h => hq1 ((big_iff q).2 h))
          have g1 : decide ((4194304 : Int) < (q : Int)) = false := decide_eq_false hq1
          clear hq hq1
          have g2 := sub_lt h5 hq2
          clear hln
          go_enter Try.func82, Try.ntmps82
          go_wp2
          go_quiet (fail)
          go_wp2
          go_ret3
          exact FirstAns.no (HF0.out.trans HF.out) (by first | rfl | simp) _
      · have := hn2 (fun h => by
          rcases h with h | h | h
          · exact h5 h
          · exact h0 h
          · exact hq h)
        have HF := Lib.hid this
        have g1 : decide ((4194304 : Int) < (q : Int)) = false := decide_eq_false (fun h => hq (.inl ((big_iff q).1 h)))
        have hq2 : ¬ n - 5 < q := fun h => hq (.inr h)
        clear this hn1 hn2 h0 hq
        obtain ⟨g2, i0, i1, i2⟩ := sub_ge h5 hq2 hle
        clear hln
        by_cases hq0 : q = 0
        · subst hq0
          go_enter Try.func82, Try.ntmps82
          go_wp2
          go_quiet (fail)
          go_wp2
          go_quiet (fail)
          go_wp2
          go_ret3
          refine FirstAns.yes0 (a := ⟨b, off, none⟩) hr HX.out (HF0.out.trans HF.out) (by omega) (by rfl) (by first | exact below_drewN (Below.refl _ _) _ | exact below_drewN (below_drewN (Below.refl _ _) _) _)
        · have i3 : (0 : Int) < q := by omega
          clear hq0
          go_enter Try.func82, Try.ntmps82
          go_wp2
          go_quiet (fail)
          go_wp2
          have wq := wrap5 hn i1
          go_quiet (fail)
          go_wp2
          go_ret3
          have e5 : 5 + q - 5 = q := by omega
          refine FirstAns.yes (q := q) (c := q) (ao := some ⟨b, off + 5, none⟩) hr HX.out (HF0.out.trans HF.out) (by omega) (by omega) (by omega) (.inl rfl) ?_ (by first | exact below_drewN (Below.refl _ _) _ | exact below_drewN (below_drewN (Below.refl _ _) _) _)
          show Ending.returned (.tuple #[.int .u8 (x0 : Int), .slice (some ⟨b, off + 5, none⟩) (5 + q - 5) (5 + q - 5), .int .i64 (5 + (q : Int))]) = _
          rw [e5]
end Go.Proofs.Ytienfppidmjfpaa.Tlv
