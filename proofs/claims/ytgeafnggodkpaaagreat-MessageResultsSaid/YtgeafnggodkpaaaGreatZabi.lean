/-
  A part of the proof: what this text holds is told at each of its declarations.
-/
import Derived.Test.YtgeafnggodkpaaaGreatZabe
import Derived.Test.YtgeafnggodkpaaaGreatZabf
import Derived.Test.YtgeafnggodkpaaaGreatZaas
namespace Go.Proofs.YtgeafnggodkpaaaGreat.Msg
open Go.RowKit Go.Lib Go.Proofs.YtgeafnggodkpaaaGreat.Mem Go.Proofs.YtgeafnggodkpaaaGreat.Utf Go.Proofs.YtgeafnggodkpaaaGreat.Tlv

theorem lsV_at (xs : List El) (k : Nat) (u : El) (h : xs[k]? = some u) : (lsV xs)[k]? = some (.slice u.ao u.it.2.length u.cap) := by simp [lsV, h]
theorem lsV_len (xs : List El) : (lsV xs).length = xs.length := by simp [lsV]
/-- The bytes of elements. -/
def elB (xs : List El) : List (List UInt8) := xs.map fun x => x.it.2
theorem ofTag_next (xs : List El) (k : Nat) (u : El) (h : xs[k]? = some u) : ofTag 1 (elB (xs.take (k + 1))) = ofTag 1 (elB (xs.take k)) ++ val 1 u.it.2 := by
  rw [List.take_add_one, h]
  simp [elB, ofTag]
theorem ofTag_le (xs : List El) (k : Nat) : (ofTag 1 (elB (xs.take k))).length ≤ (ofTag 1 (elB xs)).length := by
  have e : ofTag 1 (elB xs) = ofTag 1 (elB (xs.take k)) ++ ofTag 1 (elB (xs.drop k)) := by
    unfold ofTag elB
    rw [← List.flatMap_append, ← List.map_append, List.take_append_drop]
  rw [e, List.length_append]; omega
theorem el_le : ∀ {xs : List El} {u : El}, u ∈ xs → u.it.2.length + 5 ≤ (ofTag 1 (elB xs)).length
  | [], _, h => by cases h
  | x :: xs, u, h => by
    have e : ofTag 1 (elB (x :: xs)) = val 1 x.it.2 ++ ofTag 1 (elB xs) := rfl
    rw [e, List.length_append, val_len]
    rcases List.mem_cons.1 h with rfl | h
    · omega
    · have := el_le h; omega
theorem el_many : ∀ (xs : List El), 5 * xs.length ≤ (ofTag 1 (elB xs)).length
  | [] => Nat.zero_le _
  | x :: xs => by
    have e : ofTag 1 (elB (x :: xs)) = val 1 x.it.2 ++ ofTag 1 (elB xs) := rfl
    have := el_many xs
    rw [e, List.length_append, val_len, List.length_cons]
    omega
/-- A list's value. -/
def GivesLst (l : List UInt8) (w : World) (e : Ending) (w' : World) : Prop := ∃ v, e = .returned (.tuple #[v, .bool true]) ∧ w'.ownsRow w.heap.size 5 1 v l.length (byV l) ∧ Below w.heap.size w w'

set_option maxRecDepth 100000 in
set_option maxHeartbeats 4000000 in
theorem rLst_any (t : UInt8) (ao : Option Addr) (n cap : Nat) (x : List El) (w : World) (hx : Rd w 1 ao n cap (lsV x)) (hu : ∀ u ∈ x, elG u w) (hl : (ofTag 1 (elB x)).length ≤ 4194304) :
    Calls Tryz.prog 88 #[.int .u8 (t.toNat : Int), .slice ao n cap] w (GivesLst (val t (ofTag 1 (elB x))) w) := by
  have lx : x.length = n := by have := hx.1; rw [lsV_len] at this; omega
  have hn : n ≤ 1000000 := by have := el_many x; omega
  have LX := Lib.hid lx
  have HL := Lib.hid hl
  clear lx hl
  have own0 : w.ownsRow w.heap.size 5 1 (.slice none 0 0) (ofTag 1 (elB (x.take 0))).length (byV (ofTag 1 (elB (x.take 0)))) := World.ownsRow_nil _ _ _ _
  go_enter Tryz.func88, Tryz.ntmps88
  go_wp2_with fail
  go_loopw [6, 7] (fun bv p wr => ∃ k : Nat, k ≤ n ∧ p = .int .i64 (k : Int) ∧ wr.ownsRow w.heap.size 5 1 bv (ofTag 1 (elB (x.take k))).length (byV (ofTag 1 (elB (x.take k)))) ∧ Below w.heap.size w wr) (fun _ p _ => n - (intOf p).toNat)
  case atStart => exact ⟨0, Nat.zero_le _, rfl, own0, Below.refl _ _⟩
  case round =>
    obtain ⟨k, hk, rfl, own, hbr⟩ := hrel
    by_cases hkn : k < n
    · obtain ⟨b1, o1, rfl, hl1, hc1⟩ := hx.some (by have := hx.le; omega)
      obtain ⟨u, hue⟩ : ∃ u, x[k]? = some u := ⟨_, List.getElem?_eq_getElem (by rw [LX.out]; exact hkn)⟩
      have c1 := (hbr.cell (p := ⟨b1, o1 + k, none⟩) hl1).trans (hc1 k _ (lsV_at x k u hue))
      have c2 : wr.cell? ⟨b1, o1 + k * 1, none⟩ = some (.slice u.ao u.it.2.length u.cap) := by rw [Nat.mul_one]; exact c1
      have hr1 : Rd wr 1 u.ao u.it.2.length u.cap (byV u.it.2) := Rd.later (hu u (List.mem_of_getElem? hue)) hbr
      have hn1 : u.it.2.length ≤ 4194304 := by have := el_le (List.mem_of_getElem? hue); have := HL.out; omega
      have hL : (ofTag 1 (elB (x.take k))).length ≤ 4194304 := Nat.le_trans (ofTag_le x k) HL.out
      have hnext := Lib.hid (ofTag_next x k u hue)
      obtain ⟨V1, hv1⟩ : ∃ V1, val 1 u.it.2 = V1 := ⟨_, rfl⟩
      obtain ⟨A, hA⟩ : ∃ A, ofTag 1 (elB (x.take k)) = A := ⟨_, rfl⟩
      have hV1 : V1.length = u.it.2.length + 5 := by rw [← hv1, val_len]; omega
      have hN : Hid (ofTag 1 (elB (x.take (k + 1))) = A ++ V1) := Lib.hid (by rw [hnext.out, hv1, hA])
      rw [hA] at hL
      have h17 : A.length + V1.length ≤ maxLen := by rw [hV1]; unfold maxLen; omega
      have h17b : (A.length + V1.length) * 1 ≤ 140737488355328 := by rw [hV1]; omega
      rw [hA] at own
      have Hv1 := Lib.hid hv1
      clear hv1 hA hL hnext hV1 hc1 hue
      have i0 : (0 : Int) ≤ (k : Int) := by omega
      have i1 : (k : Int) < (n : Int) := by omega
      have z0 := hbr.size
      go_wp2_with fail
      refine (rvalue_any 1 u.it.2 _ _ _ wr hn1 hr1).mono ?_
      rintro e W2 ⟨v1, rfl, o2, hb2⟩
      rw [Hv1.out] at o2
      obtain ⟨a2, k2, e2, r2⟩ := Rd.of_own o2
      subst e2
      have own2 := own_later own hb2
      have hB2 := hbr.trans (hb2.mono z0)
      have z2 := hB2.size
      clear c1 c2 own o2 hn1 hr1
      go_wp2_with (at_builtin; refine wpList_app _ rfl (.tmp 14) (.tmp 19) 25 rfl w.heap.size 5 (.int .u8 0) 1 1 Tlv.byT u6 _ _ rfl own2 a2 _ k2 _ rfl r2 (byV_one _) h17 h17b z2 ?_; intro ao3 cap3 W3 o3 _ hb3 _)
      have o4 : W3.ownsRow w.heap.size 5 1 (.slice ao3 (A.length + V1.length) cap3) (ofTag 1 (elB (x.take (k + 1)))).length (byV (ofTag 1 (elB (x.take (k + 1))))) := by rw [hN.out, List.length_append, byV_app]; exact o3
      clear h17 h17b
      go_roundw
      case rel => exact ⟨k + 1, by omega, by go_num, o4, hB2.trans hb3⟩
      case measure => simp [intOf]; omega
    · have hke : k = n := by omega
      have hfull : x.take k = x := List.take_of_length_le (by rw [LX.out]; omega)
      rw [hfull] at own
      obtain ⟨ao', cap', e', hr'⟩ := Rd.of_own own
      subst e'
      have z0 := hbr.size
      have hlen := HL.out
      have f0 : decide (((ofTag 1 (elB x)).length : Int) ≤ 4194304) = true := decide_eq_true (by omega)
      clear hke hfull
      obtain ⟨A, hA⟩ : ∃ A, ofTag 1 (elB x) = A := ⟨_, rfl⟩
      rw [hA] at f0 hr' hlen ⊢
      have HA := Lib.hid hA
      clear hA own
      go_wp2_with fail
      refine (rvalue_any t A ao' _ cap' wr hlen hr').mono ?_
      rintro e W1 ⟨v1, rfl, o1, hb1⟩
      go_wp2_with fail
      go_ret2
      exact ⟨v1, rfl, own_base (by rw [HA.out]; exact o1) z0, hbr.trans (hb1.mono z0)⟩
end Go.Proofs.YtgeafnggodkpaaaGreat.Msg
