/-
  Messages: slices.IndexFunc and slices.DeleteFunc at fields.
-/
import Derived.Lib.SliceRun
import Derived.Test.YtloamijcabkekaaGreatDoorNd
import Derived.Test.YtloamijcabkekaaGreatDoorLf
namespace Go.Proofs.YtloamijcabkekaaGreatDoor.Msg
open Go.RowKit Go.Lib Go.Proofs.YtloamijcabkekaaGreatDoor.Mem

/-- A row of fields at b. -/
def FRow (b : Nat) (L : List FV) (W : World) : Prop := W.heap[b]? = some (.cells (fV L).toArray 118)
theorem FRow.later {b : Nat} {L : List FV} {W W' : World} (h : FRow b L W) (hb : Below W.heap.size W W') : FRow b L W' := (hb.block _ (Array.getElem?_eq_some_iff.1 h).1).trans h
theorem FRow.at_ {b : Nat} {L : List FV} {W : World} (h : FRow b L W) (k : Nat) (f : FV) (hk : L[k]? = some f) : W.cell? ⟨b, k * 4, none⟩ = some (.int .i32 f.l) ∧ W.cell? ⟨b, k * 4 + 1, none⟩ = some f.kp ∧ W.cell? ⟨b, k * 4 + 2, none⟩ = some f.pt ∧ W.cell? ⟨b, k * 4 + 3, none⟩ = some f.tk ∧ ∀ i, W.frozen? ⟨b, i, none⟩ = false := by
  unfold FRow at h
  have c : ∀ i, i < 4 → ∀ x, f.cells[i]? = some x → W.cell? ⟨b, k * 4 + i, none⟩ = some x := fun i hi x hx => by
    have := fV_at L k f hk i hi
    rw [hx] at this
    simp [World.cell?, h, this]
  refine ⟨c 0 (by omega) _ rfl, c 1 (by omega) _ rfl, c 2 (by omega) _ rfl, c 3 (by omega) _ rfl, fun i => by simp [World.frozen?, h]⟩
/-- A field that goes. -/
def goes (l : List UInt8) (f : FV) : Bool := !hasL l f.l

set_option maxRecDepth 100000 in
set_option maxHeartbeats 1000000 in
theorem indexF_any (b n sb : Nat) (L : List FV) (l : List UInt8) (w : World) (hL : FRow b L w) (hn : L.length = n) (hn2 : n ≤ 1000) (hs : StrAt sb l w) (hasc : ∀ c ∈ l, c.toNat < 128) :
    Calls Tryz.prog 99 #[.slice (some ⟨b, 0, none⟩) n n, .func (.func 80) #[] #[.pointer (some ⟨sb, 0, none⟩)]] w
      fun e w' => (∃ r : Int, e = .returned (.int .i64 r) ∧ ((r = -1 ∧ L.any (goes l) = false) ∨ ∃ (i : Nat) (f : FV), r = (i : Int) ∧ L[i]? = some f ∧ goes l f = true ∧ (L.take i).any (goes l) = false)) ∧ Below w.heap.size w w' := by
  have HN := Lib.hid hn
  clear hn
  go_enter Tryz.func99, Tryz.ntmps99
  go_wp2_with fail
  go_loopw [8] (fun p wr => ∃ k : Nat, k ≤ n ∧ p = .int .i64 (k : Int) ∧ Hid ((L.take k).any (goes l) = false) ∧ Below w.heap.size w wr) (fun p _ => n - (intOf p).toNat)
  case atStart => exact ⟨0, Nat.zero_le _, rfl, Lib.hid rfl, Below.refl _ _⟩
  case round =>
    obtain ⟨k, hk, rfl, Ht, hbr⟩ := hrel
    by_cases hkn : k < n
    · obtain ⟨f, hf⟩ : ∃ f, L[k]? = some f := ⟨_, List.getElem?_eq_getElem (by rw [HN.out]; exact hkn)⟩
      obtain ⟨c0, c1, c2, c3, -⟩ := (hL.later hbr).at_ k f hf
      have i0 : (0 : Int) ≤ (k : Int) := by omega
      have i1 : (k : Int) < (n : Int) := by omega
      have hcall := of1_any f sb l wr (hs.later hbr) hasc
      unfold FV.val FV.cells at hcall
      go_wp2_with fail
      refine hcall.mono ?_
      rintro e w1 ⟨rfl, hb1⟩
      have hb2 := hbr.trans (hb1.mono hbr.size)
      have hge : (!hasL l f.l) = goes l f := rfl
      rw [hge]
      clear hge hcall c0 c1 c2 c3
      by_cases hm : goes l f = true
      · have HM := Lib.hid hm
        rw [hm]
        go_wp2_with fail
        go_ret
        exact ⟨⟨k, rfl, .inr ⟨k, f, rfl, hf, HM.out, Ht.out⟩⟩, hb2⟩
      · have hm2 : goes l f = false := by simpa using hm
        have Hs := Lib.hid (any_next (goes l) L k f hf Ht.out hm2)
        rw [hm2]
        go_wp2_with fail
        go_roundw
        case rel => exact ⟨k + 1, by omega, by go_num, Hs, hb2⟩
        case measure => simp [intOf]; omega
    · have hkn2 : k = n := by omega
      have Hs : Hid (L.any (goes l) = false) := Lib.hid (by have := Ht.out; rw [List.take_of_length_le (by rw [HN.out]; omega)] at this; exact this)
      subst hkn2
      go_wp2_with fail
      go_ret
      exact ⟨⟨-1, rfl, .inl ⟨rfl, Hs.out⟩⟩, hbr⟩
end Go.Proofs.YtloamijcabkekaaGreatDoor.Msg
