/-
  Messages: which fields a kind keeps: the test of a field; the first that goes.
-/
import Derived.Lib.OthersKept
import Derived.Deep.Cut
import Derived.Test.YtloamijcabkekaaGreatDoorNc
namespace Go.Proofs.YtloamijcabkekaaGreatDoor.Msg
open Go.RowKit Go.Lib Go.Proofs.YtloamijcabkekaaGreatDoor.Mem

/-- Is a letter one of a text's? -/
def hasL (l : List UInt8) (x : Int) : Bool := l.any fun c => (c.toNat : Int) == x
theorem hasL_no (l : List UInt8) (k : Nat) (c : UInt8) (x : Int) (h : l[k]? = some c) (h1 : hasL (l.take k) x = false) (h2 : ((c.toNat : Int) == x) = false) : hasL (l.take (k + 1)) x = false := by
  obtain ⟨hl, e⟩ := List.getElem?_eq_some_iff.1 h
  unfold hasL at h1 ⊢
  rw [List.take_succ_eq_append_getElem hl, List.any_append, h1, e]
  simp [h2]
theorem hasL_yes (l : List UInt8) (k : Nat) (c : UInt8) (x : Int) (h : l[k]? = some c) (h2 : ((c.toNat : Int) == x) = true) : hasL l x = true := List.any_eq_true.2 ⟨c, List.mem_of_getElem? h, h2⟩

/-- The worlds in which a text lies in a box. -/
def StrAt (sb : Nat) (l : List UInt8) (W : World) : Prop := W.heap[sb]? = some (.cells #[.string ⟨l.toArray⟩] 9)
theorem StrAt.later {sb : Nat} {l : List UInt8} {W W' : World} (h : StrAt sb l W) (hb : Below W.heap.size W W') : StrAt sb l W' := (hb.block _ (Array.getElem?_eq_some_iff.1 h).1).trans h

set_option maxRecDepth 100000 in
set_option maxHeartbeats 4000000 in
theorem of1_any (f : FV) (sb : Nat) (l : List UInt8) (w : World) (hs : StrAt sb l w) (hasc : ∀ c ∈ l, c.toNat < 128) : Calls Tryz.prog 80 #[f.val, .pointer (some ⟨sb, 0, none⟩)] w (GivesB (!hasL l f.l) w) := by
  have hus : Tryz.prog.underlying 9 = some .string := Tryz.underlying9
  unfold FV.val FV.cells
  go_enter Tryz.func80, Tryz.ntmps80
  have hbx : Below w.heap.size w (w.alloc f.box) := (Below.refl _ _).alloc (Nat.le_refl _) _
  have k1 : (w.alloc f.box).heap[w.heap.size]? = some f.box := by show (w.heap.push _)[w.heap.size]? = some _; exact Array.getElem?_push_size
  have hs1 := hs.later hbx
  have c0 : (w.alloc f.box).cell? ⟨sb, 0, none⟩ = some (.string ⟨l.toArray⟩) := by unfold StrAt at hs1; simp [World.cell?, hs1]
  unfold FV.box FV.cells at hbx k1 hs1 c0
  go_upto_region 1 with fail
  generalize hg : w.alloc _ = W0 at *
  have hr := run_range_string (P := Tryz.prog) W0 9 ⟨l.toArray⟩ hus
  go_wp2_with fail
  clear c0
  have hz : w.heap.size < W0.heap.size := (Array.getElem?_eq_some_iff.1 k1).1
  go_loopw [] (fun wr => ∃ j, Hid (hasL (l.take j) f.l = false) ∧ wr.heap[W0.heap.size]? = some (.stringIter ⟨l.toArray⟩ j) ∧ wr.heap[w.heap.size]? = some (.cells #[.int .i32 f.l, f.kp, f.pt, f.tk] 118) ∧ Below w.heap.size w wr) (fun wr => l.length - wr.iterPos W0.heap.size)
  case atStart =>
    have hbi : Below W0.heap.size W0 (W0.iter ⟨l.toArray⟩ 0) := (Below.refl _ _).alloc (Nat.le_refl _) _
    exact ⟨0, Lib.hid rfl, by show (W0.heap.push _)[W0.heap.size]? = some _; exact Array.getElem?_push_size, (hbi.block _ hz).trans k1, hbx.trans (hbi.mono hbx.size)⟩
  case round =>
    obtain ⟨j, Hh, hi, hk, hb⟩ := hrel
    by_cases hj : j < l.length
    · obtain ⟨c, hc⟩ : ∃ c, l[j]? = some c := ⟨_, List.getElem?_eq_getElem hj⟩
      have hm : wr.iterPos W0.heap.size = j := by simp [World.iterPos, hi]
      have hn : ∀ ty, (Instr.next (.pointer (some ⟨W0.heap.size, 0, none⟩)) true ty).run Tryz.prog wr = .ok (.tuple #[.bool true, .int .i64 j, .int .i32 (c.toNat : Int)]) (wr.iterAt W0.heap.size ⟨l.toArray⟩ (j + 1)) := fun ty => next_letter wr W0.heap.size l j c ty hi hc (hasc c (List.mem_of_getElem? hc))
      have b1 : (wr.iterAt W0.heap.size ⟨l.toArray⟩ (j + 1)).heap[w.heap.size]? = some (.cells #[.int .i32 f.l, f.kp, f.pt, f.tk] 118) := (iterAt_other _ _ _ _ _ (by omega)).trans hk
      have b2 : (wr.iterAt W0.heap.size ⟨l.toArray⟩ (j + 1)).heap[W0.heap.size]? = some (.stringIter ⟨l.toArray⟩ (j + 1)) := iterAt_heap _ _ _ _ _ hi
      have b3 : Below w.heap.size w (wr.iterAt W0.heap.size ⟨l.toArray⟩ (j + 1)) := below_iterAt hb (by omega) _ _
      have d0 : (wr.iterAt W0.heap.size ⟨l.toArray⟩ (j + 1)).cell? ⟨w.heap.size, 0, none⟩ = some (.int .i32 f.l) := by simp [World.cell?, b1]
      generalize wr.iterAt W0.heap.size ⟨l.toArray⟩ (j + 1) = W1 at *
      by_cases hq : ((c.toNat : Int) == f.l) = true
      · have Hs := Lib.hid (hasL_yes l j c f.l hc hq)
        go_wp2_with fail
        go_ret
        exact ⟨by rw [Hs.out]; rfl, b3⟩
      · have hq2 : ((c.toNat : Int) == f.l) = false := by simpa using hq
        have Hs := Lib.hid (hasL_no l j c f.l hc Hh.out hq2)
        clear hq
        go_wp2_with fail
        go_roundw
        case rel => exact ⟨j + 1, Hs, b2, b1, b3⟩
        case measure => rw [hm]; simp [World.iterPos, b2]; omega
    · have hn := fun ty => run_next_end_at (P := Tryz.prog) wr W0.heap.size ⟨l.toArray⟩ j ty hi hj
      have Hs : Hid (hasL l f.l = false) := Lib.hid (by have := Hh.out; rw [List.take_of_length_le (by omega)] at this; exact this)
      go_wp2_with fail
      go_ret
      exact ⟨by rw [Hs.out]; rfl, hb⟩
end Go.Proofs.YtloamijcabkekaaGreatDoor.Msg
