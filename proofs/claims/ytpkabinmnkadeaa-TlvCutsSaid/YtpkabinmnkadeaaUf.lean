/-
  The walks of utf.Encode and of the reference's Encode.
-/
import Derived.Test.YtpkabinmnkadeaaUe
namespace Go.Proofs.Ytpkabinmnkadeaa.Utf
open Go.RowKit Go.Proofs.Ytpkabinmnkadeaa.Mem

/-- Runes as cells. -/
def ruV (l : List Int) : List Value := l.map (Value.int .i32)
theorem ruV_len (l : List Int) : (ruV l).length = l.length := by simp [ruV]
def encAll (l : List Int) : List UInt8 := l.flatMap enc
theorem encAll_nil : encAll [] = [] := rfl
theorem encAll_snoc (l : List Int) (r : Int) : encAll (l ++ [r]) = encAll l ++ enc r := by simp [encAll]
theorem encAll_cons (l : List Int) (r : Int) : encAll (r :: l) = enc r ++ encAll l := by simp [encAll]
theorem encAll_len : ∀ (l : List Int), (encAll l).length ≤ 4 * l.length
  | [] => by simp [encAll]
  | r :: l => by
    have := encAll_len l; have := enc_le r
    rw [encAll_cons, List.length_append, List.length_cons]; omega
theorem take_at (l : List Int) (k : Nat) (h : k < l.length) : l.take (k + 1) = l.take k ++ [l[k]?.getD 0] := by
  rw [List.take_succ_eq_append_getElem h, List.getElem?_eq_getElem h]; rfl
theorem encAll_take (l : List Int) (k : Nat) (h : k < l.length) : encAll (l.take (k + 1)) = encAll (l.take k) ++ enc (l[k]?.getD 0) := by
  rw [take_at l k h, encAll_snoc]
theorem ruV_at (l : List Int) (k : Nat) (h : k < l.length) : (ruV l)[k]? = some (.int .i32 (l[k]?.getD 0)) := by
  simp [ruV, List.getElem?_eq_getElem h]
def allMay (l : List Int) : Prop := ∀ r ∈ l, may r = true

/-- What holds of Encode's bytes behind k runes. -/
def EncAt (w wr : World) (l : List Int) (k : Nat) (v : Value) : Prop :=
  wr.ownsRow w.heap.size 5 1 v (encAll (l.take k)).length (byV (encAll (l.take k))) ∧ Below w.heap.size w wr

def EncPost (w : World) (l : List Int) (e : Ending) (w' : World) : Prop := e = .returned (.tuple #[.string ⟨(encAll l).toArray⟩, .int .i64 0]) ∧ Below w.heap.size w w'

set_option maxRecDepth 100000 in
set_option maxHeartbeats 400000 in
theorem encode_yes (ao : Option Addr) (n cap : Nat) (l : List Int) (w : World) (hr : Rd w 1 ao n cap (ruV l)) (hn : n ≤ 10000000) (hm : allMay l) :
    Calls Try.prog 24 #[.slice ao n cap] w (EncPost w l) := by
  have hl : l.length = n := by have := hr.1; rw [ruV_len] at this; omega
  have HL := Lib.hid hl
  have HM := Lib.hid hm
  clear hl hm
  go_enter Try.func24, Try.ntmps24
  go_wp2
  go_loopw [4, 9] (fun v i wr => ∃ k : Nat, k ≤ n ∧ i = .int .i64 k ∧ EncAt w wr l k v) (fun _ i _ => n - (intOf i).toNat)
  case atStart => exact ⟨0, Nat.zero_le _, rfl, World.ownsRow_nil _ _ _ _, Below.refl _ _⟩
  case round =>
    obtain ⟨k, hk, rfl, hE⟩ := hrel
    by_cases hlt : k < n
    · obtain ⟨b, off, hao, hb, hc⟩ := hr.some (by have := hr.2.1; omega)
      subst hao
      have hcell := (hE.2.cell (p := ⟨b, off + k, none⟩) hb).trans (hc k _ (ruV_at l k (by rw [HL.out]; exact hlt)))
      have hm := Lib.hid (HM.out (l[k]?.getD 0) (by rw [List.getElem?_eq_getElem (by rw [HL.out]; exact hlt)]; exact List.getElem_mem _))
      have hz := hE.2.size
      have hle : (encAll (l.take k)).length ≤ 100000000 := by have := encAll_len (l.take k); have := List.length_take_le k l; omega
      go_wp2_with fail
      refine (may_any _ _).mono ?_
      rintro e w' ⟨rfl, rfl⟩
      rw [hm.out]
      go_wp2_with fail
      refine (put_any _ _ _ w.heap.size _ hm.out hE.1 hz hle).mono ?_
      rintro e w1 ⟨ao1, cap1, rfl, ho1, hb1⟩
      go_wp2
      go_roundw
      case rel =>
        refine ⟨k + 1, by omega, by go_num, ?_, hE.2.trans hb1⟩
        rw [encAll_take l k (by rw [HL.out]; exact hlt)]
        simpa only [List.length_append] using ho1
      case measure => simp [intOf]; omega
    · have hkn : k = n := by omega
      subst hkn
      have hfull : l.take k = l := List.take_of_length_le (by rw [HL.out]; exact Nat.le_refl _)
      obtain ⟨hE1, hbel⟩ := hE
      rw [hfull] at hE1
      clear hfull
      obtain ⟨ao1, cap1, rfl, hrd⟩ := Rd.of_own hE1
      have hcv := run_str (P := Try.prog) wr 22 9 5 Try.underlying22 Try.underlying5 Try.underlying9 ao1 _ cap1 _ hrd
      go_wp2
      go_ret2
      exact ⟨rfl, hbel⟩

theorem not_allMay {l : List Int} (h : ¬ allMay l) : ∃ k : Nat, k < l.length ∧ may (l[k]?.getD 0) = false ∧ ∀ j, j < k → may (l[j]?.getD 0) = true := by
  induction l with
  | nil => exact absurd (fun r hr => by cases hr) h
  | cons a l ih =>
    cases ha : may a with
    | false => exact ⟨0, by simp, by simpa using ha, fun j hj => by omega⟩
    | true =>
      have hn : ¬ allMay l := fun hl => h (fun r hr => by
        rcases List.mem_cons.1 hr with rfl | hr
        · exact ha
        · exact hl r hr)
      obtain ⟨k, h1, h2, h3⟩ := ih hn
      refine ⟨k + 1, by simpa using h1, by simpa using h2, fun j hj => ?_⟩
      cases j with
      | zero => simpa using ha
      | succ j => simpa using h3 j (by omega)

set_option maxRecDepth 100000 in
set_option maxHeartbeats 400000 in
theorem encode_no (ao : Option Addr) (n cap : Nat) (l : List Int) (w : World) (hr : Rd w 1 ao n cap (ruV l)) (hn : n ≤ 10000000) (hm : ¬ allMay l) :
    Calls Try.prog 24 #[.slice ao n cap] w fun e w' => e = .returned (.tuple #[.string ByteArray.empty, .int .i64 2]) ∧ Below w.heap.size w w' := by
  have hl : l.length = n := by have := hr.1; rw [ruV_len] at this; omega
  obtain ⟨q, q1, q2, q3⟩ := not_allMay hm
  have HL := Lib.hid hl
  have H2 := Lib.hid q2
  have H3 := Lib.hid q3
  have hqn : q < n := by omega
  clear hl hm q1 q2 q3
  go_enter Try.func24, Try.ntmps24
  go_wp2
  go_loopw [4, 9] (fun v i wr => ∃ k : Nat, k ≤ q ∧ i = .int .i64 k ∧ EncAt w wr l k v) (fun _ i _ => n - (intOf i).toNat)
  case atStart => exact ⟨0, Nat.zero_le _, rfl, World.ownsRow_nil _ _ _ _, Below.refl _ _⟩
  case round =>
    obtain ⟨k, hk, rfl, hE⟩ := hrel
    have hlt : k < n := by omega
    obtain ⟨b, off, hao, hb, hc⟩ := hr.some (by have := hr.2.1; omega)
    subst hao
    have hcell := (hE.2.cell (p := ⟨b, off + k, none⟩) hb).trans (hc k _ (ruV_at l k (by rw [HL.out]; exact hlt)))
    have hz := hE.2.size
    have hle : (encAll (l.take k)).length ≤ 100000000 := by have := encAll_len (l.take k); have := List.length_take_le k l; omega
    go_wp2_with fail
    refine (may_any _ _).mono ?_
    rintro e w' ⟨rfl, rfl⟩
    by_cases hkq : k < q
    · have hm := Lib.hid (H3.out k hkq)
      rw [hm.out]
      go_wp2_with fail
      refine (put_any _ _ _ w.heap.size _ hm.out hE.1 hz hle).mono ?_
      rintro e w1 ⟨ao1, cap1, rfl, ho1, hb1⟩
      go_wp2
      go_roundw
      case rel =>
        refine ⟨k + 1, by omega, by go_num, ?_, hE.2.trans hb1⟩
        rw [encAll_take l k (by rw [HL.out]; exact hlt)]
        simpa only [List.length_append] using ho1
      case measure => simp [intOf]; omega
    · obtain rfl : k = q := by omega
      rw [H2.out]
      go_wp2
      go_ret2
      exact ⟨rfl, hE.2⟩

set_option maxRecDepth 100000 in
set_option maxHeartbeats 400000 in
theorem rencode_yes (ao : Option Addr) (n cap : Nat) (l : List Int) (w : World) (hr : Rd w 1 ao n cap (ruV l)) (hn : n ≤ 10000000) (hm : allMay l) :
    Calls Try.prog 25 #[.slice ao n cap] w fun e w' => e = .returned (.string ⟨(encAll l).toArray⟩) ∧ Below w.heap.size w w' := by
  have hl : l.length = n := by have := hr.1; rw [ruV_len] at this; omega
  have HL := Lib.hid hl
  have HM := Lib.hid hm
  clear hl hm
  go_enter Try.func25, Try.ntmps25
  go_wp2
  go_loopw [3, 4] (fun v i wr => ∃ k : Nat, k ≤ n ∧ i = .int .i64 k ∧ EncAt w wr l k v) (fun _ i _ => n - (intOf i).toNat)
  case atStart => exact ⟨0, Nat.zero_le _, rfl, World.ownsRow_nil _ _ _ _, Below.refl _ _⟩
  case round =>
    obtain ⟨k, hk, rfl, hE⟩ := hrel
    by_cases hlt : k < n
    · obtain ⟨b, off, hao, hb, hc⟩ := hr.some (by have := hr.2.1; omega)
      subst hao
      have hcell := (hE.2.cell (p := ⟨b, off + k, none⟩) hb).trans (hc k _ (ruV_at l k (by rw [HL.out]; exact hlt)))
      have hm := Lib.hid (HM.out (l[k]?.getD 0) (by rw [List.getElem?_eq_getElem (by rw [HL.out]; exact hlt)]; exact List.getElem_mem _))
      have hz := hE.2.size
      have hle : (encAll (l.take k)).length ≤ 100000000 := by have := encAll_len (l.take k); have := List.length_take_le k l; omega
      have hle4 := enc_le (l[k]?.getD 0)
      go_wp2_with fail
      refine (rput_any _ _ hm.out).mono ?_
      rintro e w1 ⟨ao1, cap1, rfl, hrd1, hb1⟩
      have ho1 := own_later hE.1 hb1
      have hz1 := Nat.le_trans hz hb1.size
      go_wp2_with (at_builtin; refine wpList_app _ rfl _ _ 22 rfl w.heap.size 5 (.int .u8 0) 1 1 byT _ _ _ rfl ho1 _ _ _ _ rfl hrd1 (byV_one _) (by unfold maxLen; omega) (by omega) hz1 ?_; intro ao2 cap2 w2 ho2 _ hb2 _)
      go_roundw
      case rel =>
        refine ⟨k + 1, by omega, by go_num, ?_, (hE.2.trans (hb1.mono hz)).trans hb2⟩
        rw [encAll_take l k (by rw [HL.out]; exact hlt), byV_app]
        simpa only [List.length_append] using ho2
      case measure => simp [intOf]; omega
    · have hkn : k = n := by omega
      subst hkn
      have hfull : l.take k = l := List.take_of_length_le (by rw [HL.out]; exact Nat.le_refl _)
      obtain ⟨hE1, hbel⟩ := hE
      rw [hfull] at hE1
      clear hfull
      obtain ⟨ao1, cap1, rfl, hrd⟩ := Rd.of_own hE1
      have hcv := run_str (P := Try.prog) wr 22 9 5 Try.underlying22 Try.underlying5 Try.underlying9 ao1 _ cap1 _ hrd
      go_wp2
      go_ret
      exact ⟨rfl, hbel⟩
end Go.Proofs.Ytpkabinmnkadeaa.Utf
