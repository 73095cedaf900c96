/-
  The walks of the reference's Decode and Same.
-/
import Derived.Test.YtpkabinmnkadeaaUu
namespace Go.Proofs.Ytpkabinmnkadeaa.Utf
open Go.RowKit Go.Proofs.Ytpkabinmnkadeaa.Mem

theorem ext_dropT (s : ByteArray) (m e : Nat) : (s.extract m e).data.toList = (s.data.toList.drop m).take (e - m) := by
  simp [ByteArray.extract, ByteArray.copySlice]
theorem ext_sizeL (s : ByteArray) (m e : Nat) : (s.extract m e).size ≤ s.size := by
  rw [← len_data, ext_dropT, List.length_take, List.length_drop, len_data]; omega
theorem nx_takeM (l : List UInt8) (m : Nat) (h : 4 ≤ m ∨ l.length ≤ m) : nx (l.take m) = nx l := by
  rcases h with h | h
  · rw [← nx_take4 (l.take m), List.take_take, Nat.min_eq_left h, nx_take4]
  · rw [List.take_of_length_le h]
/-- A slice of runes is answered, and a place. -/
def GivesRN (w : World) (l : List Int) (n : Nat) (e : Ending) (w' : World) : Prop := ∃ ao cap, e = .returned (.tuple #[.slice ao l.length cap, .int .i64 (n : Int)]) ∧ Rd w' 1 ao l.length cap (ruV l) ∧ Below w.heap.size w w'

set_option maxRecDepth 100000 in
set_option maxHeartbeats 1000000 in
theorem rdecode_any (s : ByteArray) (w : World) (hs : s.size ≤ 1000000000) :
    Calls Try.prog 28 #[.string s] w (GivesRN w (runes s.data.toList) (wh s.data.toList)) := by
  have HS := Lib.hid (len_data s)
  have hNx := Lib.hid (fun k => nx_at s.data.toList k)
  have hLast := Lib.hid (nx_last s.data.toList)
  have hwl := wh_le s.data.toList
  have hrl := runes_len s.data.toList
  have hwh := Lib.hid (show wh s.data.toList = (encAll (runes s.data.toList)).length from rfl)
  rw [HS.out] at hwl hrl
  unfold wh at hLast hwl
  have hpl := Lib.hid (fun k => pl_le (runes s.data.toList) k)
  have hpf := Lib.hid (pl_full (runes s.data.toList) (runes s.data.toList).length (Nat.le_refl _))
  have hps := Lib.hid (fun k => pl_succ (runes s.data.toList) k)
  generalize hrs : runes s.data.toList = rs at *
  have Hrs := Lib.hid hrs
  clear hrs
  generalize wh s.data.toList = W0 at *
  go_enter Try.func28, Try.ntmps28
  go_wp2
  go_loopw [4, 5] (fun v i wr => ∃ k : Nat, k ≤ rs.length ∧ i = .int .i64 ((pl rs k : Nat) : Int) ∧ wr.ownsRow w.heap.size 21 1 v k (ruV (rs.take k)) ∧ Below w.heap.size w wr) (fun _ i _ => s.size - (intOf i).toNat)
  case atStart => exact ⟨0, Nat.zero_le _, rfl, World.ownsRow_nil _ _ _ _, Below.refl _ _⟩
  case round =>
    obtain ⟨k, hk, rfl, hrow, hbr⟩ := hrel
    have hd := Lib.hid (fun e => ext_dropT s (pl rs k) e)
    by_cases hkr : k < rs.length
    · obtain ⟨hx, hlt2⟩ := hNx.out k hkr
      rw [HS.out] at hlt2
      have Hx := Lib.hid hx
      clear hx
      have Hps := Lib.hid (hps.out k hkr)
      have hle := enc_le (rs[k]?.getD 0)
      have hpo := enc_pos (rs[k]?.getD 0)
      have hple := hpl.out (k + 1)
      rw [Hps.out] at hple
      generalize hr : rs[k]?.getD 0 = r at *
      have Hr := Lib.hid hr
      clear hr
      generalize hq : (enc r).length = q at *
      have Hq := Lib.hid hq
      clear hq
      generalize hp : pl rs k = p at *
      have Hp := Lib.hid hp
      clear hp
      have hlk := List.length_take_le k rs
      have hls := hd.out (p + 4)
      have hq1 : ∀ e : Nat, e = p + 4 ∨ (e = s.size ∧ s.size ≤ p + 4) → nx (s.extract p e).data.toList = (r, q) := by
        intro e he
        rw [hd.out, nx_takeM _ _ (by rw [List.length_drop, HS.out]; omega), Hx.out]
      have Hq1 := Lib.hid hq1
      clear hq1 hls
      have hz := hbr.size
      have e4 : ((p : Int) + 4).toNat = p + 4 := by omega
      have E4 := Lib.hid e4
      clear e4
      go_wp2_with fail
      all_goals
        refine (rnext_any _ _ (by unfold maxLen; have := ext_sizeL s p s.size; have := ext_sizeL s p ((p : Int) + 4).toNat; omega)).mono ?_
        rintro e w1 ⟨rfl, hb1⟩
        first | rw [Hq1.out _ (by rw [E4.out]; exact .inl rfl)] | rw [Hq1.out _ (.inr ⟨rfl, by omega⟩)]
        have ho1 := own_later hrow hb1
        have hz1 := hb1.size
        have hbr1 := hbr.trans (hb1.mono hz)
        go_wp2_with (at_builtin; refine wpList_lit _ rfl _ _ 39 rfl w.heap.size 21 (.int .i32 0) 1 4 ruT (by decide) _ _ _ rfl ho1 1 [.int .i32 r] rfl rfl (one1 _ rfl) (by omega) (by omega) ?_; intro ao2 cap2 w2 ho2 _ hb2 _)
        go_roundw
        case rel => exact ⟨k + 1, by omega, by rw [Hps.out]; simp, by rw [take_at rs k (by omega), Hr.out, ruV_snoc]; exact ho2, hbr1.trans hb2⟩
        case measure => simp [intOf]; omega
    · obtain rfl : k = rs.length := by omega
      have hL := hLast.out
      rw [← hpf.out] at hL hwl
      have HL := Lib.hid hL
      clear hL
      rw [List.take_length] at hrow
      have hwp : Hid (W0 = pl rs rs.length) := by have := hwh.out; rw [hpf.out]; exact this
      generalize hp : pl rs rs.length = p at *
      have Hp := Lib.hid hp
      clear hp
      have hq1 : ∀ e : Nat, e = p + 4 ∨ (e = s.size ∧ s.size ≤ p + 4) → nx (s.extract p e).data.toList = (0, 0) := by
        intro e he
        rw [hd.out, nx_takeM _ _ (by rw [List.length_drop, HS.out]; omega), HL.out]
      have Hq1 := Lib.hid hq1
      clear hq1
      have hz := hbr.size
      have e4 : ((p : Int) + 4).toNat = p + 4 := by omega
      have E4 := Lib.hid e4
      clear e4
      obtain ⟨ao3, cap3, rfl, hrd⟩ := Rd.of_own hrow
      by_cases hps' : p < s.size
      · go_wp2_with fail
        all_goals
          refine (rnext_any _ _ (by unfold maxLen; have := ext_sizeL s p s.size; have := ext_sizeL s p ((p : Int) + 4).toNat; omega)).mono ?_
          rintro e w1 ⟨rfl, hb1⟩
          first | rw [Hq1.out _ (by rw [E4.out]; exact .inl rfl)] | rw [Hq1.out _ (.inr ⟨rfl, by omega⟩)]
          go_wp2
          go_ret2
          exact ⟨ao3, cap3, by rw [hwp.out]; rfl, hrd.later hb1, hbr.trans (hb1.mono hz)⟩
      · go_wp2
        go_ret2
        exact ⟨ao3, cap3, by rw [hwp.out]; rfl, hrd, hbr⟩

def SameAt (a b : List Int) (k : Nat) : Prop := a.take k = b.take k
set_option maxRecDepth 100000 in
set_option maxHeartbeats 1000000 in
theorem same_any (ao1 ao2 : Option Addr) (n1 n2 cap1 cap2 : Nat) (a b : List Int) (w : World) (hr1 : Rd w 1 ao1 n1 cap1 (ruV a)) (hr2 : Rd w 1 ao2 n2 cap2 (ruV b)) (hn : n1 ≤ 1000000000) :
    Calls Try.prog 31 #[.slice ao1 n1 cap1, .slice ao2 n2 cap2] w fun e w' => e = .returned (.bool (decide (a = b))) ∧ Below w.heap.size w w' := by
  have la : a.length = n1 := by have := hr1.1; rw [ruV_len] at this; omega
  have lb : b.length = n2 := by have := hr2.1; rw [ruV_len] at this; omega
  have LA := Lib.hid la
  have LB := Lib.hid lb
  clear la lb
  by_cases hlen : n1 = n2
  · have hlen2 := hlen
    subst hlen
    clear hlen2
    go_enter Try.func31, Try.ntmps31
    go_wp2
    go_loopw [5] (fun i wr => ∃ k : Nat, k ≤ n1 ∧ i = .int .i64 k ∧ Hid (SameAt a b k) ∧ Below w.heap.size w wr) (fun i _ => n1 - (intOf i).toNat)
    case atStart => exact ⟨0, Nat.zero_le _, rfl, Lib.hid rfl, Below.refl _ _⟩
    case round =>
      obtain ⟨k, hk, rfl, Ht, hbr⟩ := hrel
      by_cases hlt : k < n1
      · obtain ⟨b1, o1, e1, hlt1, hc1⟩ := hr1.some (by have := hr1.le; omega)
        obtain ⟨b2, o2, e2, hlt2, hc2⟩ := hr2.some (by have := hr2.le; omega)
        subst e1; subst e2
        have c1 := (hbr.cell (p := ⟨b1, o1 + k, none⟩) hlt1).trans (hc1 k _ (ruV_at a k (by rw [LA.out]; exact hlt)))
        have c2 := (hbr.cell (p := ⟨b2, o2 + k, none⟩) hlt2).trans (hc2 k _ (ruV_at b k (by rw [LB.out]; exact hlt)))
        have i0 : (0 : Int) ≤ (k : Int) := by omega
        have i1 : (k : Int) < (n1 : Int) := by omega
        by_cases heq : a[k]?.getD 0 = b[k]?.getD 0
        · have Hn := Lib.hid (take_next k a b Ht.out (by rw [LA.out]; exact hlt) (by rw [LB.out]; exact hlt) heq)
          have f1 : (a[k]?.getD 0 != b[k]?.getD 0) = false := by simp [heq]
          clear heq
          go_wp2
          go_quiet (fail)
          go_wp2
          go_roundw
          case rel => exact ⟨k + 1, by omega, by go_num, Hn, below_drewN hbr _⟩
          case measure => simp [intOf]; omega
        · have hM := Lib.hid (ltL_mid k a b Ht.out (by rw [LA.out]; exact hlt) (by rw [LB.out]; exact hlt) heq)
          have f1 : (a[k]?.getD 0 != b[k]?.getD 0) = true := by simp [heq]
          clear heq
          go_wp2
          go_quiet (fail)
          go_wp2
          go_ret
          exact ⟨retB (by simp [hM.out.2]), below_drewN hbr _⟩
      · have hab : a = b := by
          have := Ht.out; unfold SameAt at this
          rwa [List.take_of_length_le (by rw [LA.out]; omega), List.take_of_length_le (by rw [LB.out]; omega)] at this
        have HAB := Lib.hid hab
        clear hab
        go_wp2
        go_ret
        exact ⟨retB (by rw [HAB.out]; simp), hbr⟩
  · have f1 : ((n1 : Int) != (n2 : Int)) = true := by simp; omega
    have hab : a ≠ b := fun h => hlen (by rw [← LA.out, ← LB.out, h])
    have HAB := Lib.hid hab
    clear hab
    go_enter Try.func31, Try.ntmps31
    go_wp2
    go_ret
    exact ⟨retB (by simp [HAB.out]), Below.refl _ _⟩
end Go.Proofs.Ytpkabinmnkadeaa.Utf
