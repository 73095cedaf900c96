/-
  The walk of the statement UtfOrders.
-/
import Derived.Test.YtpkabinmnkadeaaUo
import Derived.Test.YtpkabinmnkadeaaUh
import Derived.Deep.DeepCutAuto
import Derived.Deep.CutBlock
namespace Go.Proofs.Ytpkabinmnkadeaa.Utf
open Go.RowKit Go.Proofs.Ytpkabinmnkadeaa.Mem

theorem ext_drop (l : List UInt8) (m : Nat) : ((ByteArray.mk l.toArray).extract m l.length).data.toList = l.drop m := by
  simp [ByteArray.extract, ByteArray.copySlice]
  rw [List.take_of_length_le (by simp)]
theorem ext_size (l : List UInt8) (m : Nat) : ((ByteArray.mk l.toArray).extract m l.length).size = l.length - m := by
  rw [← len_data, ext_drop, List.length_drop]

set_option maxRecDepth 100000 in
set_option maxHeartbeats 2000000 in
theorem orders_yes (ao1 ao2 : Option Addr) (n1 n2 cap1 cap2 : Nat) (a b : List Int) (w : World) (hr1 : Rd w 1 ao1 n1 cap1 (ruV a)) (hr2 : Rd w 1 ao2 n2 cap2 (ruV b)) (h1 : n1 ≤ 300) (h2 : n2 ≤ 300) (ha : allMay a) (hb : allMay b) :
    Calls Try.prog 6 #[.slice ao1 n1 cap1, .slice ao2 n2 cap2] w (GivesTrue w) := by
  have la : a.length = n1 := by have := hr1.1; rw [ruV_len] at this; omega
  have lb : b.length = n2 := by have := hr2.1; rw [ruV_len] at this; omega
  have LA := Lib.hid la
  have LB := Lib.hid lb
  have HA := Lib.hid ha
  have HB := Lib.hid hb
  have t1 : decide (300 < (n1 : Int)) = false := by simp; omega
  have t2 : decide (300 < (n2 : Int)) = false := by simp; omega
  clear la lb ha hb
  go_enter Try.func6, Try.ntmps6
  go_wp2_with fail
  refine (known_any _).mono ?_
  rintro e w1 ⟨rfl, hb1⟩
  go_wp2_with fail
  refine (encode_yes _ _ _ a _ (hr1.later hb1) (by omega) HA.out).mono ?_
  rintro e w2 ⟨rfl, hb2⟩
  go_wp2_with fail
  have hb12 := hb1.trans (hb2.mono hb1.size)
  refine (encode_yes _ _ _ b _ (hr2.later hb12) (by omega) HB.out).mono ?_
  rintro e w3 ⟨rfl, hb3⟩
  have hb13 := hb12.trans (hb3.mono hb12.size)
  have hr1' := hr1.later hb13
  have hr2' := hr2.later hb13
  go_upto_block 0 with (go_at_call 23; refine (num_any _ _).mono ?_; rintro e w4 ⟨rfl, rfl⟩)
  go_cut [9, 10] (fun s9 s10 wx => s9 = .bool (ltL a b) ∧ s10 = .bool (decide (a = b)) ∧ Below w.heap.size w wx)
  case first =>
    go_wp2_with fail
    go_loopw [9, 10, 11] (fun s9 s10 i wr => ∃ k : Nat, k ≤ n1 ∧ k ≤ n2 ∧ i = .int .i64 k ∧ s9 = .bool false ∧ s10 = .bool ((n1 : Int) == (n2 : Int)) ∧ Hid (a.take k = b.take k) ∧ Below w.heap.size w wr) (fun _ _ i _ => 300 - (intOf i).toNat)
    case atStart => exact ⟨0, Nat.zero_le _, Nat.zero_le _, rfl, rfl, rfl, Lib.hid rfl, hb13⟩
    case round =>
      obtain ⟨k, hk1, hk2, rfl, rfl, rfl, Ht, hbr⟩ := hrel
      by_cases ha : k < n1
      · by_cases hb : k < n2
        · obtain ⟨b1, o1, e1, hlt1, hc1⟩ := hr1.some (by have := hr1.le; omega)
          obtain ⟨b2, o2, e2, hlt2, hc2⟩ := hr2.some (by have := hr2.le; omega)
          subst e1; subst e2
          have c1 := (hbr.cell (p := ⟨b1, o1 + k, none⟩) hlt1).trans (hc1 k _ (ruV_at a k (by rw [LA.out]; exact ha)))
          have c2 := (hbr.cell (p := ⟨b2, o2 + k, none⟩) hlt2).trans (hc2 k _ (ruV_at b k (by rw [LB.out]; exact hb)))
          have d1 : decide ((k : Int) < (n1 : Int)) = true := by simp; omega
          have d2 : decide ((k : Int) < (n2 : Int)) = true := by simp; omega
          have d3 : decide ((n1 : Int) ≤ (k : Int)) = false := by simp; omega
          have d4 : decide ((n2 : Int) ≤ (k : Int)) = false := by simp; omega
          have d5 : decide (k < n1) = true := by simp; omega
          have d6 : decide (k < n2) = true := by simp; omega
          have d7 : decide (n1 ≤ k) = false := by simp; omega
          have d8 : decide (n2 ≤ k) = false := by simp; omega
          have i0 : (0 : Int) ≤ (k : Int) := by omega
          have i1 : (k : Int) < (n1 : Int) := by omega
          have i2 : (k : Int) < (n2 : Int) := by omega
          rcases Int.lt_trichotomy (a[k]?.getD 0) (b[k]?.getD 0) with hlt | heq | hgt
          · have hM := Lib.hid (ltL_mid k a b Ht.out (by rw [LA.out]; exact ha) (by rw [LB.out]; exact hb) (by omega))
            have f1 : decide (a[k]?.getD 0 < b[k]?.getD 0) = true := by simp; omega
            go_wp2
            go_quiet (fail)
            go_wp2
            go_meet
            case rel => exact ⟨congrArg Value.bool (by rw [hM.out.1]; exact f1.symm), congrArg Value.bool (by simp [hM.out.2]), below_drewN hbr _⟩
          · have Hn := Lib.hid (take_next k a b Ht.out (by rw [LA.out]; exact ha) (by rw [LB.out]; exact hb) heq)
            have f1 : decide (a[k]?.getD 0 < b[k]?.getD 0) = false := by simp; omega
            have f2 : decide (b[k]?.getD 0 < a[k]?.getD 0) = false := by simp; omega
            clear heq
            go_wp2
            go_quiet (fail)
            go_wp2
            go_quiet (fail)
            go_wp2
            go_roundw
            case rel => exact ⟨k + 1, by omega, by omega, by go_num, rfl, rfl, Hn, below_drewN hbr _⟩
            case measure => simp [intOf]; omega
          · have hM := Lib.hid (ltL_mid k a b Ht.out (by rw [LA.out]; exact ha) (by rw [LB.out]; exact hb) (by omega))
            have f1 : decide (a[k]?.getD 0 < b[k]?.getD 0) = false := by simp; omega
            have f2 : decide (b[k]?.getD 0 < a[k]?.getD 0) = true := by simp; omega
            go_wp2
            go_quiet (fail)
            go_wp2
            go_quiet (fail)
            go_wp2
            go_meet
            case rel => exact ⟨congrArg Value.bool (by rw [hM.out.1]; exact f1.symm), congrArg Value.bool (by simp [hM.out.2]), below_drewN (below_drewN hbr _) _⟩
        · have hM := Lib.hid (ltL_end2 k a b Ht.out (by rw [LA.out]; exact ha) (by rw [LB.out]; omega))
          have d1 : decide ((k : Int) < (n1 : Int)) = true := by simp; omega
          have d2 : decide ((k : Int) < (n2 : Int)) = false := by simp; omega
          have d3 : decide ((n1 : Int) ≤ (k : Int)) = false := by simp; omega
          have d4 : decide ((n2 : Int) ≤ (k : Int)) = true := by simp; omega
          have d5 : decide (k < n1) = true := by simp; omega
          have d6 : decide (k < n2) = false := by simp; omega
          have d7 : decide (n1 ≤ k) = false := by simp; omega
          have d8 : decide (n2 ≤ k) = true := by simp; omega
          go_wp2
          go_quiet (fail)
          go_wp2
          go_quiet (fail)
          go_wp2
          go_meet
          case rel => exact ⟨congrArg Value.bool (by rw [hM.out.1]), congrArg Value.bool (by simp [hM.out.2]), below_drewN (below_drewN hbr _) _⟩
      · have hk : k = n1 := by omega
        have hM := Lib.hid (ltL_end k a b Ht.out (by rw [LA.out]; exact hk) (by rw [LB.out]; exact hk2))
        have hM2 : Hid (ltL a b = decide (k < n2) ∧ decide (a = b) = decide (k = n2)) := by
          have := hM.out; rw [LB.out] at this; exact ⟨this.1, decide_eq_decide.2 this.2⟩
        clear hM
        by_cases hb : k < n2
        · have d1 : decide ((k : Int) < (n1 : Int)) = false := by simp; omega
          have d2 : decide ((k : Int) < (n2 : Int)) = true := by simp; omega
          have d3 : decide ((n1 : Int) ≤ (k : Int)) = true := by simp; omega
          have d5 : decide (k < n1) = false := by simp; omega
          have d6 : decide (k < n2) = true := by simp; omega
          have d7 : decide (n1 ≤ k) = true := by simp; omega
          clear hk
          go_wp2
          go_quiet (fail)
          go_wp2
          go_meet
          case rel => exact ⟨congrArg Value.bool (by rw [hM2.out.1]; simp; omega), congrArg Value.bool (by rw [hM2.out.2]; simp; omega), below_drewN hbr _⟩
        · have d1 : decide ((k : Int) < (n1 : Int)) = false := by simp; omega
          have d2 : decide ((k : Int) < (n2 : Int)) = false := by simp; omega
          have d5 : decide (k < n1) = false := by simp; omega
          have d6 : decide (k < n2) = false := by simp; omega
          have hkk := Lib.hid hk
          clear hk
          go_wp2
          go_meet
          case rel => exact ⟨congrArg Value.bool (by rw [hM2.out.1]; simp; omega), congrArg Value.bool (by rw [hM2.out.2, Bool.eq_iff_iff]; have := hkk.out; simp; omega), hbr⟩
  case rest =>
    obtain ⟨rfl, rfl, hbc⟩ := hcut
    have e1 := less_all a b HA.out HB.out
    have e2 : (encAll a == encAll b) = decide (a = b) := by
      rw [Bool.eq_iff_iff, beq_iff_eq, decide_eq_true_iff]
      exact ⟨enc_inj a b HA.out HB.out, fun h => by rw [h]⟩
    have hla := encAll_len a
    have hla2 : (encAll a).length ≤ 1200 := by rw [LA.out] at hla; omega
    clear hla
    go_wp2
    go_loopw [12, 13] (fun at_ i wr => ∃ k : Nat, k ≤ n1 ∧ i = .int .i64 k ∧ at_ = .int .i64 (((encAll (a.take k)).length : Nat) : Int) ∧ Below w.heap.size w wr) (fun _ i _ => n1 - (intOf i).toNat)
    case atStart => exact ⟨0, Nat.zero_le _, rfl, rfl, hbc⟩
    case round =>
      obtain ⟨k, hk, rfl, rfl, hbr⟩ := hrel
      by_cases hlt : k < n1
      · obtain ⟨b1, o1, ee1, hlt1, hc1⟩ := hr1.some (by have := hr1.le; omega)
        subst ee1
        have c1 := (hbr.cell (p := ⟨b1, o1 + k, none⟩) hlt1).trans (hc1 k _ (ruV_at a k (by rw [LA.out]; exact hlt)))
        have hmr := Lib.hid (HA.out (a[k]?.getD 0) (by rw [List.getElem?_eq_getElem (by rw [LA.out]; exact hlt)]; exact List.getElem_mem _))
        have hnx := Lib.hid (fun j => nx_within a k j (by rw [LA.out]; exact hlt) HA.out)
        have hat := Lib.hid (encAll_at a k (by rw [LA.out]; exact hlt))
        have hle := encAll_le a k
        have hle1 := encAll_le a (k + 1)
        rw [hat.out] at hle1
        have hle4 := enc_le (a[k]?.getD 0)
        generalize hp : (encAll (a.take k)).length = p at *
        have hp' := Lib.hid hp
        clear hp
        go_wp2_with fail
        refine (rput_any _ _ hmr.out).mono ?_
        rintro e w5 ⟨ao, cap, rfl, hrd, hb5⟩
        have hb15 := hbr.trans (hb5.mono hbr.size)
        generalize hq : (enc (a[k]?.getD 0)).length = q at *
        have hq' := Lib.hid hq
        clear hq
        go_wp2
        obtain ⟨wo, hwo⟩ : ∃ wo : World, wo = w5 := ⟨_, rfl⟩
        subst hwo
        go_loopw [15] (fun j wi => ∃ m : Nat, p + 1 ≤ m ∧ m ≤ p + q + 1 ∧ j = .int .i64 m ∧ wi = wo) (fun j _ => 2000 - (intOf j).toNat)
        case atStart => exact ⟨p + 1, Nat.le_refl _, by omega, by go_num, rfl⟩
        case round =>
          obtain ⟨m, hm1, hm2, rfl, rfl⟩ := hrel
          by_cases hm3 : m < p + q
          · have hnm := Lib.hid (hnx.out m (by omega) (by omega))
            have hd := Lib.hid (ext_drop (encAll a) m)
            go_wp2_with fail
            refine (next_ok _ _ (by unfold maxLen; rw [ext_size]; omega)).mono ?_
            rintro e w6 ⟨rfl, rfl⟩
            rw [hd.out, hnm.out]
            go_wp2_with (go_at_call 23; refine (num_any _ _).mono ?_; rintro e w4 ⟨rfl, rfl⟩)
            go_roundw
            case rel => exact ⟨m + 1, by omega, by omega, by go_num, trivial⟩
            case measure => simp [intOf]; omega
          · go_wp2
            go_roundw
            case rel => exact ⟨k + 1, by omega, by go_num, congrArg (Value.int .i64) (by rw [hat.out]; simp), hb15⟩
            case measure => simp [intOf]; omega
      · have hfull : a.take k = a := List.take_of_length_le (by rw [LA.out]; omega)
        rw [hfull]
        clear hfull
        go_wp2
        go_ret
        exact ⟨by simp, hbr⟩

set_option maxRecDepth 100000 in
set_option maxHeartbeats 1000000 in
theorem orders_many (ao1 ao2 : Option Addr) (n1 n2 cap1 cap2 : Nat) (w : World) (h : 300 < n1 ∨ 300 < n2) :
    Calls Try.prog 6 #[.slice ao1 n1 cap1, .slice ao2 n2 cap2] w (GivesTrue w) := by
  by_cases h1 : 300 < n1
  · have t1 : decide (300 < (n1 : Int)) = true := by simp; omega
    go_enter Try.func6, Try.ntmps6
    go_wp2_with (go_at_call 16; refine (known_any _).mono ?_; rintro e w1 ⟨rfl, hb1⟩)
    go_ret
    exact ⟨rfl, hb1⟩
  · have t1 : decide (300 < (n1 : Int)) = false := by simp; omega
    have t2 : decide (300 < (n2 : Int)) = true := by simp; omega
    go_enter Try.func6, Try.ntmps6
    go_wp2_with (go_at_call 16; refine (known_any _).mono ?_; rintro e w1 ⟨rfl, hb1⟩)
    go_ret
    exact ⟨rfl, hb1⟩

/-- What Encode answers, in one. -/
theorem encode_any (ao : Option Addr) (n cap : Nat) (l : List Int) (w : World) (hr : Rd w 1 ao n cap (ruV l)) (hn : n ≤ 10000000) :
    Calls Try.prog 24 #[.slice ao n cap] w fun e w' => ∃ s q, e = .returned (.tuple #[.string s, .int .i64 q]) ∧ Below w.heap.size w w' ∧ ((allMay l ∧ s = ⟨(encAll l).toArray⟩ ∧ q = 0) ∨ (¬ allMay l ∧ s = ByteArray.empty ∧ q = 2)) := by
  by_cases h : allMay l
  · exact (encode_yes ao n cap l w hr hn h).mono fun e w' ⟨he, hb⟩ => ⟨_, _, he, hb, .inl ⟨h, rfl, rfl⟩⟩
  · exact (encode_no ao n cap l w hr hn h).mono fun e w' ⟨he, hb⟩ => ⟨_, _, he, hb, .inr ⟨h, rfl, rfl⟩⟩

set_option maxRecDepth 100000 in
set_option maxHeartbeats 1000000 in
theorem orders_no (ao1 ao2 : Option Addr) (n1 n2 cap1 cap2 : Nat) (a b : List Int) (w : World) (hr1 : Rd w 1 ao1 n1 cap1 (ruV a)) (hr2 : Rd w 1 ao2 n2 cap2 (ruV b)) (h1 : n1 ≤ 300) (h2 : n2 ≤ 300) (h : ¬ (allMay a ∧ allMay b)) :
    Calls Try.prog 6 #[.slice ao1 n1 cap1, .slice ao2 n2 cap2] w (GivesTrue w) := by
  have t1 : decide (300 < (n1 : Int)) = false := by simp; omega
  have t2 : decide (300 < (n2 : Int)) = false := by simp; omega
  have H := Lib.hid h
  clear h
  go_enter Try.func6, Try.ntmps6
  go_wp2_with fail
  refine (known_any _).mono ?_
  rintro e w1 ⟨rfl, hb1⟩
  go_wp2_with fail
  refine (encode_any _ _ _ a _ (hr1.later hb1) (by omega)).mono ?_
  rintro e w2 ⟨s1, q1, rfl, hb2, hs1⟩
  have hb12 := hb1.trans (hb2.mono hb1.size)
  have Hs1 := Lib.hid hs1
  clear hs1
  go_wp2_with fail
  refine (encode_any _ _ _ b _ (hr2.later hb12) (by omega)).mono ?_
  rintro e w3 ⟨s2, q2, rfl, hb3, hs2⟩
  have hb13 := hb12.trans (hb3.mono hb12.size)
  have hq : (q1 = 0 ∧ q2 = 2) ∨ (q1 = 2 ∧ q2 = 0) ∨ (q1 = 2 ∧ q2 = 2) := by
    rcases Hs1.out with ⟨ha, _, h1⟩ | ⟨ha, _, h1⟩ <;> rcases hs2 with ⟨hb, _, h2⟩ | ⟨hb, _, h2⟩
    · exact absurd ⟨ha, hb⟩ H.out
    · exact .inl ⟨h1, h2⟩
    · exact .inr (.inl ⟨h1, h2⟩)
    · exact .inr (.inr ⟨h1, h2⟩)
  clear hs2 Hs1
  rcases hq with ⟨rfl, rfl⟩ | ⟨rfl, rfl⟩ | ⟨rfl, rfl⟩
  all_goals
    go_wp2_with (go_at_call 23; refine (num_any _ _).mono ?_; rintro e w4 ⟨rfl, rfl⟩)
    go_ret
    exact ⟨rfl, hb13⟩

theorem orders_any (ao1 ao2 : Option Addr) (n1 n2 cap1 cap2 : Nat) (a b : List Int) (w : World) (hr1 : Rd w 1 ao1 n1 cap1 (ruV a)) (hr2 : Rd w 1 ao2 n2 cap2 (ruV b)) :
    Calls Try.prog 6 #[.slice ao1 n1 cap1, .slice ao2 n2 cap2] w (GivesTrue w) := by
  by_cases h : 300 < n1 ∨ 300 < n2
  · exact orders_many ao1 ao2 n1 n2 cap1 cap2 w h
  · by_cases hm : allMay a ∧ allMay b
    · exact orders_yes ao1 ao2 n1 n2 cap1 cap2 a b w hr1 hr2 (by omega) (by omega) hm.1 hm.2
    · exact orders_no ao1 ao2 n1 n2 cap1 cap2 a b w hr1 hr2 (by omega) (by omega) hm
end Go.Proofs.Ytpkabinmnkadeaa.Utf
