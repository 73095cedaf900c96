/-
  A part of the proof: what this text holds is told at each of its declarations.
-/
import Derived.BigQuiet
import Derived.Test.YtgeafnggodkpaaaGreatZaah
import Derived.Test.YtgeafnggodkpaaaGreatZaaj
namespace Go.Proofs.YtgeafnggodkpaaaGreat.Msg
open Go.RowKit Go.Lib Go.Proofs.YtgeafnggodkpaaaGreat.Mem Go.Proofs.YtgeafnggodkpaaaGreat.Utf

theorem cmp_less : ∀ x y : List UInt8, (compareBytes x y < 0 ↔ Op.bytesLess x y = true) ∧ (compareBytes x y = 0 ↔ x = y)
  | [], [] => by simp [compareBytes, Op.bytesLess]
  | [], _ :: _ => by simp [compareBytes, Op.bytesLess]
  | _ :: _, [] => by simp [compareBytes, Op.bytesLess]
  | a :: x, b :: y => by
    obtain ⟨h1, h2⟩ := cmp_less x y
    by_cases hab : a < b
    · have hne : a ≠ b := fun e => by subst e; exact absurd hab (UInt8.lt_irrefl a)
      simp [compareBytes, Op.bytesLess, hab, hne]
    · by_cases hba : b < a
      · have hne : a ≠ b := fun e => by subst e; exact absurd hba (UInt8.lt_irrefl a)
        simp [compareBytes, Op.bytesLess, hab, hba, hne]
      · have he : a = b := UInt8.le_antisymm (UInt8.not_lt.1 hba) (UInt8.not_lt.1 hab)
        subst he
        simp [compareBytes, Op.bytesLess, hab, h1, h2]
theorem less_cmpA (a b : ByteArray × ByteArray) : decide (cmpA a b < 0) = (Op.bytesLess a.1.toList b.1.toList || (a.1.toList == b.1.toList && Op.bytesLess a.2.toList b.2.toList)) := by
  obtain ⟨h1, h2⟩ := cmp_less a.1.data.toList b.1.data.toList
  obtain ⟨h3, -⟩ := cmp_less a.2.data.toList b.2.data.toList
  rw [ByteArray.toList_eq, ByteArray.toList_eq, ByteArray.toList_eq, ByteArray.toList_eq]
  unfold cmpA orI
  by_cases hz : compareBytes a.1.data.toList b.1.data.toList = 0
  · rw [if_pos hz]
    have he := h2.1 hz
    have hl : Op.bytesLess a.1.data.toList b.1.data.toList = false := by
      cases hq : Op.bytesLess a.1.data.toList b.1.data.toList with
      | false => rfl
      | true => have := h1.2 hq; omega
    rw [hl, he, Bool.eq_iff_iff]
    simp [h3]
  · rw [if_neg hz]
    have hne : (a.1.data.toList == b.1.data.toList) = false := beq_eq_false_iff_ne.2 (fun e => hz (h2.2 e))
    rw [hne, Bool.eq_iff_iff]
    simp [h1]

set_option maxRecDepth 100000 in
theorem less_any (a b : ByteArray × ByteArray) (w : World) : Calls Tryz.prog 122 #[.agg #[.string a.1, .string a.2], .agg #[.string b.1, .string b.2]] w (GivesB (decide (cmpA a b < 0)) w) := by
  have hb0 := below_two w (.cells #[.string a.1, .string a.2] 53) (.cells #[.string b.1, .string b.2] 53)
  rw [less_cmpA]
  cases h1 : Op.bytesLess a.1.toList b.1.toList
  · cases h2 : (a.1.toList == b.1.toList)
    · go_enter Tryz.func122, Tryz.ntmps122
      go_wp2_with fail
      go_ret
      exact ⟨rfl, hb0⟩
    · cases h3 : Op.bytesLess a.2.toList b.2.toList
      · go_enter Tryz.func122, Tryz.ntmps122
        go_wp2_with fail
        go_ret
        exact ⟨rfl, hb0⟩
      · go_enter Tryz.func122, Tryz.ntmps122
        go_wp2_with fail
        go_ret
        exact ⟨rfl, hb0⟩
  · go_enter Tryz.func122, Tryz.ntmps122
    go_wp2_with fail
    go_ret
    exact ⟨rfl, hb0⟩

/-- Two neighbours, in place. -/
def InTwoAt (wr : World) (u p : ByteArray × ByteArray) (b o o' : Nat) (W : World) : Prop := (W.cell? ⟨b, o, none⟩ = some (.string u.1) ∧ W.cell? ⟨b, o + 1, none⟩ = some (.string u.2)) ∧ (W.cell? ⟨b, o', none⟩ = some (.string p.1) ∧ W.cell? ⟨b, o' + 1, none⟩ = some (.string p.2)) ∧ Below wr.heap.size wr W
theorem cell_after {W W' : World} (hb : Below W.heap.size W W') {a : Addr} {x : Value} (h : W.cell? a = some x) : W'.cell? a = some x := (hb.cell (World.block_lt_of_cell? W _ h)).trans h
theorem InTwoAt.step {wr W W' : World} {u p : ByteArray × ByteArray} {b o o' : Nat} (h : InTwoAt wr u p b o o' W) (hb : Below W.heap.size W W') : InTwoAt wr u p b o o' W' :=
  ⟨⟨cell_after hb h.1.1, cell_after hb h.1.2⟩, ⟨cell_after hb h.2.1.1, cell_after hb h.2.1.2⟩, h.2.2.trans (hb.mono h.2.2.size)⟩

set_option maxRecDepth 100000 in
set_option maxHeartbeats 20000000 in
theorem rMayAttrs_any (ao : Option Addr) (n cap : Nat) (x : List (ByteArray × ByteArray)) (w : World) (hx : Rd w 2 ao n cap (atV x)) :
    Calls Tryz.prog 63 #[.slice ao n cap] w (GivesB (mayAttrs x) w) := by
  have hmo : Tryz.prog.follows .mixedOrders = true := by kernel_rfl
  have lx : x.length = n := by have := hx.1; rw [atV_len] at this; omega
  by_cases h50 : n ≤ 50
  case neg =>
    have f1 : decide ((50 : Int) < (n : Int)) = true := decide_eq_true (by omega)
    have HR : Hid (mayAttrs x = false) := Lib.hid (by unfold mayAttrs; rw [lx, decide_eq_false h50, Bool.and_false])
    clear h50 lx
    go_enter Tryz.func63, Tryz.ntmps63
    go_wp2_with fail
    go_ret
    exact ⟨by rw [HR.out]; rfl, Below.refl _ _⟩
  have f1 : decide ((50 : Int) < (n : Int)) = false := decide_eq_false (by omega)
  have LX := Lib.hid lx
  have H50 := Lib.hid h50
  have hn : (n : Int) < 1000 := by omega
  clear lx h50
  go_enter Tryz.func63, Tryz.ntmps63
  go_wp2_with fail
  go_loopw [3] (fun p wr => ∃ k : Nat, k ≤ n ∧ p = .int .i64 (k : Int) ∧ Hid ((x.take k).all mayAttr = true) ∧ Hid (rise (x.take k) = true) ∧ Below w.heap.size w wr) (fun p _ => n - (intOf p).toNat)
  case atStart => exact ⟨0, Nat.zero_le _, rfl, Lib.hid rfl, Lib.hid rfl, Below.refl _ _⟩
  case round =>
    obtain ⟨k, hk, rfl, Ha, Hr, hbr⟩ := hrel
    by_cases hkn : k < n
    · obtain ⟨b1, o1, rfl, hl1, hc1⟩ := hx.some (by have := hx.le; omega)
      obtain ⟨u, hu⟩ : ∃ u, x[k]? = some u := ⟨_, List.getElem?_eq_getElem (by rw [LX.out]; exact hkn)⟩
      obtain ⟨p, hp⟩ : ∃ p, x[k - 1]? = some p := ⟨_, List.getElem?_eq_getElem (by rw [LX.out]; omega)⟩
      obtain ⟨v1, v2⟩ := atV_at x k u hu
      obtain ⟨v3, v4⟩ := atV_at x (k - 1) p hp
      have c1 := (hbr.cell (p := ⟨b1, o1 + k * 2, none⟩) hl1).trans (hc1 (k * 2) _ v1)
      have c2 : wr.cell? ⟨b1, o1 + k * 2 + 1, none⟩ = _ := (hbr.cell (p := ⟨b1, o1 + (k * 2 + 1), none⟩) hl1).trans (hc1 (k * 2 + 1) _ v2)
      have c3 := (hbr.cell (p := ⟨b1, o1 + (k - 1) * 2, none⟩) hl1).trans (hc1 ((k - 1) * 2) _ v3)
      have c4 : wr.cell? ⟨b1, o1 + (k - 1) * 2 + 1, none⟩ = _ := (hbr.cell (p := ⟨b1, o1 + ((k - 1) * 2 + 1), none⟩) hl1).trans (hc1 ((k - 1) * 2 + 1) _ v4)
      clear v1 v2 v3 v4
      have i0 : (0 : Int) ≤ (k : Int) := by omega
      have i1 : (k : Int) < (n : Int) := by omega
      have s0 : InTwoAt wr u p b1 (o1 + k * 2) (o1 + (k - 1) * 2) wr.drew := ⟨⟨c1, c2⟩, ⟨c3, c4⟩, (Below.refl _ _).drew⟩
      clear c1 c2 c3 c4
      go_upto_region 6 with fail
      have hbw := hbr.size
      by_cases hm : mayAttr u = true
      · have HM := Lib.hid hm
        have hall : Hid ((x.take (k + 1)).all mayAttr = true) := Lib.hid (by obtain ⟨hl, e⟩ := List.getElem?_eq_some_iff.1 hu; rw [List.take_succ_eq_append_getElem hl, e, List.all_append, Ha.out]; simp [hm])
        clear hm
        by_cases hk0 : k = 0
        · have HR : Hid (rise (x.take (k + 1)) = true) := Lib.hid (rise_take x k u hu Hr.out (fun p h => absurd hk0 (by omega)))
          have g1 : decide ((0 : Int) < (k : Int)) = false := decide_eq_false (by omega)
          clear hk0
          refine wp_region_held (S := InTwoAt wr u p b1 (o1 + k * 2) (o1 + (k - 1) * 2)) hmo ?_
          change wpAnyH _ _ _ _ _ _ _ _ (World.drew wr)
          refine wpAnyH_take (i := 0) (v := .slice (some ⟨b1, o1, none⟩) n cap) rfl (by kernel_rfl) (by kernel_rfl) (by kernel_rfl) (fun _ _ _ h => h) (Or.inl ⟨by kernel_rfl, by intro _ _; kernel_rfl⟩) s0 ?_
          go_simp
          refine wpAnyH_take (i := 1) (v := .int .i64 (k : Int)) rfl (by kernel_rfl) (by kernel_rfl) (by kernel_rfl) (fun _ _ _ h => h) (Or.inl ⟨by kernel_rfl, by intro _ _; kernel_rfl⟩) s0 ?_
          go_simp
          refine wpAnyH_take (i := 2) (v := .pointer (some ⟨b1, o1 + k * 2, none⟩)) rfl (by kernel_rfl) (by kernel_rfl) (by kernel_rfl) (fun _ _ _ h => h) (Or.inl ⟨by kernel_rfl, by rintro w h; obtain ⟨⟨c0, c1⟩, ⟨c2, c3⟩, -⟩ := h; go_simp⟩) s0 ?_
          go_simp
          refine wpAnyH_take (i := 3) (v := .agg #[.string u.1, .string u.2]) rfl (by kernel_rfl) (by kernel_rfl) (by kernel_rfl) (fun _ _ _ h => h) (Or.inl ⟨by kernel_rfl, by rintro w h; obtain ⟨⟨c0, c1⟩, ⟨c2, c3⟩, -⟩ := h; go_simp⟩) s0 ?_
          go_simp
          refine wpAnyH_all (rs := [4]) (by kernel_rfl) (by simp) (fun j hj => ?_)
          rw [List.mem_singleton] at hj
          subst hj
          refine wpOp_step rfl (fun K hK => ?_)
          go_simp
          refine (rMayAttr_any u _).mono ?_
          rintro e W1 ⟨rfl, hb1⟩
          rw [HM.out]
          have s1 := s0.step hb1
          go_simp
          refine hK _ _ ⟨s1, ?_⟩
          clear hK K
          refine wpAnyH_take (i := 5) (v := .bool false) rfl (by kernel_rfl) (by kernel_rfl) (by kernel_rfl) (fun _ _ _ h => h) (Or.inl ⟨by kernel_rfl, by rintro w h; obtain ⟨⟨c0, c1⟩, ⟨c2, c3⟩, -⟩ := h; go_simp⟩) s1 ?_
          go_simp
          refine wpAnyH_take (i := 6) (v := .bool false) rfl (by kernel_rfl) (by kernel_rfl) (by kernel_rfl) (fun _ _ _ h => h) (Or.inl ⟨by kernel_rfl, by intro _ _; kernel_rfl⟩) s1 ?_
          go_simp
          refine wpAnyH_take (i := 7) (v := .int .i64 (k : Int)) rfl (by kernel_rfl) (by kernel_rfl) (by kernel_rfl) (fun _ _ _ h => h) (Or.inl ⟨by kernel_rfl, by intro _ _; kernel_rfl⟩) s1 ?_
          go_simp
          refine wpAnyH_take (i := 8) (v := .bool false) rfl (by kernel_rfl) (by kernel_rfl) (by kernel_rfl) (fun _ _ _ h => h) (Or.inl ⟨by kernel_rfl, by rintro w h; obtain ⟨⟨c0, c1⟩, ⟨c2, c3⟩, -⟩ := h; go_simp; have := of_decide_eq_false g1; omega⟩) s1 ?_
          go_simp
          refine wpAnyH_take (i := 9) (v := .bool false) rfl (by kernel_rfl) (by kernel_rfl) (by kernel_rfl) (fun _ _ _ h => h) (Or.inl ⟨by kernel_rfl, by intro _ _; kernel_rfl⟩) s1 ?_
          go_simp
          refine wpAnyH_take (i := 10) (v := undef) rfl (by kernel_rfl) (by kernel_rfl) (by kernel_rfl) (fun _ _ _ h => h) (Or.inr ⟨by kernel_rfl, rfl⟩) s1 ?_
          go_simp
          refine wpAnyH_take (i := 11) (v := undef) rfl (by kernel_rfl) (by kernel_rfl) (by kernel_rfl) (fun _ _ _ h => h) (Or.inr ⟨by kernel_rfl, rfl⟩) s1 ?_
          go_simp
          refine wpAnyH_take (i := 12) (v := undef) rfl (by kernel_rfl) (by kernel_rfl) (by kernel_rfl) (fun _ _ _ h => h) (Or.inr ⟨by kernel_rfl, rfl⟩) s1 ?_
          go_simp
          refine wpAnyH_take (i := 13) (v := undef) rfl (by kernel_rfl) (by kernel_rfl) (by kernel_rfl) (fun _ _ _ h => h) (Or.inr ⟨by kernel_rfl, rfl⟩) s1 ?_
          go_simp
          refine wpAnyH_take (i := 14) (v := undef) rfl (by kernel_rfl) (by kernel_rfl) (by kernel_rfl) (fun _ _ _ h => h) (Or.inr ⟨by kernel_rfl, rfl⟩) s1 ?_
          go_simp
          refine wpAnyH_take (i := 15) (v := undef) rfl (by kernel_rfl) (by kernel_rfl) (by kernel_rfl) (fun _ _ _ h => h) (Or.inr ⟨by kernel_rfl, rfl⟩) s1 ?_
          go_simp
          refine wpAnyH_take (i := 16) (v := undef) rfl (by kernel_rfl) (by kernel_rfl) (by kernel_rfl) (fun _ _ _ h => h) (Or.inr ⟨by kernel_rfl, rfl⟩) s1 ?_
          go_simp
          refine wpAnyH_take (i := 17) (v := undef) rfl (by kernel_rfl) (by kernel_rfl) (by kernel_rfl) (fun _ _ _ h => h) (Or.inr ⟨by kernel_rfl, rfl⟩) s1 ?_
          go_simp
          refine wpAnyH_take (i := 18) (v := undef) rfl (by kernel_rfl) (by kernel_rfl) (by kernel_rfl) (fun _ _ _ h => h) (Or.inr ⟨by kernel_rfl, rfl⟩) s1 ?_
          go_simp
          refine wpAnyH_take (i := 19) (v := undef) rfl (by kernel_rfl) (by kernel_rfl) (by kernel_rfl) (fun _ _ _ h => h) (Or.inr ⟨by kernel_rfl, rfl⟩) s1 ?_
          go_simp
          refine wpAnyH_take (i := 20) (v := undef) rfl (by kernel_rfl) (by kernel_rfl) (by kernel_rfl) (fun _ _ _ h => h) (Or.inr ⟨by kernel_rfl, rfl⟩) s1 ?_
          go_simp
          refine wpAnyH_take (i := 21) (v := .bool false) rfl (by kernel_rfl) (by kernel_rfl) (by kernel_rfl) (fun _ _ _ h => h) (Or.inl ⟨by kernel_rfl, by intro _ _; kernel_rfl⟩) s1 ?_
          go_simp
          refine wpAnyH_take (i := 22) (v := .bool false) rfl (by kernel_rfl) (by kernel_rfl) (by kernel_rfl) (fun _ _ _ h => h) (Or.inl ⟨by kernel_rfl, by intro _ _; kernel_rfl⟩) s1 ?_
          go_simp
          refine wpAnyH_done (by kernel_rfl) ?_ _
          go_wp2_with fail
          go_roundw
          case rel => exact ⟨k + 1, by omega, by go_num, hall, HR, hbr.trans (s1.2.2.mono hbw)⟩
          case measure => simp [intOf]; omega
        · have g1 : decide ((0 : Int) < (k : Int)) = true := decide_eq_true (by omega)
          have g2 : IntKind.wrap .i64 ((k : Int) - 1) = ((k - 1 : Nat) : Int) := by rw [IntKind.wrap_i64]; omega
          have i2 : (0 : Int) ≤ ((k - 1 : Nat) : Int) := by omega
          have i3 : ((k - 1 : Nat) : Int) < (n : Int) := by omega
          by_cases hcm : cmpA p u < 0
          · have HL := Lib.hid (decide_eq_true hcm)
            have HR : Hid (rise (x.take (k + 1)) = true) := Lib.hid (rise_take x k u hu Hr.out (fun q _ hq => by rw [hp] at hq; rw [← Option.some.inj hq]; exact hcm))
            clear hcm
            refine wp_region_held (S := InTwoAt wr u p b1 (o1 + k * 2) (o1 + (k - 1) * 2)) hmo ?_
            change wpAnyH _ _ _ _ _ _ _ _ (World.drew wr)
            refine wpAnyH_take (i := 0) (v := .slice (some ⟨b1, o1, none⟩) n cap) rfl (by kernel_rfl) (by kernel_rfl) (by kernel_rfl) (fun _ _ _ h => h) (Or.inl ⟨by kernel_rfl, by intro _ _; kernel_rfl⟩) s0 ?_
            go_simp
            refine wpAnyH_take (i := 1) (v := .int .i64 (k : Int)) rfl (by kernel_rfl) (by kernel_rfl) (by kernel_rfl) (fun _ _ _ h => h) (Or.inl ⟨by kernel_rfl, by intro _ _; kernel_rfl⟩) s0 ?_
            go_simp
            refine wpAnyH_take (i := 2) (v := .pointer (some ⟨b1, o1 + k * 2, none⟩)) rfl (by kernel_rfl) (by kernel_rfl) (by kernel_rfl) (fun _ _ _ h => h) (Or.inl ⟨by kernel_rfl, by rintro w h; obtain ⟨⟨c0, c1⟩, ⟨c2, c3⟩, -⟩ := h; go_simp⟩) s0 ?_
            go_simp
            refine wpAnyH_take (i := 3) (v := .agg #[.string u.1, .string u.2]) rfl (by kernel_rfl) (by kernel_rfl) (by kernel_rfl) (fun _ _ _ h => h) (Or.inl ⟨by kernel_rfl, by rintro w h; obtain ⟨⟨c0, c1⟩, ⟨c2, c3⟩, -⟩ := h; go_simp⟩) s0 ?_
            go_simp
            refine wpAnyH_all (rs := [4]) (by kernel_rfl) (by simp) (fun j hj => ?_)
            rw [List.mem_singleton] at hj
            subst hj
            refine wpOp_step rfl (fun K hK => ?_)
            go_simp
            refine (rMayAttr_any u _).mono ?_
            rintro e W1 ⟨rfl, hb1⟩
            rw [HM.out]
            have s1 := s0.step hb1
            go_simp
            refine hK _ _ ⟨s1, ?_⟩
            clear hK K
            refine wpAnyH_take (i := 5) (v := .bool false) rfl (by kernel_rfl) (by kernel_rfl) (by kernel_rfl) (fun _ _ _ h => h) (Or.inl ⟨by kernel_rfl, by rintro w h; obtain ⟨⟨c0, c1⟩, ⟨c2, c3⟩, -⟩ := h; go_simp⟩) s1 ?_
            go_simp
            refine wpAnyH_take (i := 6) (v := .bool false) rfl (by kernel_rfl) (by kernel_rfl) (by kernel_rfl) (fun _ _ _ h => h) (Or.inl ⟨by kernel_rfl, by intro _ _; kernel_rfl⟩) s1 ?_
            go_simp
            refine wpAnyH_take (i := 7) (v := .int .i64 (k : Int)) rfl (by kernel_rfl) (by kernel_rfl) (by kernel_rfl) (fun _ _ _ h => h) (Or.inl ⟨by kernel_rfl, by intro _ _; kernel_rfl⟩) s1 ?_
            go_simp
            refine wpAnyH_take (i := 8) (v := .bool true) rfl (by kernel_rfl) (by kernel_rfl) (by kernel_rfl) (fun _ _ _ h => h) (Or.inl ⟨by kernel_rfl, by rintro w h; obtain ⟨⟨c0, c1⟩, ⟨c2, c3⟩, -⟩ := h; go_simp; have := of_decide_eq_true g1; omega⟩) s1 ?_
            go_simp
            refine wpAnyH_take (i := 9) (v := .bool true) rfl (by kernel_rfl) (by kernel_rfl) (by kernel_rfl) (fun _ _ _ h => h) (Or.inl ⟨by kernel_rfl, by intro _ _; kernel_rfl⟩) s1 ?_
            go_simp
            refine wpAnyH_take (i := 10) (v := .slice (some ⟨b1, o1, none⟩) n cap) rfl (by kernel_rfl) (by kernel_rfl) (by kernel_rfl) (fun _ _ _ h => h) (Or.inl ⟨by kernel_rfl, by intro _ _; kernel_rfl⟩) s1 ?_
            go_simp
            refine wpAnyH_take (i := 11) (v := .int .i64 (k : Int)) rfl (by kernel_rfl) (by kernel_rfl) (by kernel_rfl) (fun _ _ _ h => h) (Or.inl ⟨by kernel_rfl, by intro _ _; kernel_rfl⟩) s1 ?_
            go_simp
            refine wpAnyH_take (i := 12) (v := .int .i64 ((k - 1 : Nat) : Int)) rfl (by kernel_rfl) (by kernel_rfl) (by kernel_rfl) (fun _ _ _ h => h) (Or.inl ⟨by kernel_rfl, by rintro w h; obtain ⟨⟨c0, c1⟩, ⟨c2, c3⟩, -⟩ := h; go_simp⟩) s1 ?_
            go_simp
            refine wpAnyH_take (i := 13) (v := .pointer (some ⟨b1, o1 + (k - 1) * 2, none⟩)) rfl (by kernel_rfl) (by kernel_rfl) (by kernel_rfl) (fun _ _ _ h => h) (Or.inl ⟨by kernel_rfl, by rintro w h; obtain ⟨⟨c0, c1⟩, ⟨c2, c3⟩, -⟩ := h; go_simp⟩) s1 ?_
            go_simp
            refine wpAnyH_take (i := 14) (v := .agg #[.string p.1, .string p.2]) rfl (by kernel_rfl) (by kernel_rfl) (by kernel_rfl) (fun _ _ _ h => h) (Or.inl ⟨by kernel_rfl, by rintro w h; obtain ⟨⟨c0, c1⟩, ⟨c2, c3⟩, -⟩ := h; go_simp⟩) s1 ?_
            go_simp
            refine wpAnyH_take (i := 15) (v := .slice (some ⟨b1, o1, none⟩) n cap) rfl (by kernel_rfl) (by kernel_rfl) (by kernel_rfl) (fun _ _ _ h => h) (Or.inl ⟨by kernel_rfl, by intro _ _; kernel_rfl⟩) s1 ?_
            go_simp
            refine wpAnyH_take (i := 16) (v := .int .i64 (k : Int)) rfl (by kernel_rfl) (by kernel_rfl) (by kernel_rfl) (fun _ _ _ h => h) (Or.inl ⟨by kernel_rfl, by intro _ _; kernel_rfl⟩) s1 ?_
            go_simp
            refine wpAnyH_take (i := 17) (v := .pointer (some ⟨b1, o1 + k * 2, none⟩)) rfl (by kernel_rfl) (by kernel_rfl) (by kernel_rfl) (fun _ _ _ h => h) (Or.inl ⟨by kernel_rfl, by rintro w h; obtain ⟨⟨c0, c1⟩, ⟨c2, c3⟩, -⟩ := h; go_simp⟩) s1 ?_
            go_simp
            refine wpAnyH_take (i := 18) (v := .agg #[.string u.1, .string u.2]) rfl (by kernel_rfl) (by kernel_rfl) (by kernel_rfl) (fun _ _ _ h => h) (Or.inl ⟨by kernel_rfl, by rintro w h; obtain ⟨⟨c0, c1⟩, ⟨c2, c3⟩, -⟩ := h; go_simp⟩) s1 ?_
            go_simp
            refine wpAnyH_all (rs := [19]) (by kernel_rfl) (by simp) (fun j hj => ?_)
            rw [List.mem_singleton] at hj
            subst hj
            refine wpOp_step rfl (fun K hK => ?_)
            go_simp
            refine (less_any p u _).mono ?_
            rintro e W2 ⟨rfl, hb2⟩
            rw [HL.out]
            have s2 := s1.step hb2
            go_simp
            refine hK _ _ ⟨s2, ?_⟩
            clear hK K
            refine wpAnyH_take (i := 20) (v := .bool false) rfl (by kernel_rfl) (by kernel_rfl) (by kernel_rfl) (fun _ _ _ h => h) (Or.inl ⟨by kernel_rfl, by rintro w h; obtain ⟨⟨c0, c1⟩, ⟨c2, c3⟩, -⟩ := h; go_simp⟩) s2 ?_
            go_simp
            refine wpAnyH_take (i := 21) (v := .bool false) rfl (by kernel_rfl) (by kernel_rfl) (by kernel_rfl) (fun _ _ _ h => h) (Or.inl ⟨by kernel_rfl, by intro _ _; kernel_rfl⟩) s2 ?_
            go_simp
            refine wpAnyH_take (i := 22) (v := .bool false) rfl (by kernel_rfl) (by kernel_rfl) (by kernel_rfl) (fun _ _ _ h => h) (Or.inl ⟨by kernel_rfl, by intro _ _; kernel_rfl⟩) s2 ?_
            go_simp
            refine wpAnyH_done (by kernel_rfl) ?_ _
            go_wp2_with fail
            go_roundw
            case rel => exact ⟨k + 1, by omega, by go_num, hall, HR, hbr.trans (s2.2.2.mono hbw)⟩
            case measure => simp [intOf]; omega
          · have HL := Lib.hid (decide_eq_false hcm)
            have HR : Hid (mayAttrs x = false) := Lib.hid (by unfold mayAttrs; rw [rise_no (k - 1) x p u hp (by rw [show k - 1 + 1 = k from by omega]; exact hu) hcm]; simp)
            clear hcm
            refine wp_region_held (S := InTwoAt wr u p b1 (o1 + k * 2) (o1 + (k - 1) * 2)) hmo ?_
            change wpAnyH _ _ _ _ _ _ _ _ (World.drew wr)
            refine wpAnyH_take (i := 0) (v := .slice (some ⟨b1, o1, none⟩) n cap) rfl (by kernel_rfl) (by kernel_rfl) (by kernel_rfl) (fun _ _ _ h => h) (Or.inl ⟨by kernel_rfl, by intro _ _; kernel_rfl⟩) s0 ?_
            go_simp
            refine wpAnyH_take (i := 1) (v := .int .i64 (k : Int)) rfl (by kernel_rfl) (by kernel_rfl) (by kernel_rfl) (fun _ _ _ h => h) (Or.inl ⟨by kernel_rfl, by intro _ _; kernel_rfl⟩) s0 ?_
            go_simp
            refine wpAnyH_take (i := 2) (v := .pointer (some ⟨b1, o1 + k * 2, none⟩)) rfl (by kernel_rfl) (by kernel_rfl) (by kernel_rfl) (fun _ _ _ h => h) (Or.inl ⟨by kernel_rfl, by rintro w h; obtain ⟨⟨c0, c1⟩, ⟨c2, c3⟩, -⟩ := h; go_simp⟩) s0 ?_
            go_simp
            refine wpAnyH_take (i := 3) (v := .agg #[.string u.1, .string u.2]) rfl (by kernel_rfl) (by kernel_rfl) (by kernel_rfl) (fun _ _ _ h => h) (Or.inl ⟨by kernel_rfl, by rintro w h; obtain ⟨⟨c0, c1⟩, ⟨c2, c3⟩, -⟩ := h; go_simp⟩) s0 ?_
            go_simp
            refine wpAnyH_all (rs := [4]) (by kernel_rfl) (by simp) (fun j hj => ?_)
            rw [List.mem_singleton] at hj
            subst hj
            refine wpOp_step rfl (fun K hK => ?_)
            go_simp
            refine (rMayAttr_any u _).mono ?_
            rintro e W1 ⟨rfl, hb1⟩
            rw [HM.out]
            have s1 := s0.step hb1
            go_simp
            refine hK _ _ ⟨s1, ?_⟩
            clear hK K
            refine wpAnyH_take (i := 5) (v := .bool false) rfl (by kernel_rfl) (by kernel_rfl) (by kernel_rfl) (fun _ _ _ h => h) (Or.inl ⟨by kernel_rfl, by rintro w h; obtain ⟨⟨c0, c1⟩, ⟨c2, c3⟩, -⟩ := h; go_simp⟩) s1 ?_
            go_simp
            refine wpAnyH_take (i := 6) (v := .bool false) rfl (by kernel_rfl) (by kernel_rfl) (by kernel_rfl) (fun _ _ _ h => h) (Or.inl ⟨by kernel_rfl, by intro _ _; kernel_rfl⟩) s1 ?_
            go_simp
            refine wpAnyH_take (i := 7) (v := .int .i64 (k : Int)) rfl (by kernel_rfl) (by kernel_rfl) (by kernel_rfl) (fun _ _ _ h => h) (Or.inl ⟨by kernel_rfl, by intro _ _; kernel_rfl⟩) s1 ?_
            go_simp
            refine wpAnyH_take (i := 8) (v := .bool true) rfl (by kernel_rfl) (by kernel_rfl) (by kernel_rfl) (fun _ _ _ h => h) (Or.inl ⟨by kernel_rfl, by rintro w h; obtain ⟨⟨c0, c1⟩, ⟨c2, c3⟩, -⟩ := h; go_simp; have := of_decide_eq_true g1; omega⟩) s1 ?_
            go_simp
            refine wpAnyH_take (i := 9) (v := .bool true) rfl (by kernel_rfl) (by kernel_rfl) (by kernel_rfl) (fun _ _ _ h => h) (Or.inl ⟨by kernel_rfl, by intro _ _; kernel_rfl⟩) s1 ?_
            go_simp
            refine wpAnyH_take (i := 10) (v := .slice (some ⟨b1, o1, none⟩) n cap) rfl (by kernel_rfl) (by kernel_rfl) (by kernel_rfl) (fun _ _ _ h => h) (Or.inl ⟨by kernel_rfl, by intro _ _; kernel_rfl⟩) s1 ?_
            go_simp
            refine wpAnyH_take (i := 11) (v := .int .i64 (k : Int)) rfl (by kernel_rfl) (by kernel_rfl) (by kernel_rfl) (fun _ _ _ h => h) (Or.inl ⟨by kernel_rfl, by intro _ _; kernel_rfl⟩) s1 ?_
            go_simp
            refine wpAnyH_take (i := 12) (v := .int .i64 ((k - 1 : Nat) : Int)) rfl (by kernel_rfl) (by kernel_rfl) (by kernel_rfl) (fun _ _ _ h => h) (Or.inl ⟨by kernel_rfl, by rintro w h; obtain ⟨⟨c0, c1⟩, ⟨c2, c3⟩, -⟩ := h; go_simp⟩) s1 ?_
            go_simp
            refine wpAnyH_take (i := 13) (v := .pointer (some ⟨b1, o1 + (k - 1) * 2, none⟩)) rfl (by kernel_rfl) (by kernel_rfl) (by kernel_rfl) (fun _ _ _ h => h) (Or.inl ⟨by kernel_rfl, by rintro w h; obtain ⟨⟨c0, c1⟩, ⟨c2, c3⟩, -⟩ := h; go_simp⟩) s1 ?_
            go_simp
            refine wpAnyH_take (i := 14) (v := .agg #[.string p.1, .string p.2]) rfl (by kernel_rfl) (by kernel_rfl) (by kernel_rfl) (fun _ _ _ h => h) (Or.inl ⟨by kernel_rfl, by rintro w h; obtain ⟨⟨c0, c1⟩, ⟨c2, c3⟩, -⟩ := h; go_simp⟩) s1 ?_
            go_simp
            refine wpAnyH_take (i := 15) (v := .slice (some ⟨b1, o1, none⟩) n cap) rfl (by kernel_rfl) (by kernel_rfl) (by kernel_rfl) (fun _ _ _ h => h) (Or.inl ⟨by kernel_rfl, by intro _ _; kernel_rfl⟩) s1 ?_
            go_simp
            refine wpAnyH_take (i := 16) (v := .int .i64 (k : Int)) rfl (by kernel_rfl) (by kernel_rfl) (by kernel_rfl) (fun _ _ _ h => h) (Or.inl ⟨by kernel_rfl, by intro _ _; kernel_rfl⟩) s1 ?_
            go_simp
            refine wpAnyH_take (i := 17) (v := .pointer (some ⟨b1, o1 + k * 2, none⟩)) rfl (by kernel_rfl) (by kernel_rfl) (by kernel_rfl) (fun _ _ _ h => h) (Or.inl ⟨by kernel_rfl, by rintro w h; obtain ⟨⟨c0, c1⟩, ⟨c2, c3⟩, -⟩ := h; go_simp⟩) s1 ?_
            go_simp
            refine wpAnyH_take (i := 18) (v := .agg #[.string u.1, .string u.2]) rfl (by kernel_rfl) (by kernel_rfl) (by kernel_rfl) (fun _ _ _ h => h) (Or.inl ⟨by kernel_rfl, by rintro w h; obtain ⟨⟨c0, c1⟩, ⟨c2, c3⟩, -⟩ := h; go_simp⟩) s1 ?_
            go_simp
            refine wpAnyH_all (rs := [19]) (by kernel_rfl) (by simp) (fun j hj => ?_)
            rw [List.mem_singleton] at hj
            subst hj
            refine wpOp_step rfl (fun K hK => ?_)
            go_simp
            refine (less_any p u _).mono ?_
            rintro e W2 ⟨rfl, hb2⟩
            rw [HL.out]
            have s2 := s1.step hb2
            go_simp
            refine hK _ _ ⟨s2, ?_⟩
            clear hK K
            refine wpAnyH_take (i := 20) (v := .bool true) rfl (by kernel_rfl) (by kernel_rfl) (by kernel_rfl) (fun _ _ _ h => h) (Or.inl ⟨by kernel_rfl, by rintro w h; obtain ⟨⟨c0, c1⟩, ⟨c2, c3⟩, -⟩ := h; go_simp⟩) s2 ?_
            go_simp
            refine wpAnyH_take (i := 21) (v := .bool true) rfl (by kernel_rfl) (by kernel_rfl) (by kernel_rfl) (fun _ _ _ h => h) (Or.inl ⟨by kernel_rfl, by intro _ _; kernel_rfl⟩) s2 ?_
            go_simp
            refine wpAnyH_take (i := 22) (v := .bool true) rfl (by kernel_rfl) (by kernel_rfl) (by kernel_rfl) (fun _ _ _ h => h) (Or.inl ⟨by kernel_rfl, by intro _ _; kernel_rfl⟩) s2 ?_
            go_simp
            refine wpAnyH_done (by kernel_rfl) ?_ _
            go_wp2_with fail
            go_ret
            exact ⟨by rw [HR.out]; rfl, hbr.trans (s2.2.2.mono hbw)⟩
      · have hm2 : mayAttr u = false := by simpa using hm
        have HM := Lib.hid hm2
        have HR : Hid (mayAttrs x = false) := Lib.hid (by
          unfold mayAttrs
          have : x.all mayAttr = false := by rw [List.all_eq_false]; exact ⟨u, List.mem_of_getElem? hu, by simp [hm2]⟩
          rw [this]; simp)
        clear hm hm2
        refine wp_region_held (S := InTwoAt wr u p b1 (o1 + k * 2) (o1 + (k - 1) * 2)) hmo ?_
        change wpAnyH _ _ _ _ _ _ _ _ (World.drew wr)
        refine wpAnyH_take (i := 0) (v := .slice (some ⟨b1, o1, none⟩) n cap) rfl (by kernel_rfl) (by kernel_rfl) (by kernel_rfl) (fun _ _ _ h => h) (Or.inl ⟨by kernel_rfl, by intro _ _; kernel_rfl⟩) s0 ?_
        go_simp
        refine wpAnyH_take (i := 1) (v := .int .i64 (k : Int)) rfl (by kernel_rfl) (by kernel_rfl) (by kernel_rfl) (fun _ _ _ h => h) (Or.inl ⟨by kernel_rfl, by intro _ _; kernel_rfl⟩) s0 ?_
        go_simp
        refine wpAnyH_take (i := 2) (v := .pointer (some ⟨b1, o1 + k * 2, none⟩)) rfl (by kernel_rfl) (by kernel_rfl) (by kernel_rfl) (fun _ _ _ h => h) (Or.inl ⟨by kernel_rfl, by rintro w h; obtain ⟨⟨c0, c1⟩, ⟨c2, c3⟩, -⟩ := h; go_simp⟩) s0 ?_
        go_simp
        refine wpAnyH_take (i := 3) (v := .agg #[.string u.1, .string u.2]) rfl (by kernel_rfl) (by kernel_rfl) (by kernel_rfl) (fun _ _ _ h => h) (Or.inl ⟨by kernel_rfl, by rintro w h; obtain ⟨⟨c0, c1⟩, ⟨c2, c3⟩, -⟩ := h; go_simp⟩) s0 ?_
        go_simp
        refine wpAnyH_all (rs := [4]) (by kernel_rfl) (by simp) (fun j hj => ?_)
        rw [List.mem_singleton] at hj
        subst hj
        refine wpOp_step rfl (fun K hK => ?_)
        go_simp
        refine (rMayAttr_any u _).mono ?_
        rintro e W1 ⟨rfl, hb1⟩
        rw [HM.out]
        have s1 := s0.step hb1
        go_simp
        refine hK _ _ ⟨s1, ?_⟩
        clear hK K
        refine wpAnyH_take (i := 5) (v := .bool true) rfl (by kernel_rfl) (by kernel_rfl) (by kernel_rfl) (fun _ _ _ h => h) (Or.inl ⟨by kernel_rfl, by rintro w h; obtain ⟨⟨c0, c1⟩, ⟨c2, c3⟩, -⟩ := h; go_simp⟩) s1 ?_
        go_simp
        refine wpAnyH_take (i := 6) (v := .bool true) rfl (by kernel_rfl) (by kernel_rfl) (by kernel_rfl) (fun _ _ _ h => h) (Or.inl ⟨by kernel_rfl, by intro _ _; kernel_rfl⟩) s1 ?_
        go_simp
        refine wpAnyH_take (i := 7) (v := undef) rfl (by kernel_rfl) (by kernel_rfl) (by kernel_rfl) (fun _ _ _ h => h) (Or.inr ⟨by kernel_rfl, rfl⟩) s1 ?_
        go_simp
        refine wpAnyH_take (i := 8) (v := undef) rfl (by kernel_rfl) (by kernel_rfl) (by kernel_rfl) (fun _ _ _ h => h) (Or.inr ⟨by kernel_rfl, rfl⟩) s1 ?_
        go_simp
        refine wpAnyH_take (i := 9) (v := undef) rfl (by kernel_rfl) (by kernel_rfl) (by kernel_rfl) (fun _ _ _ h => h) (Or.inr ⟨by kernel_rfl, rfl⟩) s1 ?_
        go_simp
        refine wpAnyH_take (i := 10) (v := undef) rfl (by kernel_rfl) (by kernel_rfl) (by kernel_rfl) (fun _ _ _ h => h) (Or.inr ⟨by kernel_rfl, rfl⟩) s1 ?_
        go_simp
        refine wpAnyH_take (i := 11) (v := undef) rfl (by kernel_rfl) (by kernel_rfl) (by kernel_rfl) (fun _ _ _ h => h) (Or.inr ⟨by kernel_rfl, rfl⟩) s1 ?_
        go_simp
        refine wpAnyH_take (i := 12) (v := undef) rfl (by kernel_rfl) (by kernel_rfl) (by kernel_rfl) (fun _ _ _ h => h) (Or.inr ⟨by kernel_rfl, rfl⟩) s1 ?_
        go_simp
        refine wpAnyH_take (i := 13) (v := undef) rfl (by kernel_rfl) (by kernel_rfl) (by kernel_rfl) (fun _ _ _ h => h) (Or.inr ⟨by kernel_rfl, rfl⟩) s1 ?_
        go_simp
        refine wpAnyH_take (i := 14) (v := undef) rfl (by kernel_rfl) (by kernel_rfl) (by kernel_rfl) (fun _ _ _ h => h) (Or.inr ⟨by kernel_rfl, rfl⟩) s1 ?_
        go_simp
        refine wpAnyH_take (i := 15) (v := undef) rfl (by kernel_rfl) (by kernel_rfl) (by kernel_rfl) (fun _ _ _ h => h) (Or.inr ⟨by kernel_rfl, rfl⟩) s1 ?_
        go_simp
        refine wpAnyH_take (i := 16) (v := undef) rfl (by kernel_rfl) (by kernel_rfl) (by kernel_rfl) (fun _ _ _ h => h) (Or.inr ⟨by kernel_rfl, rfl⟩) s1 ?_
        go_simp
        refine wpAnyH_take (i := 17) (v := undef) rfl (by kernel_rfl) (by kernel_rfl) (by kernel_rfl) (fun _ _ _ h => h) (Or.inr ⟨by kernel_rfl, rfl⟩) s1 ?_
        go_simp
        refine wpAnyH_take (i := 18) (v := undef) rfl (by kernel_rfl) (by kernel_rfl) (by kernel_rfl) (fun _ _ _ h => h) (Or.inr ⟨by kernel_rfl, rfl⟩) s1 ?_
        go_simp
        refine wpAnyH_take (i := 19) (v := undef) rfl (by kernel_rfl) (by kernel_rfl) (by kernel_rfl) (fun _ _ _ h => h) (Or.inr ⟨by kernel_rfl, rfl⟩) s1 ?_
        go_simp
        refine wpAnyH_take (i := 20) (v := undef) rfl (by kernel_rfl) (by kernel_rfl) (by kernel_rfl) (fun _ _ _ h => h) (Or.inr ⟨by kernel_rfl, rfl⟩) s1 ?_
        go_simp
        refine wpAnyH_take (i := 21) (v := undef) rfl (by kernel_rfl) (by kernel_rfl) (by kernel_rfl) (fun _ _ _ h => h) (Or.inr ⟨by kernel_rfl, rfl⟩) s1 ?_
        go_simp
        refine wpAnyH_take (i := 22) (v := .bool true) rfl (by kernel_rfl) (by kernel_rfl) (by kernel_rfl) (fun _ _ _ h => h) (Or.inl ⟨by kernel_rfl, by intro _ _; kernel_rfl⟩) s1 ?_
        go_simp
        refine wpAnyH_done (by kernel_rfl) ?_ _
        go_wp2_with fail
        go_ret
        exact ⟨by rw [HR.out]; rfl, hbr.trans (s1.2.2.mono hbw)⟩
    · have hkn2 : k = n := by omega
      have h1 := Ha.out
      have h2 := Hr.out
      rw [List.take_of_length_le (by rw [LX.out]; omega)] at h1 h2
      have HR : Hid (mayAttrs x = true) := Lib.hid (by unfold mayAttrs; rw [h1, h2, LX.out, decide_eq_true H50.out]; rfl)
      clear h1 h2 hkn2
      go_wp2_with fail
      go_ret
      exact ⟨by rw [HR.out]; rfl, hbr⟩

set_option maxRecDepth 100000 in
set_option maxHeartbeats 4000000 in
theorem rSameAttrs_any (ao bo : Option Addr) (n m cap cbp : Nat) (x y : List (ByteArray × ByteArray)) (w : World) (hx : Rd w 2 ao n cap (atV x)) (hy : Rd w 2 bo m cbp (atV y)) (hn : n ≤ 1000000000) :
    Calls Tryz.prog 75 #[.slice ao n cap, .slice bo m cbp] w (GivesB (decide (x = y)) w) := by
  have lx : x.length = n := by have := hx.1; rw [atV_len] at this; omega
  have ly : y.length = m := by have := hy.1; rw [atV_len] at this; omega
  by_cases hnm : n = m
  case neg =>
    have f1 : ((n : Int) == (m : Int)) = false := by simp; omega
    have HR : Hid (decide (x = y) = false) := Lib.hid (eq_len x y (by omega))
    clear lx ly hnm
    go_enter Tryz.func75, Tryz.ntmps75
    go_wp2_with fail
    go_ret
    exact ⟨by rw [HR.out]; rfl, Below.refl _ _⟩
  subst hnm
  have LX := Lib.hid lx
  have LY := Lib.hid ly
  clear lx ly
  go_enter Tryz.func75, Tryz.ntmps75
  go_wp2_with fail
  go_loopw [5] (fun p wr => ∃ k : Nat, k ≤ n ∧ p = .int .i64 (k : Int) ∧ Hid (x.take k = y.take k) ∧ Below w.heap.size w wr) (fun p _ => n - (intOf p).toNat)
  case atStart => exact ⟨0, Nat.zero_le _, rfl, Lib.hid rfl, Below.refl _ _⟩
  case round =>
    obtain ⟨k, hk, rfl, Ht, hbr⟩ := hrel
    by_cases hkn : k < n
    · obtain ⟨b1, o1, rfl, hl1, hc1⟩ := hx.some (by have := hx.le; omega)
      obtain ⟨b2, o2, rfl, hl2, hc2⟩ := hy.some (by have := hy.le; omega)
      obtain ⟨u, hu⟩ : ∃ u, x[k]? = some u := ⟨_, List.getElem?_eq_getElem (by rw [LX.out]; exact hkn)⟩
      obtain ⟨v, hv⟩ : ∃ v, y[k]? = some v := ⟨_, List.getElem?_eq_getElem (by rw [LY.out]; exact hkn)⟩
      obtain ⟨v1, v2⟩ := atV_at x k u hu
      obtain ⟨v3, v4⟩ := atV_at y k v hv
      have c1 := (hbr.cell (p := ⟨b1, o1 + k * 2, none⟩) hl1).trans (hc1 (k * 2) _ v1)
      have c2 : wr.cell? ⟨b1, o1 + k * 2 + 1, none⟩ = _ := (hbr.cell (p := ⟨b1, o1 + (k * 2 + 1), none⟩) hl1).trans (hc1 (k * 2 + 1) _ v2)
      have c3 := (hbr.cell (p := ⟨b2, o2 + k * 2, none⟩) hl2).trans (hc2 (k * 2) _ v3)
      have c4 : wr.cell? ⟨b2, o2 + k * 2 + 1, none⟩ = _ := (hbr.cell (p := ⟨b2, o2 + (k * 2 + 1), none⟩) hl2).trans (hc2 (k * 2 + 1) _ v4)
      clear v1 v2 v3 v4
      have i0 : (0 : Int) ≤ (k : Int) := by omega
      have i1 : (k : Int) < (n : Int) := by omega
      have hne := neq_att u v
      by_cases huv : u = v
      · have HT : Hid (x.take (k + 1) = y.take (k + 1)) := Lib.hid (eq_step x y k u v Ht.out hu hv huv)
        rw [show (!decide (u = v)) = false from by simp [huv]] at hne
        clear huv
        go_upto_region 6 with fail
        go_quiet (fail)
        have hbn := hbr.trans ((below_drewN (Below.refl wr.heap.size wr) nq).mono hbr.size)
        go_wp2_with fail
        go_roundw
        case rel => exact ⟨k + 1, by omega, by go_num, HT, hbn⟩
        case measure => simp [intOf]; omega
      · have HR : Hid (decide (x = y) = false) := Lib.hid (eq_no x y k u v hu hv huv)
        rw [show (!decide (u = v)) = true from by simp [huv]] at hne
        clear huv
        go_upto_region 6 with fail
        go_quiet (fail)
        have hbn := hbr.trans ((below_drewN (Below.refl wr.heap.size wr) nq).mono hbr.size)
        go_wp2_with fail
        go_ret
        exact ⟨by rw [HR.out]; rfl, hbn⟩
    · have hkn2 : k = n := by omega
      have h1 := Ht.out
      rw [List.take_of_length_le (by rw [LX.out]; omega), List.take_of_length_le (by rw [LY.out]; omega)] at h1
      have HR : Hid (decide (x = y) = true) := Lib.hid (decide_eq_true h1)
      clear h1 hkn2
      go_wp2_with fail
      go_ret
      exact ⟨by rw [HR.out]; rfl, hbr⟩
end Go.Proofs.YtgeafnggodkpaaaGreat.Msg
