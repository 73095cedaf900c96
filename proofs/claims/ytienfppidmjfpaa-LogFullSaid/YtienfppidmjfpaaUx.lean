/-
  The walk of utf.Next: what it answers of a text.
-/
import Derived.Test.YtienfppidmjfpaaUn
namespace Go.Proofs.Ytienfppidmjfpaa.Utf
open Go.RowKit

theorem cont_bits (b : Int) (h0 : 0 ≤ b) (h1 : b < 256) : bits .and .u8 b 192 = b / 64 * 64 := by
  rw [u8_and b 192 h0 h1 (by omega) (by omega)]
  obtain ⟨n, rfl⟩ := Int.eq_ofNat_of_zero_le h0
  have hn : n < 256 := by omega
  have : ∀ m : Fin 256, (m.val &&& 192) = m.val / 64 * 64 := by decide +kernel
  have h := this ⟨n, hn⟩
  simp only [Int.toNat_natCast] at h ⊢
  rw [show (192 : Int).toNat = 192 from rfl, h]; omega
theorem cont_yes (b : Int) (h0 : 0 ≤ b) (h1 : b < 256) (h : (bits .and .u8 b 192 != 128) = true) : b / 64 ≠ 2 := by
  rw [cont_bits b h0 h1, bne_iff_ne] at h; omega
theorem cont_no (b : Int) (h0 : 0 ≤ b) (h1 : b < 256) (h : (bits .and .u8 b 192 != 128) = false) : b / 64 = 2 := by
  rw [cont_bits b h0 h1, bne_eq_false_iff_eq] at h; omega

theorem acc_step (l : List UInt8) (k : Nat) (h0 : 0 ≤ bt l (k + 1)) (h1 : bt l (k + 1) < 256) (ha : 0 ≤ acc l k ∧ acc l k < 256 * 64 ^ k) (hk : k < 3) :
    bits .or .i32 (wrap32 (acc l k * 64)) (wrap32 (bits .and .u8 (bt l (k + 1)) 63)) = acc l (k + 1) := by
  have hb : acc l k < 1048576 := by
    rcases (by omega : k = 0 ∨ k = 1 ∨ k = 2) with rfl | rfl | rfl <;> omega
  have e1 : wrap32 (acc l k * 64) = acc l k * 64 := by unfold wrap32; omega
  have e2 : wrap32 (bt l (k + 1) % 64) = bt l (k + 1) % 64 := by unfold wrap32; omega
  rw [u8_and63 _ h0 h1, e1, e2, i32_or6 _ _ (by omega) (by omega) (by omega) (by omega) (by omega)]
  rfl

set_option maxRecDepth 100000 in
set_option maxHeartbeats 400000 in
theorem next_any (s : ByteArray) (w : World) (hs : s.size ≤ maxLen) (hpos : 0 < s.size) :
    Calls Try.prog 78 #[.string s] w fun e w' => e = .returned (.tuple #[.int .i32 (nx s.data.toList).1, .int .i64 ((nx s.data.toList).2 : Int), .int .i64 (if (nx s.data.toList).2 = 0 then 5 else 0)]) ∧ w = w' := by
  unfold maxLen at hs
  have hne : s.toList.isEmpty = false := by
    rw [ByteArray.toList_eq]; cases h : s.data.toList with
    | nil => have := len_data s; rw [h] at this; simp at this; omega
    | cons a t => rfl
  have h0 := Lib.hid (by_at s 0 hpos)
  go_enter Try.func78, Try.ntmps78
  go_wp2
  refine wp_scope_jumps 0 (Jmp s w) (fun _ _ => 0) rfl ?_ ?_
  · go_wp2_with fail
    rw [h0.out]
    have l0 := bt_lo s.data.toList 0
    have g0 := bt_hi s.data.toList 0
    refine (head_any _ _ l0 g0).mono ?_
    rintro e w' ⟨rfl, rfl⟩
    have hd := len_data s
    by_cases c1 : headN (bt s.data.toList 0) < 0 ∨ (s.size : Int) ≤ headN (bt s.data.toList 0)
    · have hb := Lib.hid (nx_bad s.data.toList (by rw [hd]; exact .inr c1))
      clear hd
      go_wp2
      all_goals go_step3
      all_goals exact ⟨rfl, rfl, hb.out, _, _, _, _, _, _, _, _, _, _, _, _, _, _, _, _, _, _, _, _, _, _, _, _, _, _, _, _, _, _, _, _, _, _, _, _, _, _, _, _, _, _, _, _, _, _, _, _, _, _, _, rfl⟩
    · obtain ⟨n, hn⟩ : ∃ n : Nat, headN (bt s.data.toList 0) = (n : Int) := ⟨(headN (bt s.data.toList 0)).toNat, by omega⟩
      have hn3 : n ≤ 3 := by unfold headN at hn; repeat' split at hn <;> omega
      have hns : n < s.size := by omega
      rw [hn]
      have Hn := Lib.hid hn
      have e0 : headR (bt s.data.toList 0) = acc s.data.toList 0 := rfl
      rw [e0]
      clear hn c1 hd e0 l0 g0
      have d1 : decide ((n : Int) < 0) = false := by simp
      have d2 : decide (s.size ≤ n) = false := by simp; omega
      go_wp2
      go_loop [5, 25] (fun r i => ∃ k : Nat, k ≤ n ∧ i = .int .i64 k ∧ r = .int .i32 (acc s.data.toList k) ∧ Hid (∀ j, j < k → bt s.data.toList (j + 1) / 64 = 2)) (fun _ i => n - (intOf i).toNat)
      case atStart => exact ⟨0, Nat.zero_le _, rfl, rfl, Lib.hid (fun j hj => by omega)⟩
      case round =>
        obtain ⟨k, hk, rfl, rfl, Hc⟩ := hrel
        by_cases hlt : k < n
        · have hb := Lib.hid (by_at s (k + 1) (by omega))
          have l1 := bt_lo s.data.toList (k + 1)
          have g1 := bt_hi s.data.toList (k + 1)
          have hacc := acc_bd s.data.toList k (by omega)
          go_wp2
          · have ht : (bits BinOp.and IntKind.u8 (((s[k + 1]'(by omega)).toNat : Nat) : Int) 192 != 128) = true := by assumption
            rw [hb.out] at ht
            go_step3
            exact ⟨rfl, rfl, nx_cont _ k (by rw [Hn.out]; omega) (cont_yes _ l1 g1 ht), _, _, _, _, _, _, _, _, _, _, _, _, _, _, _, _, _, _, _, _, _, _, _, _, _, _, _, _, _, _, _, _, _, _, _, _, _, _, _, _, _, _, _, _, _, _, _, _, _, _, _, rfl⟩
          · have ht : (bits BinOp.and IntKind.u8 (((s[k + 1]'(by omega)).toNat : Nat) : Int) 192 != 128) = false := by assumption
            rw [hb.out] at ht
            go_round
            case rel =>
              refine ⟨k + 1, by omega, by go_num, ?_, Lib.hid fun j hj => ?_⟩
              · exact congrArg (Value.int .i32) (by rw [hb.out]; exact acc_step _ k l1 g1 hacc (by omega))
              · rcases Nat.lt_succ_iff_lt_or_eq.1 hj with h | rfl
                · exact Hc.out j h
                · exact cont_no _ l1 g1 ht
            case measure => simp [intOf]; omega
        · have hkn : k = n := by omega
          subst hkn
          have hE := Lib.hid (nx_end s.data.toList k Hn.out (by rw [len_data]; exact hns) Hc.out)
          go_wp2_with fail
          refine (size_any _ _).mono ?_
          rintro e w' ⟨rfl, rfl⟩
          by_cases hz : size (acc s.data.toList k) = (k : Int) + 1
          · have hz' := Lib.hid hz
            rw [hz]
            clear hz
            go_wp2
            simp only [Exit.jump]
            go_ret3
            exact ⟨ret3 (by rw [hE.out, if_pos hz'.out]) (by rw [hE.out, if_pos hz'.out]; rfl) (by rw [hE.out, if_pos hz'.out]; rfl), rfl⟩
          · have hz' := Lib.hid hz
            have hz2 : (size (acc s.data.toList k) == (k : Int) + 1) = false := by simpa using hz
            clear hz
            go_wp2
            go_step3
            go_wp2
            simp only [Exit.jump]
            go_ret3
            exact ⟨ret3 (by rw [hE.out, if_neg hz'.out]) (by rw [hE.out, if_neg hz'.out]; rfl) (by rw [hE.out, if_neg hz'.out]; rfl), rfl⟩
  · rintro a' w' ⟨rfl, hz, u1, u2, u3, u4, u5, u6, u7, u8, u9, u10, u11, u12, u13, u14, u15, u16, u17, u18, u19, u20, u21, u22, u23, u24, u25, u26, u27, u28, u29, u30, u31, u32, u33, u34, u35, u36, u37, u38, u39, u40, u41, u42, u43, u44, u45, u46, u47, u48, u49, u50, u51, rfl⟩
    have Hz := Lib.hid hz
    clear hz
    go_wp2
    simp only [Exit.jump]
    go_ret3
    exact ⟨ret3 (by rw [nx_zero _ Hz.out]) (by rw [nx_zero _ Hz.out]; rfl) (by rw [nx_zero _ Hz.out]; rfl), rfl⟩

set_option maxRecDepth 100000 in
set_option maxHeartbeats 400000 in
theorem next_nil (s : ByteArray) (w : World) (hz : s.size = 0) :
    Calls Try.prog 78 #[.string s] w fun e w' => e = .returned (.tuple #[.int .i32 (nx s.data.toList).1, .int .i64 ((nx s.data.toList).2 : Int), .int .i64 (if (nx s.data.toList).2 = 0 then 5 else 0)]) ∧ w = w' := by
  have hl : s.data.toList = [] := by apply List.eq_nil_of_length_eq_zero; rw [len_data, hz]
  have hne : s.toList.isEmpty = true := by rw [ByteArray.toList_eq, hl]; rfl
  have hn := Lib.hid (nx_zero _ (nx_bad s.data.toList (.inl hl)))
  have hj := Lib.hid (nx_bad s.data.toList (.inl hl))
  clear hl hz
  go_enter Try.func78, Try.ntmps78
  go_wp2
  refine wp_scope_jumps 0 (Jmp s w) (fun _ _ => 0) rfl ?_ ?_
  · go_wp2
    go_step3
    exact ⟨rfl, rfl, hj.out, _, _, _, _, _, _, _, _, _, _, _, _, _, _, _, _, _, _, _, _, _, _, _, _, _, _, _, _, _, _, _, _, _, _, _, _, _, _, _, _, _, _, _, _, _, _, _, _, _, _, _, rfl⟩
  · rintro a' w' ⟨rfl, hz, u1, u2, u3, u4, u5, u6, u7, u8, u9, u10, u11, u12, u13, u14, u15, u16, u17, u18, u19, u20, u21, u22, u23, u24, u25, u26, u27, u28, u29, u30, u31, u32, u33, u34, u35, u36, u37, u38, u39, u40, u41, u42, u43, u44, u45, u46, u47, u48, u49, u50, u51, rfl⟩
    clear hz
    go_wp2
    simp only [Exit.jump]
    go_ret3
    exact ⟨ret3 (by rw [hn.out]) (by rw [hn.out]; rfl) (by rw [hn.out]; rfl), rfl⟩
/-- utf.Next, of whatever text. -/
theorem next_ok (s : ByteArray) (w : World) (hs : s.size ≤ maxLen) :
    Calls Try.prog 78 #[.string s] w fun e w' => e = .returned (.tuple #[.int .i32 (nx s.data.toList).1, .int .i64 ((nx s.data.toList).2 : Int), .int .i64 (if (nx s.data.toList).2 = 0 then 5 else 0)]) ∧ w = w' := by
  by_cases h : s.size = 0
  · exact next_nil s w h
  · exact next_any s w hs (by omega)
end Go.Proofs.Ytienfppidmjfpaa.Utf
