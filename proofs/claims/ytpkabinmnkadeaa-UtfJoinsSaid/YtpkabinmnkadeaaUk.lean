/-
  The walk of the statement UtfJoins.
-/
import Derived.Test.YtpkabinmnkadeaaUj
import Derived.Test.YtpkabinmnkadeaaUh
namespace Go.Proofs.Ytpkabinmnkadeaa.Utf
open Go.RowKit Go.Proofs.Ytpkabinmnkadeaa.Mem

def bgB (rs : List Int) (c n : Nat) : Nat → Bool
  | 0 => decide (c = n)
  | k + 1 => bgB rs c n k || decide (pl rs k = c)
theorem bgB_iff (rs : List Int) (c n : Nat) : ∀ k, bgB rs c n k = true ↔ c = n ∨ ∃ j, j < k ∧ pl rs j = c
  | 0 => by simp [bgB]
  | k + 1 => by
    rw [bgB, Bool.or_eq_true, bgB_iff rs c n k, decide_eq_true_iff]
    constructor
    · rintro ((h | ⟨j, h1, h2⟩) | h)
      · exact .inl h
      · exact .inr ⟨j, by omega, h2⟩
      · exact .inr ⟨k, by omega, h⟩
    · rintro (h | ⟨j, h1, h2⟩)
      · exact .inl (.inl h)
      · by_cases hj : j = k
        · subst hj; exact .inr h2
        · exact .inl (.inr ⟨j, by omega, h2⟩)
theorem bgB_at (rs : List Int) (c : Nat) : bgB rs c (encAll rs).length rs.length = true ↔ At rs c := by
  rw [bgB_iff]
  have hf := pl_full rs rs.length (Nat.le_refl _)
  constructor
  · rintro (h | ⟨j, h1, h2⟩)
    · exact ⟨rs.length, Nat.le_refl _, by rw [hf, h]⟩
    · exact ⟨j, by omega, h2⟩
  · rintro ⟨k, h1, h2⟩
    by_cases hk : k = rs.length
    · subst hk; exact .inl (by rw [← h2, hf])
    · exact .inr ⟨k, by omega, h2⟩

theorem joins_out (s t : ByteArray) (c : Int) (w : World) (hs : s.size ≤ maxLen) (h : 3000 < s.size ∨ 3000 < t.size ∨ wh s.data.toList ≠ s.size) :
    Calls Try.prog 7 #[.string s, .string t, .int .i64 c] w (GivesTrue w) := by
  unfold maxLen at hs
  by_cases h1 : 3000 < s.size
  · have t1 : decide (3000 < (s.size : Int)) = true := by simp; omega
    go_enter Try.func7, Try.ntmps7
    go_wp2_with (go_at_call 16; refine (known_any _).mono ?_; rintro e w1 ⟨rfl, hb1⟩)
    go_ret
    exact ⟨rfl, hb1⟩
  by_cases h2 : 3000 < t.size
  · have t1 : decide (3000 < (s.size : Int)) = false := by simp; omega
    have t2 : decide (3000 < (t.size : Int)) = true := by simp; omega
    go_enter Try.func7, Try.ntmps7
    go_wp2_with (go_at_call 16; refine (known_any _).mono ?_; rintro e w1 ⟨rfl, hb1⟩)
    go_ret
    exact ⟨rfl, hb1⟩
  · have h3 := Lib.hid (show wh s.data.toList ≠ s.size by rcases h with h | h | h; · exact absurd h h1
                                                          · exact absurd h h2
                                                          · exact h)
    have t1 : decide (3000 < (s.size : Int)) = false := by simp; omega
    have t2 : decide (3000 < (t.size : Int)) = false := by simp; omega
    clear h
    go_enter Try.func7, Try.ntmps7
    go_wp2_with (first | (go_at_call 26; refine (valid_any s _ (by omega)).mono ?_; rintro e w1 ⟨rfl, hb1⟩; rw [decide_eq_false h3.out]) | (go_at_call 16; refine (known_any _).mono ?_; rintro e w2 ⟨rfl, hb2⟩))
    go_ret
    exact ⟨rfl, hb1.trans (hb2.mono hb1.size)⟩

set_option maxRecDepth 100000 in
set_option maxHeartbeats 1000000 in
theorem joins_in (s t : ByteArray) (c : Int) (w : World) (h1 : s.size ≤ 3000) (h2 : t.size ≤ 3000) (hv : wh s.data.toList = s.size) :
    Calls Try.prog 7 #[.string s, .string t, .int .i64 c] w (GivesTrue w) := by
  have t1 : decide (3000 < (s.size : Int)) = false := by simp; omega
  have t2 : decide (3000 < (t.size : Int)) = false := by simp; omega
  have Hv := Lib.hid hv
  have hj := wh_join s.data.toList t.data.toList (by rw [len_data]; exact hv)
  rw [len_data] at hj
  have Hj := Lib.hid hj
  have hwt := wh_le t.data.toList
  rw [len_data] at hwt
  have hap := Lib.hid (show (s ++ t).data.toList = s.data.toList ++ t.data.toList by simp)
  clear hv hj
  go_enter Try.func7, Try.ntmps7
  go_wp2_with fail
  refine (valid_any s _ (by omega)).mono ?_
  rintro e w1 ⟨rfl, hb1⟩
  rw [decide_eq_true Hv.out]
  go_wp2_with fail
  refine (where_any _ _ (by simp; omega)).mono ?_
  rintro e w2 ⟨rfl, hb2⟩
  rw [hap.out, Hj.out]
  have hb12 := hb1.trans (hb2.mono hb1.size)
  go_wp2_with fail
  refine (where_any _ _ (by omega)).mono ?_
  rintro e w3 ⟨rfl, hb3⟩
  have hb13 := hb12.trans (hb3.mono hb12.size)
  generalize hq : wh t.data.toList = q at *
  have Hq := Lib.hid hq
  clear hq
  by_cases hc0 : c < 0
  · have d1 : decide (c < 0) = true := by simp; omega
    go_wp2_with (go_at_call 16; refine (known_any _).mono ?_; rintro e w4 ⟨rfl, hb4⟩)
    go_ret
    exact ⟨rfl, hb13.trans (hb4.mono hb13.size)⟩
  by_cases hc1 : (s.size : Int) < c
  · have d1 : decide (c < 0) = false := by simp; omega
    have d2 : decide ((s.size : Int) < c) = true := by simp; omega
    go_wp2_with (go_at_call 16; refine (known_any _).mono ?_; rintro e w4 ⟨rfl, hb4⟩)
    go_ret
    exact ⟨rfl, hb13.trans (hb4.mono hb13.size)⟩
  · obtain ⟨c, rfl⟩ := Int.eq_ofNat_of_zero_le (by omega : 0 ≤ c)
    have d1 : decide ((c : Int) < 0) = false := by simp
    have d2 : decide ((s.size : Int) < (c : Int)) = false := by simp; omega
    have hcs : c ≤ s.size := by omega
    clear hc0 hc1
    go_wp2_with fail
    refine (rdecode_any s _ (by omega)).mono ?_
    rintro e w4 ⟨ao, cap, rfl, hrd, hb4⟩
    have hb14 := hb13.trans (hb4.mono hb13.size)
    have henc := valid_enc s.data.toList (by rw [len_data]; exact Hv.out)
    have hm := runes_may s.data.toList
    have hrl := runes_len s.data.toList
    rw [len_data] at hrl
    have hpl := Lib.hid (fun k => pl_le (runes s.data.toList) k)
    have hpf := Lib.hid (pl_full (runes s.data.toList) (runes s.data.toList).length (Nat.le_refl _))
    have hps := Lib.hid (fun k => pl_succ (runes s.data.toList) k)
    have hbg := Lib.hid (bgB_at (runes s.data.toList) c)
    have hcat := Lib.hid (cut_at (runes s.data.toList) c hm)
    have hcw := Lib.hid (cut_within (runes s.data.toList) c hm)
    have hen : Hid ((encAll (runes s.data.toList)).length = s.size) := by
      show _ = _
      rw [← henc, len_data]
    have henc' := Lib.hid henc.symm
    clear henc
    generalize hrs : runes s.data.toList = rs at *
    have Hrs := Lib.hid hrs
    have Hm := Lib.hid hm
    clear hrs hm
    generalize hwn : wh s.data.toList = wn at *
    clear hwn
    go_wp2
    go_loopw [7, 8, 11] (fun b p i wr => ∃ k : Nat, k ≤ rs.length ∧ i = .int .i64 k ∧ p = .int .i64 ((pl rs k : Nat) : Int) ∧ b = .bool (bgB rs c s.size k) ∧ Below w4.heap.size w4 wr) (fun _ _ i _ => rs.length - (intOf i).toNat)
    case atStart => exact ⟨0, Nat.zero_le _, rfl, rfl, congrArg Value.bool (by rw [bgB, Bool.eq_iff_iff]; simp; omega), Below.refl _ _⟩
    case round =>
      obtain ⟨k, hk, rfl, rfl, rfl, hbr⟩ := hrel
      by_cases hlt : k < rs.length
      · obtain ⟨b1, o1, e1, hlt1, hc1⟩ := hrd.some (by have := hrd.le; omega)
        subst e1
        have c1 := (hbr.cell (p := ⟨b1, o1 + k, none⟩) hlt1).trans (hc1 k _ (ruV_at rs k hlt))
        have hmr := Lib.hid (Hm.out (rs[k]?.getD 0) (by rw [List.getElem?_eq_getElem hlt]; exact List.getElem_mem _))
        have Hps := Lib.hid (hps.out k hlt)
        have hple := hpl.out k
        rw [hen.out] at hple
        have hle4 := enc_le (rs[k]?.getD 0)
        have hnext := Lib.hid (show bgB rs c s.size (k + 1) = (bgB rs c s.size k || decide (pl rs k = c)) from rfl)
        generalize hr : rs[k]?.getD 0 = r at *
        clear hr
        generalize hp : pl rs k = p at *
        clear hp
        have hz := hbr.size
        have he2 : ((p : Int) == (c : Int)) = decide (p = c) := by rw [Bool.eq_iff_iff]; simp; omega
        have He2 := Lib.hid he2
        clear he2
        cases hb : bgB rs c s.size k
        all_goals
          rw [hb] at hnext
          clear hb
          go_wp2_with (go_at_call 20; refine (rput_any _ _ hmr.out).mono ?_; rintro e w5 ⟨ao5, cap5, rfl, hrd5, hb5⟩)
          go_roundw
          case rel => exact ⟨k + 1, by omega, by go_num, congrArg (Value.int .i64) (by rw [Hps.out]; simp), congrArg Value.bool (by rw [hnext.out]; first | (simp; done) | (rw [← He2.out]; simp)), hbr.trans (hb5.mono hz)⟩
          case measure => simp [intOf]; omega
      · obtain rfl : k = rs.length := by omega
        have hbr4 := hb14.trans (hbr.mono hb14.size)
        have e1 := Lib.hid (ext_dropT s 0 c)
        have e2 := Lib.hid (ext_dropS s c)
        have e3 := ext_sizeL s 0 c
        have e4 := ext_sizeS s c
        have e5 : (s.extract 0 c).size = c := by rw [← len_data, ext_dropT, List.length_take, List.length_drop, len_data]; omega
        have E5 := Lib.hid e5
        have E4 := Lib.hid e4
        have e6 : (s.extract c s.size).size ≤ 3000 := by omega
        clear e4 e5
        have v1 : decide (wh (s.extract 0 c).data.toList = (s.extract 0 c).size) = bgB rs c s.size rs.length := by
          rw [E5.out, e1.out, ← henc'.out, Nat.sub_zero, List.drop_zero, Bool.eq_iff_iff, decide_eq_true_iff, ← hen.out, hbg.out]
          have hl : ((encAll rs).take c).length = c := by rw [List.length_take, hen.out]; omega
          constructor
          · intro h
            refine Classical.byContradiction fun hn => ?_
            have := (hcw.out (by rw [hen.out]; omega) hn).1
            rw [hl] at this; exact this h
          · intro h
            have := (hcat.out h).1
            rwa [hl] at this
        have v2 : decide (wh (s.extract c s.size).data.toList = (s.extract c s.size).size) = bgB rs c s.size rs.length := by
          rw [E4.out, e2.out, ← henc'.out, Bool.eq_iff_iff, decide_eq_true_iff, ← hen.out, hbg.out, ← List.length_drop]
          constructor
          · intro h
            exact Classical.byContradiction fun hn => (hcw.out (by rw [hen.out]; omega) hn).2 h
          · intro h
            exact (hcat.out h).2
        have V1 := Lib.hid v1
        have V2 := Lib.hid v2
        clear v1 v2
        generalize bgB rs c s.size rs.length = x at *
        go_wp2_with fail
        refine (valid_any _ _ (by omega)).mono ?_
        rintro e w6 ⟨rfl, hb6⟩
        have hbr6 := hbr4.trans (hb6.mono hbr4.size)
        rw [V1.out]
        cases x
        all_goals
          go_wp2_with fail
          refine (valid_any _ _ (by omega)).mono ?_
          rintro e w7 ⟨rfl, hb7⟩
          have hbr7 := hbr6.trans (hb7.mono hbr6.size)
          rw [V2.out]
          go_wp2_with (go_at_call 16; refine (known_any _).mono ?_; rintro e w8 ⟨rfl, hb8⟩)
          go_ret
          exact ⟨rfl, hbr7.trans (hb8.mono hbr7.size)⟩

theorem joins_any (s t : ByteArray) (c : Int) (w : World) (hs : s.size ≤ maxLen) :
    Calls Try.prog 7 #[.string s, .string t, .int .i64 c] w (GivesTrue w) := by
  by_cases h : 3000 < s.size ∨ 3000 < t.size ∨ wh s.data.toList ≠ s.size
  · exact joins_out s t c w hs h
  · exact joins_in s t c w (by omega) (by omega) (Classical.byContradiction fun hn => h (.inr (.inr hn)))
end Go.Proofs.Ytpkabinmnkadeaa.Utf
