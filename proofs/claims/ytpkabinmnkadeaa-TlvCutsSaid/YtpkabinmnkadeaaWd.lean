/-
  Parts taken back: in plain Lean.
-/
import Derived.Test.YtpkabinmnkadeaaWc
import Derived.Test.YtpkabinmnkadeaaVt
namespace Go.Proofs.Ytpkabinmnkadeaa.Tlv

theorem u8_ofNat (n : Nat) (x : UInt8) (h : n % 256 = x.toNat) : UInt8.ofNat n = x := by
  apply UInt8.toNat_inj.1
  rw [UInt8.toNat_ofNat']; exact h
/-- The first value's bytes stand there. -/
theorem val_hd1 (l : List UInt8) (h : fs l ≠ 0) : l = val (hd1 l).1 (hd1 l).2 ++ l.drop (fs l) ∧ 0 < (hd1 l).1.toNat ∧ (hd1 l).2.length ≤ 4194304 := by
  have hc : ¬ (l.length < 5 ∨ l[0]?.getD 0 = 0 ∨ 4194304 < ln l ∨ l.length - 5 < ln l) := fun hh => h (fs_no hh)
  have hf := fs_yes hc
  have hl := hd1_len l h
  have hle := fs_le l
  have h0 : ¬ l[0]?.getD 0 = 0 := fun e => hc (.inr (.inl e))
  have hq : ¬ 4194304 < ln l := fun e => hc (.inr (.inr (.inl e)))
  match l, hle, hc with
  | a :: b :: c :: d :: e :: r, hle, hc =>
    have hln : ln (a :: b :: c :: d :: e :: r) = 16777216 * b.toNat + 65536 * c.toNat + 256 * d.toNat + e.toNat := rfl
    have hb := b.toNat_lt
    have hcc := c.toNat_lt
    have hd := d.toNat_lt
    have he := e.toNat_lt
    have hx : (hd1 (a :: b :: c :: d :: e :: r)).2 = r.take (ln (a :: b :: c :: d :: e :: r)) := by
      show ((a :: b :: c :: d :: e :: r).drop 5).take (fs _ - 5) = _
      rw [hf, show 5 + ln (a :: b :: c :: d :: e :: r) - 5 = ln (a :: b :: c :: d :: e :: r) by omega]; rfl
    have hn : (hd1 (a :: b :: c :: d :: e :: r)).2.length = ln (a :: b :: c :: d :: e :: r) := by omega
    refine ⟨?_, ?_, by omega⟩
    · have hdr : (a :: b :: c :: d :: e :: r).drop (fs (a :: b :: c :: d :: e :: r)) = r.drop (ln (a :: b :: c :: d :: e :: r)) := by rw [hf, Nat.add_comm]; rfl
      rw [hdr]
      unfold val
      rw [hn, hx]
      generalize hqq : ln (a :: b :: c :: d :: e :: r) = q at *
      rw [u8_ofNat (q / 16777216) b (by omega), u8_ofNat (q / 65536) c (by omega), u8_ofNat (q / 256) d (by omega), u8_ofNat q e (by omega)]
      show _ = [a, b, c, d, e] ++ List.take q r ++ List.drop q r
      rw [List.append_assoc, List.take_append_drop]; rfl
    · have : (hd1 (a :: b :: c :: d :: e :: r)).1 = a := rfl
      rw [this]
      have h1 : ¬ a = 0 := h0
      have : ¬ a.toNat = 0 := fun e => h1 (UInt8.toNat_inj.1 e)
      omega
  | [], _, hc => exact absurd (.inl (by simp)) hc
  | [_], _, hc => exact absurd (.inl (by simp)) hc
  | [_, _], _, hc => exact absurd (.inl (by simp)) hc
  | [_, _, _], _, hc => exact absurd (.inl (by simp)) hc
  | [_, _, _, _], _, hc => exact absurd (.inl (by simp)) hc

theorem take_val (t : UInt8) (b rest : List UInt8) (ht : 0 < t.toNat) (hb : b.length ≤ 4194304) : RS.take ⟨val t b ++ rest, false⟩ t = (some b, ⟨rest, false⟩) := by
  have hh := hd1_val t b rest ht hb
  have hf := fs_val t b rest ht hb
  unfold RS.take
  rw [if_neg (by simp), if_pos ⟨by dsimp only; omega, by dsimp only; rw [hh]⟩]
  dsimp only
  rw [hh, hf, ← val_len t b]
  simp
theorem take_some {s : RS} {t : UInt8} {x : List UInt8} {s' : RS} (h : s.take t = (some x, s')) : s.bad = false ∧ s'.bad = false ∧ s.l = val t x ++ s'.l ∧ x.length ≤ 4194304 ∧ 0 < t.toNat := by
  unfold RS.take at h
  split at h
  · cases h
  · rename_i hb
    split at h
    · rename_i h2
      have e1 := Option.some.inj (congrArg Prod.fst h)
      have e2 := congrArg Prod.snd h
      dsimp only at e1 e2
      obtain ⟨h3, h4, h5⟩ := val_hd1 s.l h2.1
      subst e1 e2
      refine ⟨by simpa using hb, rfl, ?_, h5, by rw [← h2.2]; exact h4⟩
      rw [h2.2] at h3
      exact h3
    · cases h
theorem take_none {s : RS} {t : UInt8} {s' : RS} (h : s.take t = (none, s')) : s'.bad = true := by
  unfold RS.take at h
  split at h
  · rename_i hb; have := congrArg Prod.snd h; dsimp only at this; rw [← this]; exact hb
  · split at h
    · cases h
    · have := congrArg Prod.snd h; dsimp only at this; rw [← this]

/-- What taking a part back says. -/
def Backs (p : Pt) (s : RS) (r : Bool) (s' : RS) : Prop :=
  (∀ rest, s = ⟨(partB p).1 ++ rest, false⟩ → r = true ∧ s' = ⟨rest, false⟩) ∧ (r = true → s'.bad = false → s.bad = false ∧ s.l = (partB p).1 ++ s'.l)
theorem backs_out (p : Pt) (s : RS) (h : p.kind < 1 ∨ 6 < p.kind) : Backs p s true s := by
  have hp : partB p = ([], true) := if_pos h
  unfold Backs
  rw [hp]
  exact ⟨fun rest hs => ⟨rfl, hs⟩, fun _ hb => ⟨hb, rfl⟩⟩
/-- By one value taken. -/
theorem backs_val (p : Pt) (s : RS) (x : List UInt8) (r : Bool) (s' : RS) (ht : 0 < p.tag.toNat) (hx : x.length ≤ 4194304) (hp : partB p = (val p.tag x, true))
    (h1 : ∀ rest, s.take p.tag = (some x, ⟨rest, false⟩) → r = true ∧ s' = ⟨rest, false⟩) (h2 : r = true → s'.bad = false → ∃ rest, s.take p.tag = (some x, ⟨rest, false⟩) ∧ s' = ⟨rest, false⟩) : Backs p s r s' := by
  unfold Backs
  rw [hp]
  refine ⟨fun rest hs => ?_, fun hr hb => ?_⟩
  · subst hs
    exact h1 rest (take_val p.tag x rest ht hx)
  · obtain ⟨rest, ha, rfl⟩ := h2 hr hb
    obtain ⟨e1, _, e3, _, _⟩ := take_some ha
    exact ⟨e1, e3⟩

theorem num8_get (n k : Nat) (hk : k < 8) : ((num8 n)[k]?.getD 0).toNat = n / 256 ^ (7 - k) % 256 := by
  simp [num8, List.getElem?_map, List.getElem?_range hk, UInt8.toNat_ofNat']
theorem numK_num8 (n : Nat) (hn : n < 18446744073709551616) : numK (num8 n) 8 = n := by
  have h0 := num8_get n 0 (by omega)
  have h1 := num8_get n 1 (by omega)
  have h2 := num8_get n 2 (by omega)
  have h3 := num8_get n 3 (by omega)
  have h4 := num8_get n 4 (by omega)
  have h5 := num8_get n 5 (by omega)
  have h6 := num8_get n 6 (by omega)
  have h7 := num8_get n 7 (by omega)
  simp only [numK, h0, h1, h2, h3, h4, h5, h6, h7]
  omega
theorem num8_numK (b : List UInt8) (hb : b.length = 8) : num8 (numK b 8) = b := by
  match b, hb with
  | [b0, b1, b2, b3, b4, b5, b6, b7], _ =>
    have t0 := b0.toNat_lt
    have t1 := b1.toNat_lt
    have t2 := b2.toNat_lt
    have t3 := b3.toNat_lt
    have t4 := b4.toNat_lt
    have t5 := b5.toNat_lt
    have t6 := b6.toNat_lt
    have t7 := b7.toNat_lt
    have hq : numK [b0, b1, b2, b3, b4, b5, b6, b7] 8 = ((((((b0.toNat * 256 + b1.toNat) * 256 + b2.toNat) * 256 + b3.toNat) * 256 + b4.toNat) * 256 + b5.toNat) * 256 + b6.toNat) * 256 + b7.toNat := by
      simp only [numK]; simp
    rw [hq]
    generalize hqq : ((((((b0.toNat * 256 + b1.toNat) * 256 + b2.toNat) * 256 + b3.toNat) * 256 + b4.toNat) * 256 + b5.toNat) * 256 + b6.toNat) * 256 + b7.toNat = q
    show [UInt8.ofNat (q / 256 ^ (7 - 0)), UInt8.ofNat (q / 256 ^ (7 - 1)), UInt8.ofNat (q / 256 ^ (7 - 2)), UInt8.ofNat (q / 256 ^ (7 - 3)), UInt8.ofNat (q / 256 ^ (7 - 4)), UInt8.ofNat (q / 256 ^ (7 - 5)), UInt8.ofNat (q / 256 ^ (7 - 6)), UInt8.ofNat (q / 256 ^ (7 - 7))] = _
    rw [u8_ofNat _ b0 (by omega), u8_ofNat _ b1 (by omega), u8_ofNat _ b2 (by omega), u8_ofNat _ b3 (by omega), u8_ofNat _ b4 (by omega), u8_ofNat _ b5 (by omega), u8_ofNat _ b6 (by omega), u8_ofNat _ b7 (by omega)]

theorem allIt_split (it : Nat → List UInt8) {k n : Nat} (h : k ≤ n) : ∃ r, allIt it n = allIt it k ++ r := by
  induction n with
  | zero =>
    obtain rfl : k = 0 := by omega
    exact ⟨[], by simp⟩
  | succ n ih =>
    by_cases hk : k = n + 1
    · subst hk; exact ⟨[], by simp⟩
    · obtain ⟨r, hr⟩ := ih (by omega)
      exact ⟨r ++ it n, by rw [allIt_succ, hr, List.append_assoc]⟩
theorem allIt_next (it : Nat → List UInt8) {k n : Nat} {b : List UInt8} (hk : k ≤ n) (h : allIt it k ++ b = allIt it n) (hb : 0 < b.length) : k < n ∧ ∃ r, b = it k ++ r := by
  have hlt : k < n := by
    rcases Nat.lt_or_ge k n with h1 | h1
    · exact h1
    · obtain rfl : k = n := by omega
      have := congrArg List.length h
      rw [List.length_append] at this
      omega
  obtain ⟨r, hr⟩ := allIt_split it (k := k + 1) (n := n) (by omega)
  refine ⟨hlt, r, ?_⟩
  rw [hr, allIt_succ, List.append_assoc] at h
  exact List.append_cancel_left h

theorem backs_bytes (p : Pt) (s : RS) (ht : 0 < p.tag.toNat) (hp : partB p = (val p.tag p.b, true)) (hb : p.b.length ≤ 4194304) : Backs p s (decide ((s.bytes p.tag).1 = p.b)) (s.bytes p.tag).2 := by
  refine backs_val p s p.b _ _ ht hb hp (fun rest h => ?_) (fun hr hb' => ?_)
  · unfold RS.bytes; rw [h]; exact ⟨by simp, rfl⟩
  · unfold RS.bytes at hr hb' ⊢
    cases h : s.take p.tag with
    | mk ox s1 =>
      rw [h] at hr hb'
      cases ox with
      | none => rw [take_none h] at hb'; cases hb'
      | some x =>
        have hx : x = p.b := of_decide_eq_true hr
        subst hx
        obtain ⟨_, h2, _⟩ := take_some h
        obtain ⟨l1, bad1⟩ := s1
        dsimp only at h2; subst h2
        exact ⟨l1, rfl, rfl⟩
theorem tag_val (p : Pt) (s : RS) (ht : 0 < p.tag.toNat) (hp : partB p = (val p.tag p.b, true)) (hb : p.b.length ≤ 4194304) (hn : ¬ s.tag = p.tag) : Backs p s false s := by
  refine backs_val p s p.b _ _ ht hb hp (fun rest h => ?_) (fun hr _ => by cases hr)
  exfalso
  apply hn
  obtain ⟨h1, _⟩ := take_some h
  unfold RS.take at h
  unfold RS.tag
  rw [if_neg (by simp [h1])] at h ⊢
  split at h
  · rename_i h2
    rw [if_neg h2.1]
    exact h2.2
  · cases h
theorem num_none {s s' : RS} {t : UInt8} (h : s.take t = (none, s')) : s.num t = (0, s') := by unfold RS.num; rw [h]
theorem num_eight {s s' : RS} {t : UInt8} {b : List UInt8} (h : s.take t = (some b, s')) (hb : b.length = 8) : s.num t = (numK b 8, s') := by unfold RS.num; rw [h]; exact if_pos hb
theorem num_bad {s s' : RS} {t : UInt8} {b : List UInt8} (h : s.take t = (some b, s')) (hb : ¬ b.length = 8) : s.num t = (0, ⟨s'.l, true⟩) := by unfold RS.num; rw [h]; exact if_neg hb
theorem flag_none {s s' : RS} {t : UInt8} (h : s.take t = (none, s')) : s.flag t = (false, s') := by unfold RS.flag; rw [h]
theorem flag_one {s s' : RS} {t : UInt8} {b : List UInt8} (h : s.take t = (some b, s')) (hb : b.length = 1 ∧ (b[0]?.getD 0).toNat ≤ 1) : s.flag t = (decide ((b[0]?.getD 0).toNat = 1), s') := by unfold RS.flag; rw [h]; exact if_pos hb
theorem flag_bad {s s' : RS} {t : UInt8} {b : List UInt8} (h : s.take t = (some b, s')) (hb : ¬ (b.length = 1 ∧ (b[0]?.getD 0).toNat ≤ 1)) : s.flag t = (false, ⟨s'.l, true⟩) := by unfold RS.flag; rw [h]; exact if_neg hb
theorem backs_num (p : Pt) (s : RS) (ht : 0 < p.tag.toNat) (hp : partB p = (val p.tag (num8 p.num), true)) (hn : p.num < 18446744073709551616) : Backs p s (decide ((s.num p.tag).1 = p.num)) (s.num p.tag).2 := by
  refine backs_val p s (num8 p.num) _ _ ht (by rw [num8_len]; omega) hp (fun rest h => ?_) (fun hr hb' => ?_)
  · rw [num_eight h (num8_len _), numK_num8 _ hn]
    exact ⟨by simp, rfl⟩
  · cases h : s.take p.tag with
    | mk ox s1 =>
      cases ox with
      | none => rw [num_none h] at hb'; rw [take_none h] at hb'; cases hb'
      | some x =>
        by_cases h8 : x.length = 8
        · rw [num_eight h h8] at hr hb' ⊢
          have hx := of_decide_eq_true hr
          dsimp only at hx
          have hxx := num8_numK x h8
          rw [hx] at hxx
          obtain ⟨_, h2, _⟩ := take_some h
          obtain ⟨l1, bad1⟩ := s1
          dsimp only at h2; subst h2
          rw [hxx]
          exact ⟨l1, rfl, rfl⟩
        · rw [num_bad h h8] at hb'; cases hb'
theorem backs_flag (p : Pt) (s : RS) (ht : 0 < p.tag.toNat) (hp : partB p = (val p.tag [if oddOf p.num then 1 else 0], true)) : Backs p s (decide ((s.flag p.tag).1 = oddOf p.num)) (s.flag p.tag).2 := by
  refine backs_val p s _ _ _ ht (by simp) hp (fun rest h => ?_) (fun hr hb' => ?_)
  · rw [flag_one h (by cases oddOf p.num <;> simp)]
    cases oddOf p.num with
    | true => exact ⟨by simp, rfl⟩
    | false => exact ⟨by simp, rfl⟩
  · cases h : s.take p.tag with
    | mk ox s1 =>
      cases ox with
      | none => rw [flag_none h] at hb'; rw [take_none h] at hb'; cases hb'
      | some x =>
        by_cases h8 : x.length = 1 ∧ (x[0]?.getD 0).toNat ≤ 1
        · rw [flag_one h h8] at hr hb' ⊢
          have hx := of_decide_eq_true hr
          dsimp only at hx
          obtain ⟨_, h2, _⟩ := take_some h
          obtain ⟨l1, bad1⟩ := s1
          dsimp only at h2; subst h2
          have hxx : x = [if oddOf p.num then 1 else 0] := by
            match x, h8 with
            | [c], ⟨_, hc⟩ =>
              have hc2 : c.toNat ≤ 1 := hc
              rw [← hx]
              show [c] = [if decide (c.toNat = 1) = true then 1 else 0]
              by_cases h1 : c.toNat = 1
              · have : c = 1 := UInt8.toNat_inj.1 h1
                subst this; rfl
              · have : c = 0 := UInt8.toNat_inj.1 (by show c.toNat = 0; omega)
                subst this; rfl
          rw [← hxx]
          exact ⟨l1, rfl, rfl⟩
        · rw [flag_bad h h8] at hb'; cases hb'
theorem num_le {s : RS} {t : UInt8} (h : (s.take t).2.l.length ≤ s.l.length) : (s.num t).2.l.length ≤ s.l.length := by
  unfold RS.num; split
  · exact h
  · split <;> exact h
theorem flag_le {s : RS} {t : UInt8} (h : (s.take t).2.l.length ≤ s.l.length) : (s.flag t).2.l.length ≤ s.l.length := by
  unfold RS.flag; split
  · exact h
  · split <;> exact h
end Go.Proofs.Ytpkabinmnkadeaa.Tlv
