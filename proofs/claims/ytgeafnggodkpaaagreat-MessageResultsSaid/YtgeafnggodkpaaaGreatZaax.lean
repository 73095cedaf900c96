/-
  A part of the proof: what this text holds is told at each of its declarations.
-/
import Derived.Test.YtgeafnggodkpaaaGreatZaaw
import Derived.Test.YtgeafnggodkpaaaGreatZaac
import Derived.Test.YtgeafnggodkpaaaGreatZaaq
namespace Go.Proofs.YtgeafnggodkpaaaGreat.Tlv

theorem u8_ofNat (n : Nat) (x : UInt8) (h : n % 256 = x.toNat) : UInt8.ofNat n = x := by
  apply UInt8.toNat_inj.1
  rw [UInt8.toNat_ofNat']; exact h
/-- The first value's bytes stand there. -/
theorem val_hd1 (l : List UInt8) (h : fs l ≠ 0) : l = val (hd1 l).1 (hd1 l).2 ++ l.drop (fs l) ∧ 0 < (hd1 l).1.toNat ∧ (hd1 l).2.length ≤ 4194304 := by
  have hc : ¬ (l.length < 5 ∨ l[0]?.getD 0 = 0 ∨ 4194304 < ln l ∨ l.length - 5 < ln l) := fun hh => h (fs_no hh)
  have hf := fs_yes hc
  have hl := hd1_len l h
  have hle := fs_le l
  have h0 : ¬ l[0]?.getD 0 = 0 := fun e => hc (.inr (.inl e))
  have hq : ¬ 4194304 < ln l := fun e => hc (.inr (.inr (.inl e)))
  match l, hle, hc with
  | a :: b :: c :: d :: e :: r, hle, hc =>
    have hln : ln (a :: b :: c :: d :: e :: r) = 16777216 * b.toNat + 65536 * c.toNat + 256 * d.toNat + e.toNat := rfl
    have hb := b.toNat_lt
    have hcc := c.toNat_lt
    have hd := d.toNat_lt
    have he := e.toNat_lt
    have hx : (hd1 (a :: b :: c :: d :: e :: r)).2 = r.take (ln (a :: b :: c :: d :: e :: r)) := by
      show ((a :: b :: c :: d :: e :: r).drop 5).take (fs _ - 5) = _
      rw [hf, show 5 + ln (a :: b :: c :: d :: e :: r) - 5 = ln (a :: b :: c :: d :: e :: r) by omega]; rfl
    have hn : (hd1 (a :: b :: c :: d :: e :: r)).2.length = ln (a :: b :: c :: d :: e :: r) := by omega
    refine ⟨?_, ?_, by omega⟩
    · have hdr : (a :: b :: c :: d :: e :: r).drop (fs (a :: b :: c :: d :: e :: r)) = r.drop (ln (a :: b :: c :: d :: e :: r)) := by rw [hf, Nat.add_comm]; rfl
      rw [hdr]
      unfold val
      rw [hn, hx]
      generalize hqq : ln (a :: b :: c :: d :: e :: r) = q at *
      rw [u8_ofNat (q / 16777216) b (by omega), u8_ofNat (q / 65536) c (by omega), u8_ofNat (q / 256) d (by omega), u8_ofNat q e (by omega)]
      show _ = [a, b, c, d, e] ++ List.take q r ++ List.drop q r
      rw [List.append_assoc, List.take_append_drop]; rfl
    · have : (hd1 (a :: b :: c :: d :: e :: r)).1 = a := rfl
      rw [this]
      have h1 : ¬ a = 0 := h0
      have : ¬ a.toNat = 0 := fun e => h1 (UInt8.toNat_inj.1 e)
      omega
  | [], _, hc => exact absurd (.inl (by simp)) hc
  | [_], _, hc => exact absurd (.inl (by simp)) hc
  | [_, _], _, hc => exact absurd (.inl (by simp)) hc
  | [_, _, _], _, hc => exact absurd (.inl (by simp)) hc
  | [_, _, _, _], _, hc => exact absurd (.inl (by simp)) hc

theorem take_val (t : UInt8) (b rest : List UInt8) (ht : 0 < t.toNat) (hb : b.length ≤ 4194304) : RS.take ⟨val t b ++ rest, false⟩ t = (some b, ⟨rest, false⟩) := by
  have hh := hd1_val t b rest ht hb
  have hf := fs_val t b rest ht hb
  unfold RS.take
  rw [if_neg (by simp), if_pos ⟨by dsimp only; omega, by dsimp only; rw [hh]⟩]
  dsimp only
  rw [hh, hf, ← val_len t b]
  simp
theorem take_some {s : RS} {t : UInt8} {x : List UInt8} {s' : RS} (h : s.take t = (some x, s')) : s.bad = false ∧ s'.bad = false ∧ s.l = val t x ++ s'.l ∧ x.length ≤ 4194304 ∧ 0 < t.toNat := by
  unfold RS.take at h
  split at h
  · cases h
  · rename_i hb
    split at h
    · rename_i h2
      have e1 := Option.some.inj (congrArg Prod.fst h)
      have e2 := congrArg Prod.snd h
      dsimp only at e1 e2
      obtain ⟨h3, h4, h5⟩ := val_hd1 s.l h2.1
      subst e1 e2
      refine ⟨by simpa using hb, rfl, ?_, h5, by rw [← h2.2]; exact h4⟩
      rw [h2.2] at h3
      exact h3
    · cases h
theorem take_none {s : RS} {t : UInt8} {s' : RS} (h : s.take t = (none, s')) : s'.bad = true := by
  unfold RS.take at h
  split at h
  · rename_i hb; have := congrArg Prod.snd h; dsimp only at this; rw [← this]; exact hb
  · split at h
    · cases h
    · have := congrArg Prod.snd h; dsimp only at this; rw [← this]


theorem num8_get (n k : Nat) (hk : k < 8) : ((num8 n)[k]?.getD 0).toNat = n / 256 ^ (7 - k) % 256 := by
  simp [num8, List.getElem?_map, List.getElem?_range hk, UInt8.toNat_ofNat']
theorem numK_num8 (n : Nat) (hn : n < 18446744073709551616) : numK (num8 n) 8 = n := by
  have h0 := num8_get n 0 (by omega)
  have h1 := num8_get n 1 (by omega)
  have h2 := num8_get n 2 (by omega)
  have h3 := num8_get n 3 (by omega)
  have h4 := num8_get n 4 (by omega)
  have h5 := num8_get n 5 (by omega)
  have h6 := num8_get n 6 (by omega)
  have h7 := num8_get n 7 (by omega)
  simp only [numK, h0, h1, h2, h3, h4, h5, h6, h7]
  omega
theorem num8_numK (b : List UInt8) (hb : b.length = 8) : num8 (numK b 8) = b := by
  match b, hb with
  | [b0, b1, b2, b3, b4, b5, b6, b7], _ =>
    have t0 := b0.toNat_lt
    have t1 := b1.toNat_lt
    have t2 := b2.toNat_lt
    have t3 := b3.toNat_lt
    have t4 := b4.toNat_lt
    have t5 := b5.toNat_lt
    have t6 := b6.toNat_lt
    have t7 := b7.toNat_lt
    have hq : numK [b0, b1, b2, b3, b4, b5, b6, b7] 8 = ((((((b0.toNat * 256 + b1.toNat) * 256 + b2.toNat) * 256 + b3.toNat) * 256 + b4.toNat) * 256 + b5.toNat) * 256 + b6.toNat) * 256 + b7.toNat := by
      simp only [numK]; simp
    rw [hq]
    generalize hqq : ((((((b0.toNat * 256 + b1.toNat) * 256 + b2.toNat) * 256 + b3.toNat) * 256 + b4.toNat) * 256 + b5.toNat) * 256 + b6.toNat) * 256 + b7.toNat = q
    show [UInt8.ofNat (q / 256 ^ (7 - 0)), UInt8.ofNat (q / 256 ^ (7 - 1)), UInt8.ofNat (q / 256 ^ (7 - 2)), UInt8.ofNat (q / 256 ^ (7 - 3)), UInt8.ofNat (q / 256 ^ (7 - 4)), UInt8.ofNat (q / 256 ^ (7 - 5)), UInt8.ofNat (q / 256 ^ (7 - 6)), UInt8.ofNat (q / 256 ^ (7 - 7))] = _
    rw [u8_ofNat _ b0 (by omega), u8_ofNat _ b1 (by omega), u8_ofNat _ b2 (by omega), u8_ofNat _ b3 (by omega), u8_ofNat _ b4 (by omega), u8_ofNat _ b5 (by omega), u8_ofNat _ b6 (by omega), u8_ofNat _ b7 (by omega)]


theorem num_none {s s' : RS} {t : UInt8} (h : s.take t = (none, s')) : s.num t = (0, s') := by unfold RS.num; rw [h]
theorem num_eight {s s' : RS} {t : UInt8} {b : List UInt8} (h : s.take t = (some b, s')) (hb : b.length = 8) : s.num t = (numK b 8, s') := by unfold RS.num; rw [h]; exact if_pos hb
theorem num_bad {s s' : RS} {t : UInt8} {b : List UInt8} (h : s.take t = (some b, s')) (hb : ¬ b.length = 8) : s.num t = (0, ⟨s'.l, true⟩) := by unfold RS.num; rw [h]; exact if_neg hb
theorem flag_none {s s' : RS} {t : UInt8} (h : s.take t = (none, s')) : s.flag t = (false, s') := by unfold RS.flag; rw [h]
theorem flag_one {s s' : RS} {t : UInt8} {b : List UInt8} (h : s.take t = (some b, s')) (hb : b.length = 1 ∧ (b[0]?.getD 0).toNat ≤ 1) : s.flag t = (decide ((b[0]?.getD 0).toNat = 1), s') := by unfold RS.flag; rw [h]; exact if_pos hb
theorem flag_bad {s s' : RS} {t : UInt8} {b : List UInt8} (h : s.take t = (some b, s')) (hb : ¬ (b.length = 1 ∧ (b[0]?.getD 0).toNat ≤ 1)) : s.flag t = (false, ⟨s'.l, true⟩) := by unfold RS.flag; rw [h]; exact if_neg hb

theorem val_inj {t : UInt8} {a b r r' : List UInt8} (ht : 0 < t.toNat) (ha : a.length ≤ 4194304) (hb : b.length ≤ 4194304) (h : val t a ++ r = val t b ++ r') : a = b ∧ r = r' := by
  have h1 := take_val t a r ht ha
  have h2 := take_val t b r' ht hb
  rw [h, h2] at h1
  have e1 := Option.some.inj (congrArg Prod.fst h1)
  have e2 := congrArg RS.l (congrArg Prod.snd h1)
  exact ⟨e1.symm, e2.symm⟩

/-- What a step of reading says. -/
structure Took {α : Type} (body : α → List UInt8) (may good : α → Prop) (s : RS) (y : α) (s' : RS) : Prop where
  yes : s'.bad = false → s.bad = false ∧ s.l = body y ++ s'.l ∧ good y
  no : s'.bad = true → s.bad = true ∨ ∀ z rest, may z → s.l ≠ body z ++ rest
  le : s'.l.length ≤ s.l.length

theorem take_cases (s : RS) (t : UInt8) (ht : 0 < t.toNat) : (∃ x rest, s.take t = (some x, ⟨rest, false⟩) ∧ s.bad = false ∧ s.l = val t x ++ rest ∧ x.length ≤ 4194304) ∨
    (∃ s', s.take t = (none, s') ∧ s'.bad = true ∧ s'.l = s.l ∧ (s.bad = true ∨ ∀ (z rest : List UInt8), z.length ≤ 4194304 → s.l ≠ val t z ++ rest)) := by
  cases h : s.take t with
  | mk ox s' =>
    cases ox with
    | some x =>
      obtain ⟨h1, h2, h3, h4, _⟩ := take_some h
      obtain ⟨l, b⟩ := s'
      dsimp only at h2 h3
      subst h2
      exact .inl ⟨x, l, rfl, h1, h3, h4⟩
    | none =>
      refine .inr ⟨s', rfl, take_none h, ?_, ?_⟩
      · unfold RS.take at h
        split at h
        · have := congrArg Prod.snd h; dsimp only at this; rw [← this]
        · split at h
          · cases h
          · have := congrArg Prod.snd h; dsimp only at this; rw [← this]
      · cases hb : s.bad with
        | true => exact .inl rfl
        | false =>
          refine .inr fun z rest hz e => ?_
          obtain ⟨l, b⟩ := s
          dsimp only at hb e
          subst hb e
          rw [take_val t z rest ht hz] at h
          cases h
theorem val_long (t : UInt8) (b r : List UInt8) : r.length ≤ (val t b ++ r).length := by rw [List.length_append]; omega

theorem took_bytes (s : RS) (t : UInt8) (ht : 0 < t.toNat) : Took (val t) (fun z => z.length ≤ 4194304) (fun z => z.length ≤ 4194304) s (s.bytes t).1 (s.bytes t).2 := by
  unfold RS.bytes
  rcases take_cases s t ht with ⟨x, rest, h, h1, h2, h3⟩ | ⟨s', h, h1, h2, h3⟩
  · rw [h]
    exact ⟨fun _ => ⟨h1, h2, h3⟩, fun e => (by cases e), (by rw [h2]; exact val_long _ _ _)⟩
  · rw [h]
    exact ⟨fun e => (by rw [show s'.bad = true from h1] at e; cases e), fun _ => h3, Nat.le_of_eq (congrArg List.length h2)⟩
theorem took_num (s : RS) (t : UInt8) (ht : 0 < t.toNat) : Took (fun n : Nat => val t (num8 n)) (fun n => n < 18446744073709551616) (fun n => n < 18446744073709551616) s (s.num t).1 (s.num t).2 := by
  rcases take_cases s t ht with ⟨x, rest, h, h1, h2, h3⟩ | ⟨s', h, h1, h2, h3⟩
  · by_cases h8 : x.length = 8
    · rw [num_eight h h8]
      refine ⟨fun _ => ⟨h1, ?_, numK_lt x 8⟩, fun e => (by cases e), ?_⟩
      · dsimp only; rw [num8_numK x h8]; exact h2
      · rw [h2]; exact val_long _ _ _
    · rw [num_bad h h8]
      refine ⟨fun e => (by cases e), fun _ => .inr fun z r hz e => ?_, ?_⟩
      · rw [h2] at e
        have := (val_inj ht h3 (by rw [num8_len]; omega) e).1
        rw [this, num8_len] at h8
        exact h8 rfl
      · rw [h2]; exact val_long _ _ _
  · rw [num_none h]
    exact ⟨fun e => (by rw [show s'.bad = true from h1] at e; cases e), fun _ => h3.imp id (fun h z r _ => h _ r (by rw [num8_len]; omega)), Nat.le_of_eq (congrArg List.length h2)⟩
theorem took_flag (s : RS) (t : UInt8) (ht : 0 < t.toNat) : Took (fun b : Bool => val t [if b then 1 else 0]) (fun _ => True) (fun _ => True) s (s.flag t).1 (s.flag t).2 := by
  rcases take_cases s t ht with ⟨x, rest, h, h1, h2, h3⟩ | ⟨s', h, h1, h2, h3⟩
  · by_cases h8 : x.length = 1 ∧ (x[0]?.getD 0).toNat ≤ 1
    · rw [flag_one h h8]
      refine ⟨fun _ => ⟨h1, ?_, trivial⟩, fun e => (by cases e), ?_⟩
      · dsimp only
        rw [h2]
        congr 2
        obtain ⟨h8, h9⟩ := h8
        match x, h8, h9 with
        | [a], _, h9 =>
          have h9 : a.toNat ≤ 1 := h9
          show [a] = [if decide (a.toNat = 1) = true then 1 else 0]
          by_cases ha : a.toNat = 1
          · rw [decide_eq_true ha, if_pos rfl, show a = 1 from UInt8.toNat_inj.1 ha]
          · rw [decide_eq_false ha, if_neg (by decide), show a = 0 from UInt8.toNat_inj.1 (by show a.toNat = 0; omega)]
      · rw [h2]; exact val_long _ _ _
    · rw [flag_bad h h8]
      refine ⟨fun e => (by cases e), fun _ => .inr fun z r _ e => ?_, ?_⟩
      · rw [h2] at e
        have := (val_inj ht h3 (by simp) e).1
        rw [this] at h8
        exact h8 (by cases z <;> simp)
      · rw [h2]; exact val_long _ _ _
  · rw [flag_none h]
    exact ⟨fun e => (by rw [show s'.bad = true from h1] at e; cases e), fun _ => h3.imp id (fun h z r _ => h _ r (by simp)), Nat.le_of_eq (congrArg List.length h2)⟩
end Go.Proofs.YtgeafnggodkpaaaGreat.Tlv
namespace Go.Proofs.YtgeafnggodkpaaaGreat.Msg
open Go.RowKit Go.Lib Go.Proofs.YtgeafnggodkpaaaGreat.Mem Go.Proofs.YtgeafnggodkpaaaGreat.Tlv

/-- No operation that may be has these bytes. -/
def NoOp (b : List UInt8) : Prop := ∀ W v c, OpAt W v c → mayOp v c = true → opL v c ≠ b

def tg (l : UInt8) : UInt8 := if l = 110 then 2 else if l = 116 then 3 else if l = 97 then 4 else if l = 112 then 5 else if l = 99 then 6 else 7
/-- What stands in a letter's value. -/
def bd (v : OV) (c : OC) (l : UInt8) : List UInt8 :=
  if l = 110 then v.name.data.toList else if l = 116 then v.to.data.toList else if l = 97 then attB c.attrs else if l = 112 then parB c.parts else if l = 99 then c.cursor else num8 v.n.toNat
theorem tg_pos (l : UInt8) : 0 < (tg l).toNat := by
  unfold tg
  repeat' split
  all_goals decide
theorem letV_bd (v : OV) (c : OC) (l : UInt8) : letV v c l = val (tg l) (bd v c l) := by
  unfold letV tg bd
  repeat' split
  all_goals rfl
theorem letV_len (v : OV) (c : OC) (l : UInt8) : (letV v c l).length = 5 + (bd v c l).length := by rw [letV_bd, val_len]

/-- Values taken off both sides. -/
theorem strip {f g : UInt8 → List UInt8} {r r' : List UInt8} : ∀ (ls : List UInt8), (∀ l ∈ ls, (f l).length ≤ 4194304 ∧ (g l).length ≤ 4194304) →
    ls.flatMap (fun l => val (tg l) (f l)) ++ r = ls.flatMap (fun l => val (tg l) (g l)) ++ r' → (∀ l ∈ ls, f l = g l) ∧ r = r'
  | [], _, h => ⟨fun _ h => absurd h List.not_mem_nil, h⟩
  | l :: ls, hl, h => by
    rw [List.flatMap_cons, List.flatMap_cons, List.append_assoc, List.append_assoc] at h
    obtain ⟨h1, h2⟩ := val_inj (tg_pos l) (hl l (by simp)).1 (hl l (by simp)).2 h
    obtain ⟨h3, h4⟩ := strip ls (fun x hx => hl x (by simp [hx])) h2
    refine ⟨fun x hx => ?_, h4⟩
    rcases List.mem_cons.1 hx with rfl | hx
    · exact h1
    · exact h3 x hx

theorem attB_cons (u : ByteArray × ByteArray) (x : List (ByteArray × ByteArray)) : attB (u :: x) = val 3 (val 1 u.1.data.toList ++ val 2 u.2.data.toList) ++ attB x := rfl
theorem ba_data {a b : ByteArray} (h : a.data.toList = b.data.toList) : a = b := by
  cases a; cases b
  simpa using h
theorem attB_inj : ∀ (x y : List (ByteArray × ByteArray)), (attB x).length ≤ 4194304 → (attB y).length ≤ 4194304 → attB x = attB y → x = y
  | [], [], _, _, _ => rfl
  | [], u :: y, _, _, h => by
    have := congrArg List.length h
    rw [attB_cons, List.length_append, val_len] at this
    have e0 : (attB []).length = 0 := rfl
    omega
  | u :: x, [], _, _, h => by
    have := congrArg List.length h
    rw [attB_cons, List.length_append, val_len] at this
    have e0 : (attB []).length = 0 := rfl
    omega
  | u :: x, u' :: y, hx, hy, h => by
    rw [attB_cons] at h hx hy
    rw [attB_cons] at h
    rw [List.length_append, val_len] at hx hy
    obtain ⟨h1, h2⟩ := val_inj (by decide) (by omega) (by omega) h
    have hx1 := hx
    have hy1 := hy
    rw [List.length_append, val_len, val_len] at hx1 hy1
    obtain ⟨h3, h4⟩ := val_inj (t := 1) (by decide) (by omega) (by omega) h1
    have h5 := (val_inj (t := 2) (a := u.2.data.toList) (b := u'.2.data.toList) (r := []) (r' := []) (by decide) (by omega) (by omega) (by rw [List.append_nil, List.append_nil]; exact h4)).1
    rw [attB_inj x y (by omega) (by omega) h2, show u = u' from Prod.ext (ba_data h3) (ba_data h5)]
theorem num8_inj {n m : Nat} (hn : n < 18446744073709551616) (hm : m < 18446744073709551616) (h : num8 n = num8 m) : n = m := by
  rw [← numK_num8 n hn, ← numK_num8 m hm, h]

/-- Only these letters' fields are set. -/
structure OnlyL (ls : List UInt8) (v : OV) (c : OC) : Prop where
  name : 110 ∉ ls → v.name = ⟨#[]⟩
  to_ : 116 ∉ ls → v.to = ⟨#[]⟩
  attrs : 97 ∉ ls → c.attrs = []
  parts : 112 ∉ ls → c.parts = []
  cursor : 99 ∉ ls → c.cursor = []
  n : 107 ∉ ls → v.n = 0
theorem may_k {v : OV} {c : OC} (h : mayOp v c = true) : 1 ≤ v.k ∧ v.k ≤ 8 := by
  unfold mayOp mayOpA at h
  simp only [Bool.and_eq_true, decide_eq_true_eq, Bool.not_eq_true'] at h
  have h1 := h.1.1.1.1.1.1
  rcases fields_kinds v.k with hf | ⟨hk, hf⟩ | ⟨hk, hf⟩ | ⟨hk, hf⟩ | ⟨hk, hf⟩ | ⟨hk, hf⟩ | ⟨hk, hf⟩ | ⟨hk, hf⟩ | ⟨hk, hf⟩
  · exact absurd hf h1
  all_goals omega
theorem may_bd {W : World} {v : OV} {c : OC} (ho : OpAt W v c) (h : mayOp v c = true) : (∀ l, (bd v c l).length ≤ 200000) ∧ 0 ≤ v.n ∧ v.n ≤ 1000 := by
  obtain ⟨h1, h2, h3⟩ := may_parts W ho h
  exact ⟨fun l => by have := h3 l; rw [letV_len] at this; omega, h1.n0, h1.n1⟩
theorem opTo_eq (v : OV) (c : OC) (ls : List UInt8) : opTo v c ls = val 1 (num8 v.k.toNat) ++ ls.flatMap (fun l => val (tg l) (bd v c l)) := by
  unfold opTo
  rw [show letV v c = fun l => val (tg l) (bd v c l) from funext (letV_bd v c)]

/-- What was read stands at the front; the same operation stands there. -/
theorem front {W : World} {v v' : OV} {c c' : OC} {ls more r : List UInt8} (hk0 : 0 ≤ v.k) (hk1 : v.k < 9223372036854775808) (hg : ∀ l ∈ ls, (bd v c l).length ≤ 4194304) (ho : OpAt W v' c') (hm : mayOp v' c' = true) (hf : fieldsOf v.k = ls ++ more)
    (h : opL v' c' = opTo v c ls ++ r) : v.k = v'.k ∧ (∀ l ∈ ls, bd v c l = bd v' c' l) ∧ r = more.flatMap (fun l => val (tg l) (bd v' c' l)) := by
  obtain ⟨hb, hn0, hn1⟩ := may_bd ho hm
  have hk := may_k hm
  unfold opL at h
  rw [opTo_eq, opTo_eq, List.append_assoc] at h
  obtain ⟨h1, h2⟩ := val_inj (by decide) (by rw [num8_len]; omega) (by rw [num8_len]; omega) h
  have h3 := num8_inj (by omega) (by omega) h1
  have h4 : v.k = v'.k := by omega
  rw [← h4, hf, List.flatMap_append] at h2
  obtain ⟨h5, h6⟩ := strip (f := bd v' c') (g := bd v c) ls (fun l hl => ⟨by have := hb l; omega, hg l hl⟩) h2
  exact ⟨h4, fun l hl => (h5 l hl).symm, h6.symm⟩

/-- How far an operation was read. -/
structure Part (b : List UInt8) (v : OV) (c : OC) (ls : List UInt8) (s : RS) : Prop where
  k0 : 0 ≤ v.k
  k1 : v.k < 9223372036854775808
  only : OnlyL ls v c
  n0 : 0 ≤ v.n
  n1 : v.n < 9223372036854775808
  good : ∀ l ∈ ls, s.bad = false → (bd v c l).length ≤ 4194304
  yes : s.bad = false → b = opTo v c ls ++ s.l
  no : s.bad = true → NoOp b
  le : s.l.length ≤ b.length

/-- One more letter's value. -/
theorem Part.step {b : List UInt8} {v v' : OV} {c c' : OC} {ls more : List UInt8} {s s' : RS} {x : UInt8} (h : Part b v c ls s) (hk : v'.k = v.k) (hf : fieldsOf v.k = ls ++ x :: more) (heq : ∀ l ∈ ls, bd v' c' l = bd v c l) (honly : OnlyL (ls ++ [x]) v' c')
    (n0 : 0 ≤ v'.n) (n1 : v'.n < 9223372036854775808) (hle : s'.l.length ≤ s.l.length)
    (hyes : s'.bad = false → s.bad = false ∧ s.l = letV v' c' x ++ s'.l ∧ (bd v' c' x).length ≤ 4194304)
    (hno : s'.bad = true → s.bad = true ∨ ∀ W v2 c2 rest, OpAt W v2 c2 → mayOp v2 c2 = true → s.l ≠ letV v2 c2 x ++ rest) : Part b v' c' (ls ++ [x]) s' where
  k0 := by rw [hk]; exact h.k0
  k1 := by rw [hk]; exact h.k1
  only := honly
  n0 := n0
  n1 := n1
  good := fun l hl hb => by
    obtain ⟨h1, h2, h3⟩ := hyes hb
    rcases List.mem_append.1 hl with hl | hl
    · rw [heq l hl]; exact h.good l hl h1
    · rw [List.mem_singleton.1 hl]; exact h3
  yes := fun hb => by
    obtain ⟨h1, h2, h3⟩ := hyes hb
    rw [h.yes h1, h2, opTo_eq, opTo_eq, hk, List.flatMap_append, List.flatMap_cons, List.flatMap_nil, List.append_nil, letV_bd]
    rw [show ls.flatMap (fun l => val (tg l) (bd v' c' l)) = ls.flatMap (fun l => val (tg l) (bd v c l)) from by
      rw [List.flatMap_def, List.flatMap_def]
      congr 1
      exact List.map_congr_left (fun l hl => by rw [heq l hl])]
    simp only [List.append_assoc]
  no := fun hb => by
    rcases hno hb with h1 | h1
    · exact h.no h1
    · intro W v2 c2 ho hm e
      cases hs : s.bad with
      | true => exact h.no hs W v2 c2 ho hm e
      | false =>
        have h2 := h.yes hs
        obtain ⟨_, _, h5⟩ := front h.k0 h.k1 (fun l hl => h.good l hl hs) ho hm hf (e.trans h2)
        refine h1 W v2 c2 (more.flatMap (fun l => val (tg l) (bd v2 c2 l))) ho hm ?_
        rw [h5, List.flatMap_cons, letV_bd]
  le := Nat.le_trans hle h.le

theorem Part.done {b : List UInt8} {v : OV} {c : OC} {s : RS} (h : Part b v c (fieldsOf v.k) s) (hb : s.bad = false) (hl : s.l = []) : opL v c = b := by
  have := h.yes hb
  rw [hl, List.append_nil] at this
  exact this.symm
theorem Part.left {b : List UInt8} {v : OV} {c : OC} {s : RS} (h : Part b v c (fieldsOf v.k) s) (hl : s.bad = true ∨ 0 < s.l.length) : NoOp b := by
  cases hb : s.bad with
  | true => exact h.no hb
  | false =>
    intro W v2 c2 ho hm e
    have h2 := h.yes hb
    obtain ⟨_, _, h5⟩ := front (more := []) h.k0 h.k1 (fun l hl => h.good l hl hb) ho hm (by simp) (e.trans h2)
    rcases hl with hl | hl
    · rw [hb] at hl; cases hl
    · rw [h5] at hl; simp at hl
end Go.Proofs.YtgeafnggodkpaaaGreat.Msg
