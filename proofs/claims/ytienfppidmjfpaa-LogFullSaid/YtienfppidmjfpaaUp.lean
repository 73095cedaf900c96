/-
  Plain facts on runes as bytes: what the walks of the package utf and of its reference come to. No program in sight.
-/
import Derived.WalkKit
namespace Go.Proofs.Ytienfppidmjfpaa.Utf

/-- A byte of a text, as a number; 0 behind its end. -/
def bt (l : List UInt8) (i : Nat) : Int := ((l.getD i 0).toNat : Int)
theorem bt_lo (l : List UInt8) (i : Nat) : 0 ≤ bt l i := by unfold bt; omega
theorem bt_hi (l : List UInt8) (i : Nat) : bt l i < 256 := by unfold bt; have := UInt8.toNat_lt (l.getD i 0); omega
theorem bt_zero (c : UInt8) (l : List UInt8) : bt (c :: l) 0 = (c.toNat : Int) := rfl
theorem bt_succ (c : UInt8) (l : List UInt8) (i : Nat) : bt (c :: l) (i + 1) = bt l i := by simp [bt]

def may (r : Int) : Bool := decide (0 ≤ r) && (decide (r ≤ 1114111) && (decide (r < 55296) || decide (57343 < r)))
theorem may_iff (r : Int) : may r = true ↔ 0 ≤ r ∧ r ≤ 1114111 ∧ (r < 55296 ∨ 57343 < r) := by simp [may]
theorem may_no (r : Int) : may r = false ↔ ¬ (0 ≤ r ∧ r ≤ 1114111 ∧ (r < 55296 ∨ 57343 < r)) := by rw [← may_iff]; simp
def size (r : Int) : Int := if may r = false then 0 else if r < 128 then 1 else if r < 2048 then 2 else if r < 65536 then 3 else 4

def headR (c : Int) : Int := if c < 128 then c else if 194 ≤ c ∧ c < 224 then c % 32 else if 224 ≤ c ∧ c < 240 then c % 16 else if 240 ≤ c ∧ c < 245 then c % 8 else 0
def headN (c : Int) : Int := if c < 128 then 0 else if 194 ≤ c ∧ c < 224 then 1 else if 224 ≤ c ∧ c < 240 then 2 else if 240 ≤ c ∧ c < 245 then 3 else -1

/-- The numbers of a rune's bytes. -/
def nums (r : Int) : List Int :=
  if r ≤ 127 then [r] else if r ≤ 2047 then [192 + r / 64, 128 + r % 64]
  else if r ≤ 65535 then [224 + r / 4096, 128 + r / 64 % 64, 128 + r % 64]
  else [240 + r / 262144, 128 + r / 4096 % 64, 128 + r / 64 % 64, 128 + r % 64]
def ofN (n : Int) : UInt8 := UInt8.ofNat n.toNat
theorem ofN_toNat (n : Int) (h0 : 0 ≤ n) (h1 : n < 256) : ((ofN n).toNat : Int) = n := by
  unfold ofN; rw [UInt8.toNat_ofNat']; omega
theorem ofN_eq (c : UInt8) (n : Int) (h : (c.toNat : Int) = n) : c = ofN n := by
  unfold ofN; subst h; simp
def enc (r : Int) : List UInt8 := (nums r).map ofN

/-- What the bytes at the front are: the rune, and how many; of none (0, 0). -/
def v3 (l : List UInt8) : Int := (bt l 0 % 16 * 64 + bt l 1 % 64) * 64 + bt l 2 % 64
def v4 (l : List UInt8) : Int := ((bt l 0 % 8 * 64 + bt l 1 % 64) * 64 + bt l 2 % 64) * 64 + bt l 3 % 64
def nx (l : List UInt8) : Int × Nat :=
  if 1 ≤ l.length ∧ bt l 0 < 128 then (bt l 0, 1)
  else if 2 ≤ l.length ∧ 194 ≤ bt l 0 ∧ bt l 0 < 224 ∧ bt l 1 / 64 = 2 then (bt l 0 % 32 * 64 + bt l 1 % 64, 2)
  else if 3 ≤ l.length ∧ 224 ≤ bt l 0 ∧ bt l 0 < 240 ∧ bt l 1 / 64 = 2 ∧ bt l 2 / 64 = 2 ∧ 2048 ≤ v3 l ∧ (v3 l < 55296 ∨ 57343 < v3 l) then (v3 l, 3)
  else if 4 ≤ l.length ∧ 240 ≤ bt l 0 ∧ bt l 0 < 245 ∧ bt l 1 / 64 = 2 ∧ bt l 2 / 64 = 2 ∧ bt l 3 / 64 = 2 ∧ 65536 ≤ v4 l ∧ v4 l ≤ 1114111 then (v4 l, 4)
  else (0, 0)

theorem nums_len (r : Int) : (nums r).length = (if r ≤ 127 then 1 else if r ≤ 2047 then 2 else if r ≤ 65535 then 3 else 4) := by
  unfold nums; repeat (split <;> try rfl)
theorem enc_len (r : Int) : (enc r).length = (nums r).length := by simp [enc]
theorem enc_pos (r : Int) : 1 ≤ (enc r).length := by rw [enc_len, nums_len]; repeat (split <;> try omega)
theorem enc_le (r : Int) : (enc r).length ≤ 4 := by rw [enc_len, nums_len]; repeat (split <;> try omega)
theorem size_len (r : Int) (h : may r = true) : size r = ((enc r).length : Int) := by
  rw [enc_len, nums_len]; unfold size; rw [h]; simp only [Bool.true_eq_false, if_false]
  repeat (first | (split <;> try omega))

/-- The bytes of a rune, and then others: the rune is the first. -/
theorem bt_app (a b : List UInt8) (i : Nat) (h : i < a.length) : bt (a ++ b) i = bt a i := by
  unfold bt; rw [List.getD_eq_getElem?_getD, List.getElem?_append_left h, ← List.getD_eq_getElem?_getD]
theorem bt_enc (r : Int) (i : Nat) (h : i < (nums r).length) (h0 : ∀ n ∈ nums r, 0 ≤ n ∧ n < 256) : bt (enc r) i = (nums r).getD i 0 := by
  unfold bt enc
  have hi : i < ((nums r).map ofN).length := by simpa using h
  rw [List.getD_eq_getElem?_getD, List.getElem?_eq_getElem hi, List.getD_eq_getElem?_getD, List.getElem?_eq_getElem h]
  simp only [Option.getD_some, List.getElem_map]
  have := h0 _ (List.getElem_mem h)
  exact ofN_toNat _ this.1 this.2
theorem nums_bd (r : Int) (h : may r = true) : ∀ n ∈ nums r, 0 ≤ n ∧ n < 256 := by
  rw [may_iff] at h; obtain ⟨h0, h1, h2⟩ := h
  unfold nums; intro n hn
  repeat' split at hn
  all_goals (simp at hn; omega)

theorem nx_enc (r : Int) (t : List UInt8) (h : may r = true) : nx (enc r ++ t) = (r, (enc r).length) := by
  have hb := nums_bd r h
  have h' := h
  rw [may_iff] at h'; obtain ⟨h0, h1, h2⟩ := h'
  have hl := nums_len r
  have hlen : (nums r).length ≤ (enc r ++ t).length := by simp [enc]
  have hB : ∀ i, i < (nums r).length → bt (enc r ++ t) i = (nums r).getD i 0 := fun i hi => by
    rw [bt_app _ _ _ (by rw [enc_len]; exact hi), bt_enc r i hi hb]
  have hel := enc_len r
  by_cases c1 : r ≤ 127
  · have hn : nums r = [r] := by unfold nums; rw [if_pos c1]
    rw [hn] at hB hlen hel
    have b0 := hB 0 (by simp); simp at b0 hel; simp only [List.length_cons, List.length_nil] at hlen
    unfold nx; rw [if_pos ⟨by omega, by omega⟩, b0, hel]
  by_cases c2 : r ≤ 2047
  · have hn : nums r = [192 + r / 64, 128 + r % 64] := by unfold nums; rw [if_neg c1, if_pos c2]
    rw [hn] at hB hlen hel
    have b0 := hB 0 (by simp); have b1 := hB 1 (by simp); simp at b0 b1 hel; simp only [List.length_cons, List.length_nil] at hlen
    unfold nx; rw [if_neg (by omega), if_pos ⟨by omega, by omega, by omega, by omega⟩, b0, b1, hel]
    exact Prod.ext (by show _ = r; omega) rfl
  by_cases c3 : r ≤ 65535
  · have hn : nums r = [224 + r / 4096, 128 + r / 64 % 64, 128 + r % 64] := by unfold nums; rw [if_neg c1, if_neg c2, if_pos c3]
    rw [hn] at hB hlen hel
    have b0 := hB 0 (by simp); have b1 := hB 1 (by simp); have b2 := hB 2 (by simp); simp at b0 b1 b2 hel; simp only [List.length_cons, List.length_nil] at hlen
    have hv : v3 (enc r ++ t) = r := by unfold v3; rw [b0, b1, b2]; omega
    unfold nx; rw [if_neg (by omega), if_neg (by omega), if_pos ⟨by omega, by omega, by omega, by omega, by omega, by omega, by omega⟩, hv, hel]
  · have hn : nums r = [240 + r / 262144, 128 + r / 4096 % 64, 128 + r / 64 % 64, 128 + r % 64] := by unfold nums; rw [if_neg c1, if_neg c2, if_neg c3]
    rw [hn] at hB hlen hel
    have b0 := hB 0 (by simp); have b1 := hB 1 (by simp); have b2 := hB 2 (by simp); have b3 := hB 3 (by simp); simp at b0 b1 b2 b3 hel; simp only [List.length_cons, List.length_nil] at hlen
    have hv : v4 (enc r ++ t) = r := by unfold v4; rw [b0, b1, b2, b3]; omega
    unfold nx; rw [if_neg (by omega), if_neg (by omega), if_neg (by omega), if_pos ⟨by omega, by omega, by omega, by omega, by omega, by omega, by omega, by omega⟩, hv, hel]

theorem take_one (l : List UInt8) (h : 1 ≤ l.length) : l.take 1 = [ofN (bt l 0)] := by
  match l, h with
  | a :: t, _ => simp only [List.take, bt_zero]; rw [ofN_eq a _ rfl]; simp [ofN]
theorem take_suc (l : List UInt8) (k : Nat) (h : k < l.length) : l.take (k + 1) = l.take k ++ [ofN (bt l k)] := by
  rw [List.take_succ_eq_append_getElem h]
  congr 2
  apply ofN_eq; unfold bt; rw [List.getD_eq_getElem?_getD, List.getElem?_eq_getElem h]; rfl

/-- What nx finds is a rune whose bytes stand at the front. -/
theorem nx_some (l : List UInt8) (r : Int) (n : Nat) (h : nx l = (r, n)) (hn : n ≠ 0) : may r = true ∧ n = (enc r).length ∧ n ≤ l.length ∧ l.take n = enc r := by
  have l0 := bt_lo l 0; have g0 := bt_hi l 0; have l1 := bt_lo l 1; have g1 := bt_hi l 1
  have l2 := bt_lo l 2; have g2 := bt_hi l 2; have l3 := bt_lo l 3; have g3 := bt_hi l 3
  unfold nx at h
  split at h
  · rename_i c; obtain ⟨rfl, rfl⟩ := Prod.mk.inj h
    have e : nums (bt l 0) = [bt l 0] := by unfold nums; rw [if_pos (by omega)]
    refine ⟨by rw [may_iff]; omega, by rw [enc_len, e]; rfl, c.1, ?_⟩
    rw [take_suc _ _ (by omega)]; simp [enc, e]
  split at h
  · rename_i _ c; obtain ⟨rfl, rfl⟩ := Prod.mk.inj h
    have e : nums (bt l 0 % 32 * 64 + bt l 1 % 64) = [bt l 0, bt l 1] := by
      unfold nums; rw [if_neg (by omega), if_pos (by omega)]; congr 1; · omega
      congr 1; omega
    refine ⟨by rw [may_iff]; omega, by rw [enc_len, e]; rfl, c.1, ?_⟩
    rw [take_suc _ _ (by omega), take_suc _ _ (by omega)]; simp [enc, e]
  split at h
  · rename_i _ _ c; obtain ⟨rfl, rfl⟩ := Prod.mk.inj h
    obtain ⟨c1, c2, c3, c4, c5, c6, c7⟩ := c
    have hv : v3 l = (bt l 0 % 16 * 64 + bt l 1 % 64) * 64 + bt l 2 % 64 := rfl
    have e : nums (v3 l) = [bt l 0, bt l 1, bt l 2] := by
      unfold nums; rw [if_neg (by omega), if_neg (by omega), if_pos (by omega)]; congr 1; · omega
      congr 1; · omega
      congr 1; omega
    refine ⟨by rw [may_iff]; omega, by rw [enc_len, e]; rfl, c1, ?_⟩
    rw [take_suc _ _ (by omega), take_suc _ _ (by omega), take_suc _ _ (by omega)]; simp [enc, e]
  split at h
  · rename_i _ _ _ c; obtain ⟨rfl, rfl⟩ := Prod.mk.inj h
    obtain ⟨c1, c2, c3, c4, c5, c6, c7, c8⟩ := c
    have hv : v4 l = ((bt l 0 % 8 * 64 + bt l 1 % 64) * 64 + bt l 2 % 64) * 64 + bt l 3 % 64 := rfl
    have e : nums (v4 l) = [bt l 0, bt l 1, bt l 2, bt l 3] := by
      unfold nums; rw [if_neg (by omega), if_neg (by omega), if_neg (by omega)]; congr 1; · omega
      congr 1; · omega
      congr 1; · omega
      congr 1; omega
    refine ⟨by rw [may_iff]; omega, by rw [enc_len, e]; rfl, c1, ?_⟩
    rw [take_suc _ _ (by omega), take_suc _ _ (by omega), take_suc _ _ (by omega), take_suc _ _ (by omega)]; simp [enc, e]
  · obtain ⟨rfl, rfl⟩ := Prod.mk.inj h; exact absurd rfl hn

/-- If a rune's bytes stand at the front, nx finds it. -/
theorem nx_of_take (l : List UInt8) (r : Int) (n : Nat) (hm : may r = true) (he : enc r = l.take n) (hn : n ≤ l.length) : nx l = (r, n) := by
  have hl : (enc r).length = n := by rw [he, List.length_take]; omega
  have : l = enc r ++ l.drop n := by rw [he, List.take_append_drop]
  rw [this, nx_enc r _ hm, hl]
theorem nx_zero (l : List UInt8) (h : (nx l).2 = 0) : nx l = (0, 0) := by
  rcases hx : nx l with ⟨r, n⟩
  rw [hx] at h; obtain rfl : n = 0 := h
  unfold nx at hx
  repeat' split at hx
  all_goals first | exact hx.symm | (exfalso; have := (Prod.mk.inj hx).2; omega)
theorem nx_le (l : List UInt8) : (nx l).2 ≤ l.length := by
  by_cases h : (nx l).2 = 0
  · omega
  · exact (nx_some l (nx l).1 (nx l).2 rfl h).2.2.1
theorem nx_le4 (l : List UInt8) : (nx l).2 ≤ 4 := by
  by_cases h : (nx l).2 = 0
  · omega
  · have := (nx_some l (nx l).1 (nx l).2 rfl h).2.1; have := enc_le (nx l).1; omega
end Go.Proofs.Ytienfppidmjfpaa.Utf
