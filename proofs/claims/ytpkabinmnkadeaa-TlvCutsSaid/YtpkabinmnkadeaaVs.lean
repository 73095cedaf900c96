/-
  Parts: what they are, and the statement's own 'bytes'.
-/
import Derived.Test.YtpkabinmnkadeaaVr
import Derived.Test.YtpkabinmnkadeaaVp
namespace Go.Proofs.Ytpkabinmnkadeaa.Tlv
open Go.RowKit Go.Proofs.Ytpkabinmnkadeaa.Mem

/-- A part, and where its bytes and texts lie. -/
structure Pt where
  kind : Int
  tag : UInt8
  num : Nat
  b : List UInt8
  bo : Option Addr
  bcap : Nat
  l : List ByteArray
  lo : Option Addr
  lcap : Nat
def ptV (p : Pt) : List Value := [.int .i64 p.kind, .int .u8 (p.tag.toNat : Int), .int .u64 (p.num : Int), .slice p.bo p.b.length p.bcap, .slice p.lo p.l.length p.lcap]
def strV (l : List ByteArray) : List Value := l.map .string
def ptG (p : Pt) (W : World) : Prop := Rd W 1 p.bo p.b.length p.bcap (byV p.b) ∧ Rd W 1 p.lo p.l.length p.lcap (strV p.l) ∧ p.num < 18446744073709551616 ∧ (∀ s ∈ p.l, s.size ≤ maxLen)
def ptLow (B : Nat) (p : Pt) : Prop := (0 < p.bcap → ∀ a, p.bo = some a → a.block < B) ∧ (0 < p.lcap → ∀ a, p.lo = some a → a.block < B)
theorem ptG.below {B : Nat} {p : Pt} {W W' : World} (h : ptG p W) (hl : ptLow B p) (hb : Below B W W') : ptG p W' := ⟨h.1.below hb hl.1, h.2.1.below hb hl.2, h.2.2⟩
theorem ptG.later {p : Pt} {W W' : World} (h : ptG p W) (hb : Below W.heap.size W W') : ptG p W' := ⟨h.1.later hb, h.2.1.later hb, h.2.2⟩
/-- Not too much. -/
def ptSmall (p : Pt) : Prop := p.b.length ≤ 20000 ∧ p.l.length ≤ 30 ∧ ∀ s ∈ p.l, s.size ≤ 20000

/-- The items of a part's list. -/
def itemOf (l : List ByteArray) (i : Nat) : List UInt8 := val 9 (l[i]?.getD ByteArray.empty).data.toList
def oddOf (n : Nat) : Bool := decide (n % 2 = 1)
/-- What a part puts, and whether it can be put. -/
def partB (p : Pt) : List UInt8 × Bool :=
  if p.kind < 1 ∨ 6 < p.kind then ([], true)
  else if p.tag.toNat = 0 ∨ p.kind = 6 then ([], false)
  else if p.kind = 3 then (val p.tag (num8 p.num), true)
  else if p.kind = 4 then (val p.tag [if oddOf p.num then 1 else 0], true)
  else if p.kind = 5 then (val p.tag (allIt (itemOf p.l) p.l.length), true)
  else (val p.tag p.b, true)

theorem item_len (l : List ByteArray) (hs : ∀ s ∈ l, s.size ≤ 20000) (i : Nat) (hi : i < l.length) : (itemOf l i).length ≤ 20005 ∧ 0 < (itemOf l i).length ∧ (l[i]?.getD ByteArray.empty).data.toList.length ≤ 20000 := by
  have h1 : l[i]?.getD ByteArray.empty = l[i] := by rw [List.getElem?_eq_getElem hi]; rfl
  have h2 := hs l[i] (List.getElem_mem hi)
  have h3 : l[i].data.toList.length ≤ 20000 := by
    have : l[i].data.toList.length = l[i].size := Array.length_toList
    omega
  unfold itemOf
  rw [h1, val_len]
  omega
theorem items_len (l : List ByteArray) (hs : ∀ s ∈ l, s.size ≤ 20000) : ∀ k, k ≤ l.length → (allIt (itemOf l) k).length ≤ k * 20005
  | 0, _ => by simp [allIt]
  | k + 1, hk => by
    have h1 := items_len l hs k (by omega)
    have h2 := item_len l hs k (by omega)
    rw [allIt_succ, List.length_append]
    omega
theorem partB_len (p : Pt) (h : ptSmall p) : (partB p).1.length ≤ 700000 := by
  obtain ⟨h1, h2, h3⟩ := h
  have h4 := items_len p.l h3 p.l.length (Nat.le_refl _)
  unfold partB
  split
  · simp
  split
  · simp
  split
  · rw [val_len, num8_len]; omega
  split
  · rw [val_len]; simp
  split
  · rw [val_len]; omega
  · rw [val_len]; omega

/-- What 'bytes' answers. -/
def GivesP (w : World) (r : List UInt8 × Bool) (e : Ending) (w' : World) : Prop := ∃ v, e = .returned (.tuple #[v, .bool r.2]) ∧ w'.ownsRow w.heap.size 5 1 v r.1.length (byV r.1) ∧ Below w.heap.size w w'
theorem GivesP.none (w w' : World) (ok : Bool) (hb : Below w.heap.size w w') : GivesP w ([], ok) (.returned (.tuple #[.slice none 0 0, .bool ok])) w' := ⟨_, rfl, World.ownsRow_nil _ _ _ _, hb⟩

set_option maxRecDepth 100000 in
set_option maxHeartbeats 2000000 in
theorem lbytes_any (p : Pt) (W : World) (hg : ptG p W) (hs : ptSmall p) :
    Calls Try.prog 33 #[.agg #[.int .i64 p.kind, .int .u8 (p.tag.toNat : Int), .int .u64 (p.num : Int), .slice p.bo p.b.length p.bcap, .slice p.lo p.l.length p.lcap]] W (GivesP W (partB p)) := by
  obtain ⟨kind, tag, num, b, bo, bcap, l, lo, lcap⟩ := p
  obtain ⟨g1, g2, g3, g4⟩ := hg
  obtain ⟨s1, s2, s3⟩ := hs
  dsimp only at *
  have hbx : ∀ o, Below W.heap.size W (W.alloc o) := fun o => (Below.refl _ W).alloc (Nat.le_refl _) o
  by_cases k1 : kind < 1
  · have f1 : decide (kind < 1) = true := decide_eq_true k1
    have hr : partB ⟨kind, tag, num, b, bo, bcap, l, lo, lcap⟩ = ([], true) := if_pos (.inl k1)
    rw [hr]
    go_enter Try.func33, Try.ntmps33
    go_wp2_with fail
    go_ret2
    exact GivesP.none _ _ _ (hbx _)
  have f1 : decide (kind < 1) = false := decide_eq_false k1
  by_cases k2 : 6 < kind
  · have f2 : decide (6 < kind) = true := decide_eq_true k2
    have hr : partB ⟨kind, tag, num, b, bo, bcap, l, lo, lcap⟩ = ([], true) := if_pos (.inr k2)
    rw [hr]
    go_enter Try.func33, Try.ntmps33
    go_wp2_with fail
    go_ret2
    exact GivesP.none _ _ _ (hbx _)
  have f2 : decide (6 < kind) = false := decide_eq_false k2
  by_cases t0 : tag.toNat = 0
  · have f3 : ((tag.toNat : Int) == 0) = true := by simp [t0]
    have hr : partB ⟨kind, tag, num, b, bo, bcap, l, lo, lcap⟩ = ([], false) := by
      unfold partB; rw [if_neg (by rintro (h | h) <;> contradiction), if_pos (.inl t0)]
    rw [hr]
    go_enter Try.func33, Try.ntmps33
    go_wp2_with fail
    go_ret2
    exact GivesP.none _ _ _ (hbx _)
  have f3 : ((tag.toNat : Int) == 0) = false := by simp [t0]
  have hr : partB ⟨kind, tag, num, b, bo, bcap, l, lo, lcap⟩ = if kind = 6 then ([], false) else if kind = 3 then (val tag (num8 num), true) else if kind = 4 then (val tag [if oddOf num then 1 else 0], true) else if kind = 5 then (val tag (allIt (itemOf l) l.length), true) else (val tag b, true) := by
    unfold partB
    rw [if_neg (by rintro (h | h) <;> contradiction)]
    by_cases h6 : kind = 6
    · rw [if_pos (.inr h6), if_pos h6]
    · rw [if_neg (by rintro (h | h) <;> contradiction), if_neg h6]
  rw [hr]
  clear hr
  have hc : kind = 1 ∨ kind = 2 ∨ kind = 3 ∨ kind = 4 ∨ kind = 5 ∨ kind = 6 := by omega
  clear k1 k2 f1 f2
  have gb := fun o => g1.later (hbx o)
  have gl := fun o => g2.later (hbx o)
  have hfin : ∀ (o : Obj) (r : List UInt8) (v : Value) (w' : World), w'.ownsRow (W.alloc o).heap.size 5 1 v r.length (byV r) → Below (W.alloc o).heap.size (W.alloc o) w' → GivesP W (r, true) (.returned (.tuple #[v, .bool true])) w' := fun o r v w' ho hb => ⟨v, rfl, own_base ho (hbx o).size, (hbx o).trans (hb.mono (hbx o).size)⟩
  rcases hc with rfl | rfl | rfl | rfl | rfl | rfl
  · rw [if_neg (by decide), if_neg (by decide), if_neg (by decide), if_neg (by decide)]
    go_enter Try.func33, Try.ntmps33
    go_wp2_with fail
    refine (rvalue_any tag b bo _ bcap _ (by omega) (gb _)).mono ?_
    rintro e w' ⟨v, rfl, ho, hb⟩
    go_wp2
    go_ret2
    exact hfin _ _ _ _ ho hb
  · rw [if_neg (by decide), if_neg (by decide), if_neg (by decide), if_neg (by decide)]
    go_enter Try.func33, Try.ntmps33
    go_wp2_with fail
    refine (rvalue_any tag b bo _ bcap _ (by omega) (gb _)).mono ?_
    rintro e w' ⟨v, rfl, ho, hb⟩
    go_wp2
    go_ret2
    exact hfin _ _ _ _ ho hb
  · rw [if_neg (by decide), if_pos rfl]
    go_enter Try.func33, Try.ntmps33
    go_wp2_with fail
    refine (rnumber_any tag num _ g3).mono ?_
    rintro e w' ⟨v, rfl, ho, hb⟩
    go_wp2
    go_ret2
    exact hfin _ _ _ _ ho hb
  · rw [if_neg (by decide), if_neg (by decide), if_pos rfl]
    have hodd : ((num : Int) % 2 == 1) = oddOf num := by unfold oddOf; rw [Bool.eq_iff_iff]; simp; omega
    have Hodd := Lib.hid hodd
    clear hodd
    have hfl := fun W => rflag_any tag (oddOf num) W
    obtain ⟨fb, hfb⟩ : ∃ fb : List UInt8, fb = [if oddOf num then 1 else 0] := ⟨_, rfl⟩
    rw [← hfb]
    simp only [← hfb] at hfl
    clear hfb
    generalize oddOf num = od at *
    go_enter Try.func33, Try.ntmps33
    go_wp2_with fail
    rw [Hodd.out]
    refine (hfl _).mono ?_
    rintro e w' ⟨v, rfl, ho, hb⟩
    go_wp2
    go_ret2
    exact hfin _ _ _ _ ho hb
  · rw [if_neg (by decide), if_neg (by decide), if_neg (by decide), if_pos rfl]
    go_enter Try.func33, Try.ntmps33
    go_wp2_with fail
    have ho0 : ∀ W' : World, W'.ownsRow W.heap.size 5 1 (.slice none 0 0) 0 (byV []) := fun _ => World.ownsRow_nil _ _ _ _
    obtain ⟨o1, ho1⟩ : ∃ o1 : Obj, o1 = .cells #[.int .i64 5, .int .u8 (tag.toNat : Int), .int .u64 (num : Int), .slice bo b.length bcap, .slice lo l.length lcap] 62 := ⟨_, rfl⟩
    have hs0 : W.heap.size < (W.alloc o1).heap.size := by simp
    have hx0 : (W.alloc o1).heap[W.heap.size]? = some o1 := by show (W.heap.push _)[W.heap.size]? = some _; simp
    rw [← ho1]
    go_loopw [4, 5] (fun v p wr => ∃ k : Nat, k ≤ l.length ∧ p = .int .i64 (k : Int) ∧ wr.ownsRow (W.alloc o1).heap.size 5 1 v (allIt (itemOf l) k).length (byV (allIt (itemOf l) k)) ∧ Below (W.alloc o1).heap.size (W.alloc o1) wr) (fun _ p _ => (l.length - intOf p).toNat)
    case atStart => exact ⟨0, by omega, rfl, World.ownsRow_nil _ _ _ _, Below.refl _ _⟩
    case round =>
      obtain ⟨k, hk, rfl, hown, hbr⟩ := hrel
      have hx1 := (hbr.block _ hs0).trans hx0
      rw [ho1] at hx1
      have c1 : wr.cell? ⟨W.heap.size, 1, none⟩ = some (.int .u8 (tag.toNat : Int)) := by simp [World.cell?, hx1]
      have c4 : wr.cell? ⟨W.heap.size, 4, none⟩ = some (.slice lo l.length lcap) := by simp [World.cell?, hx1]
      have hlen := items_len l s3 l.length (Nat.le_refl _)
      have hlk := Nat.le_trans (allIt_mono (itemOf l) hk) hlen
      have hli : l.length * 20005 ≤ 600150 := by omega
      by_cases hkl : k = l.length
      · have f0 : decide ((k : Int) < (l.length : Int)) = false := decide_eq_false (by omega)
        obtain ⟨ao4, cap4, rfl, hr4⟩ := Rd.of_own hown
        subst hkl
        have hbw : Below W.heap.size W wr := (hbx o1).trans (hbr.mono (hbx o1).size)
        go_wp2_with fail
        refine (rvalue_any tag (allIt (itemOf l) l.length) ao4 _ cap4 wr (by omega) hr4).mono ?_
        rintro e w' ⟨v, rfl, ho, hb⟩
        go_wp2
        go_ret2
        exact ⟨v, rfl, own_base ho hbw.size, hbw.trans (hb.mono hbw.size)⟩
      · have f0 : decide ((k : Int) < (l.length : Int)) = true := decide_eq_true (by omega)
        have hkl2 : k < l.length := by omega
        obtain ⟨lb, lf, rfl, llt, lc⟩ := g2.some (by have := g2.le; omega)
        have hc5 := (hbr.cell (p := ⟨lb, lf + k, none⟩) (Nat.lt_trans llt hs0)).trans ((hbx o1).cell (p := ⟨lb, lf + k, none⟩) llt |>.trans (lc k (.string l[k]) (by simp [strV, hkl2])))
        have i0 : (0 : Int) ≤ (k : Int) := by omega
        have i1 : (k : Int) < (l.length : Int) := by omega
        have hsz := s3 l[k] (List.getElem_mem hkl2)
        have hlg : l[k]?.getD ByteArray.empty = l[k] := by rw [List.getElem?_eq_getElem hkl2]; rfl
        have Hlg := Lib.hid hlg
        clear hlg
        generalize l[k] = sk at *
        obtain ⟨cap5, w5, hrun, hr5, hb5⟩ := run_txt sk (by unfold maxLen; omega) wr
        have Hsucc := Lib.hid (allIt_succ (itemOf l) k)
        have hle : (allIt (itemOf l) k).length ≤ 600150 := by omega
        have hskl : sk.data.toList.length = sk.size := Array.length_toList
        have hvl := val_len 9 sk.data.toList
        have k63 : (allIt (itemOf l) k).length + (val 9 sk.data.toList).length ≤ maxLen := by unfold maxLen; omega
        have kby : ((allIt (itemOf l) k).length + (val 9 sk.data.toList).length) * 1 ≤ 140737488355328 := by omega
        have hit : itemOf l k = val 9 sk.data.toList := by unfold itemOf; rw [Hlg.out]
        have Hit := Lib.hid hit
        have hsk2 : sk.size ≤ 4194304 := by omega
        clear hit hvl hskl hlk hlen hli
        go_wp2_with fail
        refine (rvalue_any 9 sk.data.toList _ sk.size cap5 w5 hsk2 hr5).mono ?_
        rintro e w6 ⟨v6, rfl, ho6, hb6⟩
        obtain ⟨ao6, cap6, rfl, hr6⟩ := Rd.of_own ho6
        have hb56 := hb5.trans (hb6.mono hb5.size)
        have hown6 := own_later hown hb56
        have hbs6 := Nat.le_trans hbr.size hb56.size
        go_wp2_with (at_builtin; refine wpList_app _ rfl (.tmp 49) (.tmp 56) 22 rfl (W.alloc o1).heap.size 5 (.int .u8 0) 1 1 byT _ _ _ rfl hown6 ao6 _ cap6 _ rfl hr6 (byV_one _) k63 kby hbs6 ?_; intro ao7 cap7 w7 ho7 hg7 hb7 _)
        go_roundw
        case rel => exact ⟨k + 1, by omega, by go_num, by rw [Hsucc.out, Hit.out, List.length_append, byV_app]; exact ho7, hbr.trans ((hb56.mono hbr.size).trans hb7)⟩
        case measure => simp [intOf]; omega
  · rw [if_pos rfl]
    go_enter Try.func33, Try.ntmps33
    go_wp2_with fail
    go_ret2
    exact GivesP.none _ _ _ (hbx _)
end Go.Proofs.Ytpkabinmnkadeaa.Tlv
