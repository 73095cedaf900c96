/-
  Parts put into a writer.
-/
import Derived.Test.YtpkabinmnkadeaaVs
namespace Go.Proofs.Ytpkabinmnkadeaa.Tlv
open Go.RowKit Go.Proofs.Ytpkabinmnkadeaa.Mem

def ptObj (p : Pt) : Obj := .cells #[.int .i64 p.kind, .int .u8 (p.tag.toNat : Int), .int .u64 (p.num : Int), .slice p.bo p.b.length p.bcap, .slice p.lo p.l.length p.lcap] 62

set_option maxRecDepth 100000 in
set_option maxHeartbeats 1000000 in
theorem put1_any (B g xb : Nat) (st : WS) (p : Pt) (i : Nat) (W : World) (hw : WrS B g st W) (hl : st.l.length ≤ 100000000) (hx : W.heap[xb]? = some (ptObj p)) (hg : ptG p W) (hs : ptSmall p) (hi : i < p.l.length) :
    Calls Try.prog 53 (#[.pointer (some ⟨g, 0, none⟩), .int .i64 (i : Int)] ++ #[.pointer (some ⟨xb, 0, none⟩)]) W fun e w' => (∃ r, e = .returned r) ∧ WrS B g (st.put 9 (p.l[i]?.getD ByteArray.empty).data.toList) w' ∧ Below B W w' := by
  obtain ⟨kind, tag, num, b, bo, bcap, l, lo, lcap⟩ := p
  obtain ⟨g1, g2, g3, g4⟩ := hg
  obtain ⟨s1, s2, s3⟩ := hs
  dsimp only [ptObj] at *
  obtain ⟨lb, lf, rfl, llt, lc⟩ := g2.some (by have := g2.le; omega)
  have c4 : W.cell? ⟨xb, 4, none⟩ = some (.slice (some ⟨lb, lf, none⟩) l.length lcap) := by simp [World.cell?, hx]
  have hc5 := lc i (.string l[i]) (by simp [strV, hi])
  have i0 : (0 : Int) ≤ (i : Int) := by omega
  have i1 : (i : Int) < (l.length : Int) := by omega
  have hsz := s3 l[i] (List.getElem_mem hi)
  have hlg : l[i]?.getD ByteArray.empty = l[i] := by rw [List.getElem?_eq_getElem hi]; rfl
  rw [hlg]
  clear hlg
  generalize l[i] = sk at *
  go_enter Try.func53, Try.ntmps53
  go_wp2_with fail
  refine (wtext_any B g st 9 sk W hw hl (by omega)).mono ?_
  rintro e w' ⟨rfl, h1, h2, h3⟩
  go_wp2
  refine bodyPost_end (results_none rfl _ _ _) rfl ?_
  exact ⟨⟨_, rfl⟩, h1, h2⟩

theorem wlist5 (B g xb : Nat) (st : WS) (p : Pt) (W : World) (hw : WrS B g st W) (hl : st.l.length ≤ 100000000) (hx : W.heap[xb]? = some (ptObj p)) (hg : ptG p W) (hs : ptSmall p) (hxb : xb < W.heap.size) :
    Calls Try.prog 52 #[.pointer (some ⟨g, 0, none⟩), .int .u8 (p.tag.toNat : Int), .int .i64 (p.l.length : Int), .func (.func 53) #[] #[.pointer (some ⟨xb, 0, none⟩)]] W (Turns B g (st.put p.tag (allIt (itemOf p.l) p.l.length)) W) := by
  by_cases hb : st.bad = 0
  · have hlen := items_len p.l hs.2.2 p.l.length (Nat.le_refl _)
    have h30 := hs.2.1
    refine wlist_ok B g st p.tag p.l.length _ _ (itemOf p.l) W hw hb (by omega) (enters_of Try.func53 (by kernel_rfl) rfl) (fun i hi => ?_) (by omega) hl (fun i W' hi hbw hwi => ?_)
    · obtain ⟨h1, h2, h3⟩ := item_len p.l hs.2.2 i hi
      exact ⟨manyOf_val 9 _ (by decide) (by omega), h2⟩
    · have hmono := allIt_mono (itemOf p.l) (Nat.le_of_lt hi)
      refine (put1_any W.heap.size W.heap.size xb ⟨allIt (itemOf p.l) i, 0⟩ p i W' hwi (by dsimp only; omega) ((hbw.block xb hxb).trans hx) (hg.later hbw) hs hi).mono ?_
      rintro e w' ⟨h1, h2, h3⟩
      refine ⟨h1, ?_, h3⟩
      rw [allIt_succ]
      exact h2
  · rw [show st.put p.tag (allIt (itemOf p.l) p.l.length) = st from by unfold WS.put; rw [if_neg hb]]
    exact wlist_bad B g st p.tag _ _ W hw hb

/-- The writer's state behind a part. -/
def stepP (s : WS) (p : Pt) : WS := if s.bad = 0 then (if (partB p).2 then ⟨s.l ++ (partB p).1, 0⟩ else ⟨s.l, 2⟩) else s
theorem stepP_out (s : WS) (p : Pt) (h : p.kind < 1 ∨ 6 < p.kind) : stepP s p = s := by
  obtain ⟨l, bad⟩ := s
  have hp : partB p = ([], true) := if_pos h
  unfold stepP
  rw [hp]
  by_cases hb : bad = 0
  · subst hb; simp
  · simp [hb]
theorem stepP_put (s : WS) (p : Pt) (x : List UInt8) (h : ¬ (p.kind < 1 ∨ 6 < p.kind)) (hx : ¬ p.tag.toNat = 0 → partB p = (val p.tag x, true)) : stepP s p = s.put p.tag x := by
  obtain ⟨l, bad⟩ := s
  unfold stepP WS.put
  by_cases hb : bad = 0
  · subst hb
    by_cases ht : p.tag.toNat = 0
    · have hp : partB p = ([], false) := by unfold partB; rw [if_neg h, if_pos (.inl ht)]
      rw [hp]
      simp [ht]
    · rw [hx ht]
      simp [ht]
  · simp [hb]
theorem stepP_six (s : WS) (p : Pt) (h6 : p.kind = 6) : stepP s p = s.fail 2 := by
  obtain ⟨l, bad⟩ := s
  have hp : partB p = ([], false) := by unfold partB; rw [if_neg (by omega), if_pos (.inr h6)]
  unfold stepP WS.fail
  rw [hp]
  by_cases hb : bad = 0
  · subst hb; simp
  · simp [hb]
theorem stepP_len (s : WS) (p : Pt) (h : ptSmall p) : (stepP s p).l.length ≤ s.l.length + 700000 := by
  have := partB_len p h
  unfold stepP
  split
  · split
    · simp only [List.length_append]; omega
    · dsimp only; omega
  · omega

/-- The cells of parts. -/
def ptsV (ps : List Pt) : List Value := ps.flatMap ptV
theorem ptsV_len (ps : List Pt) : (ptsV ps).length = ps.length * 5 := by
  induction ps with
  | nil => rfl
  | cons x a ih => simp only [ptsV, List.flatMap_cons, List.length_append] at ih ⊢; simp [ptV] at ih ⊢; omega
theorem ptsV_at (ps : List Pt) (k : Nat) (y : Pt) (h : ps[k]? = some y) (j : Nat) (u : Value) (hj : (ptV y)[j]? = some u) : (ptsV ps)[k * 5 + j]? = some u := by
  induction ps generalizing k with
  | nil => simp at h
  | cons z ps ih =>
    have hl : (ptV z).length = 5 := rfl
    have hjl : j < 5 := (List.getElem?_eq_some_iff.1 hj).1
    cases k with
    | zero =>
      rw [List.getElem?_cons_zero, Option.some.injEq] at h
      subst h
      simp only [ptsV, List.flatMap_cons]
      rw [List.getElem?_append_left (by rw [hl]; omega), Nat.zero_mul, Nat.zero_add]
      exact hj
    | succ k =>
      rw [List.getElem?_cons_succ] at h
      simp only [ptsV, List.flatMap_cons]
      rw [List.getElem?_append_right (by rw [hl]; omega), hl, show (k + 1) * 5 + j - 5 = k * 5 + j by omega]
      exact ih k h

/-- Parts as they come in. -/
structure Parts (W : World) (ao : Option Addr) (cap : Nat) (ps : List Pt) : Prop where
  rd : Rd W 5 ao ps.length cap (ptsV ps)
  each : ∀ p ∈ ps, ptG p W
theorem Parts.later {W W' : World} {ao : Option Addr} {cap : Nat} {ps : List Pt} (h : Parts W ao cap ps) (hb : Below W.heap.size W W') : Parts W' ao cap ps := ⟨h.rd.later hb, fun p hp => (h.each p hp).later hb⟩

/-- The writer's state behind the first parts. -/
def stP (ps : List Pt) (k : Nat) : WS := (ps.take k).foldl stepP ⟨[], 0⟩
theorem stP_succ (ps : List Pt) (k : Nat) (p : Pt) (h : ps[k]? = some p) : stP ps (k + 1) = stepP (stP ps k) p := by
  unfold stP
  rw [List.take_add_one, h, List.foldl_append]
  rfl
theorem stP_len (ps : List Pt) (hs : ∀ p ∈ ps, ptSmall p) : ∀ k, (stP ps k).l.length ≤ k * 700000
  | 0 => by have h : (stP ps 0).l.length = 0 := rfl
            omega
  | k + 1 => by
    have ih := stP_len ps hs k
    cases h : ps[k]? with
    | none =>
      have he : stP ps (k + 1) = stP ps k := by unfold stP; rw [List.take_add_one, h]; simp
      rw [he]
      exact Nat.le_trans ih (Nat.mul_le_mul_right _ (Nat.le_succ k))
    | some p =>
      rw [stP_succ ps k p h]
      have h2 := stepP_len (stP ps k) p (hs p (List.mem_of_getElem? h))
      rw [Nat.succ_mul]
      exact Nat.le_trans h2 (Nat.add_le_add_right ih _)

set_option maxRecDepth 100000 in
set_option maxHeartbeats 2000000 in
theorem lput_any (ao : Option Addr) (cap : Nat) (ps : List Pt) (W : World) (hp : Parts W ao cap ps) (hn : ps.length ≤ 30) (hs : ∀ p ∈ ps, ptSmall p) (hlow : ∀ p ∈ ps, ptLow W.heap.size p) :
    Calls Try.prog 34 #[.slice ao ps.length cap] W fun e w' => e = .returned (.pointer (some ⟨W.heap.size, 0, none⟩)) ∧ WrS W.heap.size W.heap.size (stP ps ps.length) w' ∧ Below W.heap.size W w' := by
  have hnew : WrS W.heap.size W.heap.size ⟨[], 0⟩ (W.alloc (.cells #[.slice none 0 0, .int .i64 0] 72)) := ⟨_, ⟨by show (W.heap.push _)[W.heap.size]? = some _; simp, Nat.le_refl _, World.ownsRow_nil _ _ _ _⟩⟩
  have hb0 : Below W.heap.size W (W.alloc (.cells #[.slice none 0 0, .int .i64 0] 72)) := (Below.refl _ W).alloc (Nat.le_refl _) _
  go_enter Try.func34, Try.ntmps34
  go_wp2_with fail
  go_loopw [3, 4] (fun v p wr => ∃ k : Nat, k ≤ ps.length ∧ v = .pointer (some ⟨W.heap.size, 0, none⟩) ∧ p = .int .i64 (k : Int) ∧ WrS W.heap.size W.heap.size (stP ps k) wr ∧ Below W.heap.size W wr) (fun _ p _ => (ps.length - intOf p).toNat)
  case atStart => exact ⟨0, by omega, rfl, rfl, hnew, hb0⟩
  case round =>
    obtain ⟨k, hk, rfl, rfl, hwr, hbr⟩ := hrel
    by_cases hkl : k = ps.length
    · have f0 : decide ((k : Int) < (ps.length : Int)) = false := decide_eq_false (by omega)
      subst hkl
      go_wp2
      go_ret
      exact ⟨rfl, hwr, hbr⟩
    · have f0 : decide ((k : Int) < (ps.length : Int)) = true := decide_eq_true (by omega)
      have hkl2 : k < ps.length := by omega
      have hpk : ps[k]? = some ps[k] := List.getElem?_eq_getElem hkl2
      have hsucc := stP_succ ps k _ hpk
      have hgk := (hp.each _ (List.getElem_mem hkl2)).later hbr
      have hsk := hs _ (List.getElem_mem hkl2)
      have hrd := hp.rd.later hbr
      have hcap := hrd.le
      obtain ⟨lb, lf, rfl, llt, lc⟩ := hrd.some (by omega)
      have e0 := lc (k * 5 + 0) _ (ptsV_at ps k _ hpk 0 _ rfl)
      have e1 : wr.cell? ⟨lb, lf + k * 5 + 1, none⟩ = _ := lc (k * 5 + 1) _ (ptsV_at ps k _ hpk 1 _ rfl)
      have e2 : wr.cell? ⟨lb, lf + k * 5 + 2, none⟩ = _ := lc (k * 5 + 2) _ (ptsV_at ps k _ hpk 2 _ rfl)
      have e3 : wr.cell? ⟨lb, lf + k * 5 + 3, none⟩ = _ := lc (k * 5 + 3) _ (ptsV_at ps k _ hpk 3 _ rfl)
      have e4 : wr.cell? ⟨lb, lf + k * 5 + 4, none⟩ = _ := lc (k * 5 + 4) _ (ptsV_at ps k _ hpk 4 _ rfl)
      rw [Nat.add_zero] at e0
      have hll := stP_len ps hs k
      have hl1 : (stP ps k).l.length ≤ 100000000 := by omega
      have i0 : (0 : Int) ≤ (k : Int) := by omega
      have i1 : (k : Int) < (ps.length : Int) := by omega
      have Hsucc := Lib.hid hsucc
      clear hsucc hll
      generalize hst : stP ps k = st at *
      clear hst
      generalize hpp : ps[k] = p at *
      have hbx : Below wr.heap.size wr (wr.alloc (ptObj p)) := (Below.refl _ wr).alloc (Nat.le_refl _) _
      have hwx := hwr.later hbx
      have hgx := hgk.later hbx
      have hxx : (wr.alloc (ptObj p)).heap[wr.heap.size]? = some (ptObj p) := by show (wr.heap.push _)[wr.heap.size]? = some _; simp
      have hB : W.heap.size ≤ W.heap.size := Nat.le_refl _
      have hdis : ∀ v, WrAt W.heap.size W.heap.size st.l st.bad v (wr.alloc (ptObj p)) → 0 < p.bcap → ∀ a, p.bo = some a → a.block < W.heap.size → some a.block ≠ v.ownBlock := fun v hv _ a _ hlt => wr_low hv hlt
      by_cases hout : p.kind < 1 ∨ 6 < p.kind
      · have hst := stepP_out st p hout
        have Hst := Lib.hid hst
        clear hst
        obtain ⟨kind, tag, num, b, bo, bcap, l, lo, lcap⟩ := p
        dsimp only [ptObj] at *
        have n1 : (kind == 1) = false := by simp; omega
        have n2 : (kind == 2) = false := by simp; omega
        have n3 : (kind == 3) = false := by simp; omega
        have n4 : (kind == 4) = false := by simp; omega
        have n5 : (kind == 5) = false := by simp; omega
        have n6 : (kind == 6) = false := by simp; omega
        clear hout
        go_wp2_with fail
        go_roundw
        case rel => exact ⟨k + 1, by omega, rfl, by go_num, by rw [Hsucc.out, Hst.out]; exact hwx, hbr.trans (hbx.mono hbr.size)⟩
        case measure => simp [intOf]; omega
      have hc : p.kind = 1 ∨ p.kind = 2 ∨ p.kind = 3 ∨ p.kind = 4 ∨ p.kind = 5 ∨ p.kind = 6 := by omega
      obtain ⟨kind, tag, num, b, bo, bcap, l, lo, lcap⟩ := p
      dsimp only at hc
      have hbl := hlow _ (List.mem_of_getElem? hpk)
      dsimp only [ptObj] at *
      rcases hc with rfl | rfl | rfl | rfl | rfl | rfl
      · have hst := stepP_put st ⟨1, tag, num, b, bo, bcap, l, lo, lcap⟩ b hout (fun ht => by unfold partB; rw [if_neg hout, if_neg (by rintro (h | h); exact ht h; cases h), if_neg (by simp), if_neg (by simp), if_neg (by simp)])
        have Hst := Lib.hid hst
        clear hst
        have hc1 := wput_any W.heap.size W.heap.size st tag b bo b.length bcap _ hwx hl1 (by have := hsk.1; dsimp only at this; omega) hgx.1 (fun h0 a ha v hv => hdis v hv h0 a ha (hbl.1 h0 a ha))
        go_wp2_with fail
        refine hc1.mono ?_
        rintro e w' ⟨rfl, hS, hb, _⟩
        go_wp2
        go_roundw
        case rel => exact ⟨k + 1, by omega, rfl, by go_num, by rw [Hsucc.out, Hst.out]; exact hS, hbr.trans ((hbx.mono hbr.size).trans hb)⟩
        case measure => simp [intOf]; omega
      · have hst := stepP_put st ⟨2, tag, num, b, bo, bcap, l, lo, lcap⟩ b hout (fun ht => by unfold partB; rw [if_neg hout, if_neg (by rintro (h | h); exact ht h; cases h), if_neg (by simp), if_neg (by simp), if_neg (by simp)])
        have Hst := Lib.hid hst
        clear hst
        have hs1 := run_strD bo b.length bcap b _ hgx.1
        have hc1 := wtext_any W.heap.size W.heap.size st tag ⟨b.toArray⟩ _ hwx hl1 (by have := hsk.1; dsimp only at this; show b.toArray.size ≤ _; rw [List.size_toArray]; omega)
        go_wp2_with fail
        refine hc1.mono ?_
        rintro e w' ⟨rfl, hS, hb, _⟩
        go_wp2
        go_roundw
        case rel => exact ⟨k + 1, by omega, rfl, by go_num, by rw [Hsucc.out, Hst.out]; exact hS, hbr.trans ((hbx.mono hbr.size).trans hb)⟩
        case measure => simp [intOf]; omega
      · have hst := stepP_put st ⟨3, tag, num, b, bo, bcap, l, lo, lcap⟩ (num8 num) hout (fun ht => by unfold partB; rw [if_neg hout, if_neg (by rintro (h | h); exact ht h; cases h), if_pos rfl])
        have Hst := Lib.hid hst
        clear hst
        have hc1 := wnum_any W.heap.size W.heap.size st tag num _ hwx hl1
        go_wp2_with fail
        refine (hc1).mono ?_
        rintro e w' ⟨rfl, hS, hb, _⟩
        go_wp2
        go_roundw
        case rel => exact ⟨k + 1, by omega, rfl, by go_num, by rw [Hsucc.out, Hst.out]; exact hS, hbr.trans ((hbx.mono hbr.size).trans hb)⟩
        case measure => simp [intOf]; omega
      · have hst := stepP_put st ⟨4, tag, num, b, bo, bcap, l, lo, lcap⟩ [if oddOf num then 1 else 0] hout (fun ht => by unfold partB; rw [if_neg hout, if_neg (by rintro (h | h); exact ht h; cases h), if_neg (by simp), if_pos rfl])
        have Hst := Lib.hid hst
        clear hst
        have hodd : ((num : Int) % 2 == 1) = oddOf num := by unfold oddOf; rw [Bool.eq_iff_iff]; simp; omega
        have Hodd := Lib.hid hodd
        clear hodd
        have hc1 := wflag_any W.heap.size W.heap.size st tag (oddOf num) _ hwx hl1
        have Hc1 := Lib.hid hc1
        clear hc1
        go_wp2_with fail
        rw [Hodd.out]
        refine (Hc1.out).mono ?_
        rintro e w' ⟨rfl, hS, hb, _⟩
        go_wp2
        go_roundw
        case rel => exact ⟨k + 1, by omega, rfl, by go_num, by rw [Hsucc.out, Hst.out]; exact hS, hbr.trans ((hbx.mono hbr.size).trans hb)⟩
        case measure => simp [intOf]; omega
      · have hst := stepP_put st ⟨5, tag, num, b, bo, bcap, l, lo, lcap⟩ (allIt (itemOf l) l.length) hout (fun ht => by unfold partB; rw [if_neg hout, if_neg (by rintro (h | h); exact ht h; cases h), if_neg (by simp), if_neg (by simp), if_pos rfl])
        have Hst := Lib.hid hst
        clear hst
        have hc1 : Calls Try.prog 52 #[.pointer (some ⟨W.heap.size, 0, none⟩), .int .u8 (tag.toNat : Int), .int .i64 (l.length : Int), .func (.func 53) #[] #[.pointer (some ⟨wr.heap.size, 0, none⟩)]] _ (Turns W.heap.size W.heap.size (st.put tag (allIt (itemOf l) l.length)) _) := wlist5 W.heap.size W.heap.size wr.heap.size st ⟨5, tag, num, b, bo, bcap, l, lo, lcap⟩ _ hwx hl1 hxx hgx hsk (by simp)
        go_wp2_with fail
        refine hc1.mono ?_
        rintro e w' ⟨rfl, hS, hb, _⟩
        go_wp2
        go_roundw
        case rel => exact ⟨k + 1, by omega, rfl, by go_num, by rw [Hsucc.out, Hst.out]; exact hS, hbr.trans ((hbx.mono hbr.size).trans hb)⟩
        case measure => simp [intOf]; omega
      · have hst := stepP_six st ⟨6, tag, num, b, bo, bcap, l, lo, lcap⟩ rfl
        have Hst := Lib.hid hst
        clear hst
        have hc1 := wlist_neg W.heap.size W.heap.size st tag (.func (.func 54) #[] #[]) _ hwx
        go_wp2_with fail
        refine hc1.mono ?_
        rintro e w' ⟨rfl, hS, hb, _⟩
        go_wp2
        go_roundw
        case rel => exact ⟨k + 1, by omega, rfl, by go_num, by rw [Hsucc.out, Hst.out]; exact hS, hbr.trans ((hbx.mono hbr.size).trans hb)⟩
        case measure => simp [intOf]; omega
end Go.Proofs.Ytpkabinmnkadeaa.Tlv
