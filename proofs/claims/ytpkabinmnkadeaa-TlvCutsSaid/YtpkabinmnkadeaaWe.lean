/-
  The statement's 'back'.
-/
import Derived.Test.YtpkabinmnkadeaaWd
import Derived.Shelf.Abstract
import Derived.RangeFuncBox
import Derived.Deep.RegionHeld3
namespace Go.Proofs.Ytpkabinmnkadeaa.Tlv
open Go.RowKit Go.Proofs.Ytpkabinmnkadeaa.Mem

theorem below_any {a b : World} {B : Nat} (h : Below a.heap.size a b) (hB : B ≤ a.heap.size) : Below B a b := h.mono hB

/-- What the closure does: q the inner reader, ib the counter's box. -/
def GivesCl (q ib k : Nat) (b : List UInt8) (p : Pt) (W : World) (e : Ending) (w' : World) : Prop := ∃ r s', e = .returned (.bool r) ∧ RdS q q s' w' ∧ Boxed w' ib 3 (.int .i64 ((k + 1 : Nat) : Int)) ∧ (W.setCell ⟨ib, 0, none⟩ (.int .i64 ((k + 1 : Nat) : Int))).grownBy w' (some q) ∧
  (s' = if k + 1 ≤ p.l.length then (RS.bytes ⟨b, false⟩ 9).2 else ⟨b, false⟩) ∧ (r = (decide (k + 1 ≤ p.l.length) && decide ((RS.bytes ⟨b, false⟩ 9).1 = (p.l[k]?.getD ByteArray.empty).data.toList)))

set_option maxRecDepth 100000 in
set_option maxHeartbeats 8000000 in
theorem cl_any (q ib xb k : Nat) (b : List UInt8) (p : Pt) (W : World) (hi : Boxed W ib 3 (.int .i64 (k : Int))) (hx : W.heap[xb]? = some (ptObj p)) (hg : ptG p W) (hs : ptSmall p) (hr : RdS q q ⟨b, false⟩ W) (hk : k ≤ p.l.length) (hb : b.length ≤ 100000000) :
    Calls Try.prog 62 (#[.pointer (some ⟨q, 0, none⟩)] ++ #[.pointer (some ⟨ib, 0, none⟩), .pointer (some ⟨xb, 0, none⟩)]) W (GivesCl q ib k b p W) := by
  obtain ⟨ao, cap, hr⟩ := hr
  have hat := hr.at_
  dsimp only at hat
  obtain ⟨kind, tag, num, pb, bo, bcap, l, lo, lcap⟩ := p
  obtain ⟨g1, g2, g3, g4⟩ := hg
  obtain ⟨s1, s2, s3⟩ := hs
  dsimp only [ptObj] at *
  have hib : W.heap[ib]? = _ := hi
  have hqi : q ≠ ib := by rintro rfl; rw [hib] at hat; cases hat
  have hxi : xb ≠ ib := by rintro rfl; rw [hib] at hx; cases hx
  have hxq : xb ≠ q := by rintro rfl; rw [hat] at hx; cases hx
  have ci := hi.cell
  have gi := hi.frozen
  have hk30 : (k : Int) + 1 ≤ 31 := by omega
  have hk1 : ((k + 1 : Nat) : Int) = (k : Int) + 1 := by omega
  have hg1 := grown_set W ib 0 (.int .i64 ((k : Int) + 1))
  have hr1 : RdS q q ⟨b, false⟩ (W.setCell ⟨ib, 0, none⟩ (.int .i64 ((k : Int) + 1))) := RdS.grown ⟨ao, cap, hr⟩ hg1 hib (fun _ _ h => by cases h) hqi
  have hi1 := hi.set (.int .i64 ((k : Int) + 1))
  have hx1 : (W.setCell ⟨ib, 0, none⟩ (.int .i64 ((k : Int) + 1))).heap[xb]? = _ := (Below.heap_setCell W ⟨ib, 0, none⟩ _ xb hxi).trans hx
  have ci2 := hi1.cell
  have cx : (W.setCell ⟨ib, 0, none⟩ (.int .i64 ((k : Int) + 1))).cell? ⟨xb, 4, none⟩ = some (.slice lo l.length lcap) := by simp [World.cell?, hx1]
  by_cases hkl : k + 1 ≤ l.length
  · have f0 : decide ((k : Int) + 1 ≤ (l.length : Int)) = true := decide_eq_true (by omega)
    obtain ⟨lb, lf, rfl, llt, lc⟩ := g2.some (by have := g2.le; omega)
    have hc5 := lc k (.string l[k]) (by simp [strV])
    have hlbi : lb ≠ ib := by
      rintro rfl
      simp [World.cell?, hib] at hc5
      cases h0 : (lf + k) with
      | zero => rw [h0] at hc5; simp at hc5
      | succ m => rw [h0] at hc5; simp at hc5
    have hlbq : lb ≠ q := by
      rintro rfl
      simp [World.cell?, hat] at hc5
      match h0 : lf + k with
      | 0 => rw [h0] at hc5; simp at hc5
      | 1 => rw [h0] at hc5; simp at hc5
      | 2 => rw [h0] at hc5; simp at hc5
      | m + 3 => rw [h0] at hc5; simp at hc5
    have cs : (W.setCell ⟨ib, 0, none⟩ (.int .i64 ((k : Int) + 1))).cell? ⟨lb, lf + k, none⟩ = some (.string l[k]) := by
      rw [World.cell?_of_block (w := W) (Below.heap_setCell W ⟨ib, 0, none⟩ _ lb hlbi)]
      exact hc5
    have hlg : l[k]?.getD ByteArray.empty = l[k] := by rw [List.getElem?_eq_getElem (by omega)]; rfl
    have i0 : (0 : Int) ≤ (k : Int) := by omega
    have i1 : (k : Int) < (l.length : Int) := by omega
    have w0 : IntKind.i64.wrap ((k : Int) + 1 - 1) = (k : Int) := by rw [IntWalk.i64_in] <;> omega
    have w1' : IntKind.i64.wrap (k : Int) = (k : Int) := by rw [IntWalk.i64_in] <;> omega
    have w2' : (k : Int) + 1 - 1 = (k : Int) := by omega
    generalize l[k] = sk at *
    generalize hw1 : W.setCell ⟨ib, 0, none⟩ (.int .i64 ((k : Int) + 1)) = w1 at *
    have hg2t : ∀ {w2 : World}, w1.drew.grownBy w2 (some q) → Boxed w2 ib 3 (.int .i64 ((k : Int) + 1)) ∧ w1.grownBy w2 (some q) := fun h => ⟨(h.block ib hi1.lt (fun e => hqi (Option.some.inj e).symm)).trans hi1, grown_trans (grown_any ((Below.refl _ _).drew) _) h⟩
    have hct := fun (h : RdS q q ⟨b, false⟩ w1.drew) => rtext_any q q ⟨b, false⟩ 9 w1.drew h hb
    have hct := hct (hr1.later ((Below.refl _ _).drew))
    have hdk : decide (k + 1 ≤ l.length) = true := decide_eq_true hkl
    have hfin : ∀ (e : Ending) (w2 : World), RdS q q (RS.bytes ⟨b, false⟩ 9).2 w2 → w1.drew.grownBy w2 (some q) → e = .returned (.bool (decide ((RS.bytes ⟨b, false⟩ 9).1 = sk.data.toList))) → GivesCl q ib k b ⟨kind, tag, num, pb, bo, bcap, l, some ⟨lb, lf, none⟩, lcap⟩ W e w2 := by
      rintro e w2 h1 h2 rfl
      unfold GivesCl
      dsimp only
      rw [hk1, if_pos hkl, hw1, hlg, hdk, Bool.true_and]
      refine ⟨_, _, rfl, h1, (hg2t h2).1, (hg2t h2).2, rfl, rfl⟩
    have Hfin := Lib.hid hfin
    clear hdk hfin
    generalize RS.bytes ⟨b, false⟩ 9 = rb at *
    go_enter Try.func62, Try.ntmps62
    go_wp2_with fail
    try rw [hw1]
    go_region_held3 (fun w' : World => w'.cell? ⟨ib, 0, none⟩ = some (.int .i64 ((k : Int) + 1)) ∧ w'.cell? ⟨xb, 4, none⟩ = some (.slice (some ⟨lb, lf, none⟩) l.length lcap) ∧ w'.cell? ⟨lb, lf + k, none⟩ = some (.string sk)) (first | exact ⟨ci2, cx, cs⟩ | exact ⟨ci3, cx3, cs3⟩) ((refine hct.mono ?_; rintro e w2 ⟨rfl, hr2, hg2⟩; have ci3 := (World.cell?_of_block (a := ⟨ib, 0, none⟩) (hg2.block ib hi1.lt (fun e => hqi (Option.some.inj e).symm))).trans ci2; have cx3 := (World.cell?_of_block (a := ⟨xb, 4, none⟩) (hg2.block xb (Array.getElem?_eq_some_iff.1 hx1).1 (fun e => hxq (Option.some.inj e)))).trans cx; have cs3 := (World.cell?_of_block (a := ⟨lb, lf + k, none⟩) (hg2.block lb (World.block_lt_of_cell? w1 _ cs) (fun e => hlbq (Option.some.inj e)))).trans cs))
    go_wp2
    go_ret
    refine Hfin.out _ _ hr2 hg2 ?_
    show Ending.returned (.bool (rb.1 == sk.toList)) = _
    rw [ByteArray.toList_eq]
    congr 2
    rw [Bool.eq_iff_iff]
    simp
  · have f0 : decide ((k : Int) + 1 ≤ (l.length : Int)) = false := decide_eq_false (by omega)
    go_enter Try.func62, Try.ntmps62
    go_wp2_with fail
    go_quiet (fail)
    go_wp2
    go_ret
    have hbd := below_drewN (Below.refl (W.setCell ⟨ib, 0, none⟩ (.int .i64 ((k : Int) + 1))).heap.size (W.setCell ⟨ib, 0, none⟩ (.int .i64 ((k : Int) + 1)))) nq
    unfold GivesCl
    rw [hk1]
    exact ⟨false, ⟨b, false⟩, rfl, hr1.later hbd, boxed_drew hi1 nq, grown_any hbd _, (if_neg hkl).symm, by rw [decide_eq_false hkl]; rfl⟩
/-- What 'back' answers: g the reader. -/
def GivesB (B g : Nat) (p : Pt) (s : RS) (W : World) (e : Ending) (w' : World) : Prop := ∃ r s', e = .returned (.bool r) ∧ RdS B g s' w' ∧ Below B W w' ∧ Backs p s r s' ∧ s'.l.length ≤ s.l.length

theorem take_le {s : RS} {t : UInt8} : (s.take t).2.l.length ≤ s.l.length := by
  cases h : s.take t with
  | mk x s' =>
    cases x with
    | some x =>
      obtain ⟨_, _, h3, _⟩ := take_some h
      rw [h3]; simp
    | none =>
      unfold RS.take at h
      split at h
      · have := congrArg Prod.snd h; dsimp only at this ⊢; rw [← this]; exact Nat.le_refl _
      · split at h
        · cases h
        · have := congrArg Prod.snd h; dsimp only at this ⊢; rw [← this]; exact Nat.le_refl _

theorem allIt_lt (l : List ByteArray) (hs : ∀ s ∈ l, s.size ≤ 20000) {k : Nat} (hk : k < l.length) : ¬ allIt (itemOf l) k = allIt (itemOf l) l.length := by
  intro h
  obtain ⟨r, hr⟩ := allIt_split (itemOf l) (k := k + 1) (n := l.length) (by omega)
  rw [allIt_succ] at hr
  have h1 := congrArg List.length h
  rw [hr] at h1
  have := (item_len l hs k hk).2.1
  simp only [List.length_append] at h1
  omega

/-- A list taken back: either it is not what was put, or i items were. -/
theorem list5 (B g xb : Nat) (s : RS) (p : Pt) (W : World) (hr : RdS B g s W) (hl : s.l.length ≤ 100000000) (hx : W.heap[xb]? = some (ptObj p)) (hg : ptG p W) (hs : ptSmall p) (hlow : ptLow B p) (ht : 0 < p.tag.toNat)
    (hp : partB p = (val p.tag (allIt (itemOf p.l) p.l.length), true)) (hall : (allIt (itemOf p.l) p.l.length).length ≤ 4194304) (hgx : g < xb) :
    Calls Try.prog 61 #[.pointer (some ⟨g, 0, none⟩), .int .u8 (p.tag.toNat : Int), .func (.func 62) #[] #[.pointer (some ⟨W.heap.size, 0, none⟩), .pointer (some ⟨xb, 0, none⟩)]] (W.alloc (.cells #[.int .i64 0] 3)) fun e w' =>
      (e = .returned (.bool false) ∧ ∃ s', RdS B g s' w' ∧ Below B W w' ∧ Backs p s false s' ∧ s'.l.length ≤ s.l.length) ∨
      (e = .returned (.bool true) ∧ ∃ k s', Boxed w' W.heap.size 3 (.int .i64 ((k : Nat) : Int)) ∧ w'.cell? ⟨xb, 4, none⟩ = some (.slice p.lo p.l.length p.lcap) ∧ RdS B g s' w' ∧ Below B W w' ∧ k ≤ p.l.length ∧
        ((k = p.l.length → Backs p s true s') ∧ (¬ k = p.l.length → Backs p s false s')) ∧ s'.l.length ≤ s.l.length) := by
  have hBg : B ≤ g := by obtain ⟨_, _, h⟩ := hr; exact h.le
  have hxl : xb < W.heap.size := (Array.getElem?_eq_some_iff.1 hx).1
  have hb0 : Below W.heap.size W (W.alloc (.cells #[.int .i64 0] 3)) := (Below.refl _ W).alloc (Nat.le_refl _) _
  have hbox := Boxed.new W 3 (.int .i64 0)
  generalize hW0 : W.alloc (.cells #[.int .i64 0] 3) = W0 at *
  have hsz : W.heap.size < W0.heap.size := hbox.lt
  obtain ⟨x0, hx0⟩ : ∃ x0, (s.take p.tag).1.getD [] = x0 := ⟨_, rfl⟩
  have htl := take_le (s := s) (t := p.tag)
  refine (rlist_any B g s p.tag 62 #[.pointer (some ⟨W.heap.size, 0, none⟩), .pointer (some ⟨xb, 0, none⟩)] W0 (hr.later hb0) hl (enters_of Try.func62 (by kernel_rfl) rfl)
    (fun q rest b wr => ∃ k, k ≤ p.l.length ∧ x0 = allIt (itemOf p.l) k ++ b ∧ Boxed wr W.heap.size 3 (.int .i64 ((k : Nat) : Int)) ∧ wr.heap[xb]? = some (ptObj p) ∧ RdS B g ⟨rest, false⟩ wr ∧ RdS q q ⟨b, false⟩ wr ∧ Below B W wr ∧ g ≠ q ∧ B ≤ q ∧ b.length ≤ 100000000)
    (fun rest wr => RdS B g ⟨rest, false⟩ wr ∧ Below B W wr ∧ ¬ x0 = allIt (itemOf p.l) p.l.length) (fun _ _ h => h.1) (fun q rest b wr h => by obtain ⟨_, _, _, _, _, _, h, _⟩ := h; exact h) ?init ?step).mono ?post
  case init =>
    intro x rest ao cap w1 htk hgr hrg hrd hty
    have hb1 : Below w1.heap.size w1 (w1.alloc (.cells #[.slice ao x.length cap, .bool false, .bool true] 99)) := (Below.refl _ _).alloc (Nat.le_refl _) _
    have hgs := hgr.size
    refine ⟨0, Nat.zero_le _, ?_, ?_, ?_, hrg.later hb1, ⟨ao, cap, ?_, Nat.le_refl _, hrd.later hb1, hty.later hb1⟩, ?_, by omega, by omega, ?_⟩
    · rw [← hx0, htk]; rfl
    · exact (hb1.block _ (by omega)).trans ((hgr.block _ hsz (fun e => by have := Option.some.inj e; omega)).trans hbox)
    · exact (hb1.block _ (by omega)).trans ((hgr.block _ (by omega) (fun e => by have := Option.some.inj e; omega)).trans ((hb0.block _ hxl).trans hx))
    · show (w1.heap.push _)[w1.heap.size]? = some _; simp
    · exact (hb0.mono (by omega)).trans ((below_of_grown hgr hBg (by omega)).trans (hb1.mono (by omega)))
    · obtain ⟨_, _, h3, _, _⟩ := take_some htk
      rw [h3, List.length_append, val_len] at hl
      omega
  case step =>
    rintro q rest b wr hb ⟨k, hk, hxk, hbi, hxw, hrg, hrq, hbw, hgq, hBq, hbl⟩
    have hib : wr.heap[W.heap.size]? = _ := hbi
    have hqi : q ≠ W.heap.size := by
      rintro rfl
      obtain ⟨_, _, h⟩ := hrq
      have := h.at_
      rw [hib] at this; cases this
    refine (cl_any q W.heap.size xb k b p wr hbi hxw (hg.below hlow hbw) hs hrq hk hbl).mono ?_
    rintro e w' ⟨r, s', rfl, hr', hbi', hgr, hs', hrr⟩
    have hg0 := grown_set wr W.heap.size 0 (.int .i64 ((k + 1 : Nat) : Int))
    have hq0 : (wr.setCell ⟨W.heap.size, 0, none⟩ (.int .i64 ((k + 1 : Nat) : Int))).heap[q]? = wr.heap[q]? := Below.heap_setCell _ _ _ _ hqi
    have hqo : ∃ o, wr.heap[q]? = some o ∧ ∀ c fr, o ≠ .cells c 5 fr := by
      obtain ⟨_, _, h⟩ := hrq
      exact ⟨_, h.at_, fun _ _ h => by cases h⟩
    obtain ⟨o, ho, hno⟩ := hqo
    have hrg' : RdS B g ⟨rest, false⟩ w' := RdS.grown (RdS.grown hrg hg0 hib (fun _ _ h => by cases h) (by omega)) hgr (hq0.trans ho) hno hgq
    have hql : q < wr.heap.size := (Array.getElem?_eq_some_iff.1 ho).1
    have hbw' : Below B W w' := (hbw.setCell (p := ⟨W.heap.size, 0, none⟩) (by dsimp only; omega) _).trans (below_of_grown hgr hBq (by simpa using hql))
    have hxb' : w'.heap[xb]? = some (ptObj p) := by
      have hxq : xb ≠ q := by rintro rfl; rw [hxw] at ho; cases Option.some.inj ho; obtain ⟨_, _, h⟩ := hrq; have := h.at_; rw [hxw] at this; cases this
      exact (hgr.block xb (by simpa using (Array.getElem?_eq_some_iff.1 hxw).1) (fun e => hxq (Option.some.inj e))).trans ((Below.heap_setCell wr ⟨W.heap.size, 0, none⟩ _ xb (by dsimp only; omega)).trans hxw)
    have hle : s'.l.length ≤ b.length := by
      rw [hs']
      split
      · exact take_le (s := ⟨b, false⟩) (t := 9)
      · exact Nat.le_refl _
    refine ⟨r, s', rfl, hr', hle, fun hbad => ⟨hrg', hbw', fun heq => hbad ?_⟩, fun h1 h2 h3 => ?_⟩
    · rw [hxk] at heq
      obtain ⟨hlt, r1, hr1⟩ := allIt_next _ hk heq hb
      obtain ⟨_, _, hsz1⟩ := item_len p.l hs.2.2 k hlt
      have htv := take_val 9 (p.l[k]?.getD ByteArray.empty).data.toList r1 (by decide) (by omega)
      have hbv : b = val 9 (p.l[k]?.getD ByteArray.empty).data.toList ++ r1 := hr1
      rw [← hbv] at htv
      have hby : RS.bytes ⟨b, false⟩ 9 = ((p.l[k]?.getD ByteArray.empty).data.toList, ⟨r1, false⟩) := by unfold RS.bytes; rw [htv]; rfl
      rw [hby] at hs' hrr
      rw [if_pos (by omega)] at hs'
      subst hs'
      refine ⟨by rw [hrr, decide_eq_true (show k + 1 ≤ p.l.length by omega)]; simp, rfl, ?_⟩
      dsimp only
      rw [hbv, List.length_append, val_len]; omega
    · rw [h1] at hrr
      have hrr' := hrr.symm
      rw [Bool.and_eq_true, decide_eq_true_eq, decide_eq_true_eq] at hrr'
      obtain ⟨hk1, hbe⟩ := hrr'
      rw [if_pos hk1] at hs'
      have hbl' : s'.l.length ≤ 100000000 := by omega
      cases htk : RS.take ⟨b, false⟩ 9 with
      | mk ox s1 =>
        have hb2 : RS.bytes ⟨b, false⟩ 9 = (ox.getD [], s1) := by unfold RS.bytes; rw [htk]
        rw [hb2] at hs' hbe
        dsimp only at hs' hbe
        subst hs'
        cases ox with
        | none => rw [take_none htk] at h2; cases h2
        | some y =>
          obtain ⟨_, hs1, h5, _, _⟩ := take_some htk
          dsimp only at h5
          have hy : y = (p.l[k]?.getD ByteArray.empty).data.toList := hbe
          obtain ⟨l1, bad1⟩ := s'
          dsimp only at hs1 h5 hbl' ⊢
          subst hs1
          refine ⟨k + 1, hk1, ?_, hbi', hxb', hrg', hr', hbw', hgq, hBq, hbl'⟩
          rw [allIt_succ, hxk, h5, hy, List.append_assoc]
          rfl
  case post =>
    rintro e w' (⟨hn, rfl, hr', hgr⟩ | ⟨x, rest, htk, (⟨rfl, q, k, hk, hxk, hbi, hxw, hrg, hrq, hbw, hgq, hBq, _⟩ | ⟨rfl, w2, ⟨hrg, hbw, hne⟩, rfl⟩)⟩)
    · refine .inl ⟨rfl, _, hr', (hb0.mono (by omega)).trans (below_of_grown hgr hBg (by omega)), ?_, htl⟩
      refine backs_val p s _ _ _ ht hall hp (fun rest h => ?_) (fun h _ => by cases h)
      rw [h] at hn; cases hn
    · rw [htk] at htl hx0
      have hx1 : x = x0 := hx0
      rw [List.append_nil] at hxk
      refine .inr ⟨rfl, k, ⟨rest, false⟩, hbi, by simp [World.cell?, hxw, ptObj], hrg, hbw, hk, ⟨fun hkl => ?_, fun hkl => ?_⟩, htl⟩
      · subst hkl
        refine backs_val p s _ _ _ ht hall hp (fun rest' h => ?_) (fun _ _ => ⟨rest, by rw [htk, hx1, hxk], rfl⟩)
        rw [htk] at h
        exact ⟨rfl, (Prod.mk.inj h).2⟩
      · refine backs_val p s _ _ _ ht hall hp (fun rest' h => ?_) (fun h _ => by cases h)
        exfalso
        rw [htk] at h
        have h1 := Option.some.inj (Prod.mk.inj h).1
        exact allIt_lt p.l hs.2.2 (k := k) (by omega) (by rw [← hxk, ← hx1, h1])
    · rw [htk] at htl hx0
      have hx1 : x = x0 := hx0
      obtain ⟨ao, cap, hra⟩ := hrg
      refine .inl ⟨rfl, ⟨rest, true⟩, ⟨ao, cap, hra.fail⟩, hbw.setCell (p := ⟨g, 1, none⟩) hBg _, ?_, htl⟩
      refine backs_val p s _ _ _ ht hall hp (fun rest' h => ?_) (fun h _ => by cases h)
      exfalso
      rw [htk] at h
      have h1 := Option.some.inj (Prod.mk.inj h).1
      exact hne (by rw [← hx1, h1])

set_option maxRecDepth 100000 in
set_option maxHeartbeats 8000000 in
theorem back_any (B g : Nat) (s : RS) (p : Pt) (W : World) (hr : RdS B g s W) (hl : s.l.length ≤ 100000000) (hg : ptG p W) (hs : ptSmall p) (hlow : ptLow B p) (hok : (partB p).2 = true) :
    Calls Try.prog 38 #[.pointer (some ⟨g, 0, none⟩), .agg #[.int .i64 p.kind, .int .u8 (p.tag.toNat : Int), .int .u64 (p.num : Int), .slice p.bo p.b.length p.bcap, .slice p.lo p.l.length p.lcap]] W (GivesB B g p s W) := by
  have hB : B ≤ W.heap.size := by
    obtain ⟨_, _, h⟩ := hr
    have := h.le; have := h.lt; omega
  have hbx : Below W.heap.size W (W.alloc (ptObj p)) := (Below.refl _ W).alloc (Nat.le_refl _) _
  have hxx : (W.alloc (ptObj p)).heap[W.heap.size]? = some (ptObj p) := by show (W.heap.push _)[W.heap.size]? = some _; simp
  have hrx := hr.later hbx
  have hgx := hg.later hbx
  by_cases hout : p.kind < 1 ∨ 6 < p.kind
  · have hbk := backs_out p s hout
    have hfin : GivesB B g p s W (.returned (.bool true)) (W.alloc (ptObj p)) := ⟨true, s, rfl, hrx, hbx.mono hB, hbk, Nat.le_refl _⟩
    obtain ⟨kind, tag, num, b, bo, bcap, l, lo, lcap⟩ := p
    dsimp only [ptObj] at *
    have n1 : (kind == 1) = false := by simp; omega
    have n2 : (kind == 2) = false := by simp; omega
    have n3 : (kind == 3) = false := by simp; omega
    have n4 : (kind == 4) = false := by simp; omega
    have n5 : (kind == 5) = false := by simp; omega
    clear hout hbk
    go_enter Try.func38, Try.ntmps38
    go_wp2_with fail
    go_ret
    exact hfin
  have ht : 0 < p.tag.toNat ∧ ¬ p.kind = 6 := by
    by_cases h : p.tag.toNat = 0 ∨ p.kind = 6
    · have hp : partB p = ([], false) := by unfold partB; rw [if_neg hout, if_pos h]
      rw [hp] at hok; cases hok
    · omega
  have hc : p.kind = 1 ∨ p.kind = 2 ∨ p.kind = 3 ∨ p.kind = 4 ∨ p.kind = 5 := by omega
  obtain ⟨kind, tag, num, b, bo, bcap, l, lo, lcap⟩ := p
  dsimp only [ptObj] at *
  obtain ⟨ht, -⟩ := ht
  obtain ⟨g1, g2, g3, g4⟩ := hgx
  obtain ⟨s1, s2, s3⟩ := hs
  dsimp only at g1 g2 g3 g4 s1 s2 s3
  have hxc : (W.alloc (.cells #[.int .i64 kind, .int .u8 (tag.toNat : Int), .int .u64 (num : Int), .slice bo b.length bcap, .slice lo l.length lcap] 62)).heap[W.heap.size]? = _ := hxx
  generalize hwx : W.alloc (.cells #[.int .i64 kind, .int .u8 (tag.toNat : Int), .int .u64 (num : Int), .slice bo b.length bcap, .slice lo l.length lcap] 62) = wx at *
  have c0 : wx.cell? ⟨W.heap.size, 0, none⟩ = some (.int .i64 kind) := by simp [World.cell?, hxx]
  have c1 : wx.cell? ⟨W.heap.size, 1, none⟩ = some (.int .u8 (tag.toNat : Int)) := by simp [World.cell?, hxx]
  have c2 : wx.cell? ⟨W.heap.size, 2, none⟩ = some (.int .u64 (num : Int)) := by simp [World.cell?, hxx]
  have c3 : wx.cell? ⟨W.heap.size, 3, none⟩ = some (.slice bo b.length bcap) := by simp [World.cell?, hxx]
  have hlt : W.heap.size < wx.heap.size := (Array.getElem?_eq_some_iff.1 hxx).1
  have hgl : g < W.heap.size := by obtain ⟨_, _, h⟩ := hr; exact h.lt
  have hne : W.heap.size ≠ g := by omega
  have hBg : B ≤ g := by obtain ⟨_, _, h⟩ := hr; exact h.le
  have hrd : RdS B g s wx.drew := hrx.later ((Below.refl _ _).drew)
  have hout2 : ∀ w2 : World, wx.drew.grownBy w2 (some g) → Below B W w2 := fun w2 h => (hbx.mono hB).trans (below_of_grown (grown_trans (grown_any ((Below.refl _ _).drew) _) h) hBg (by omega))
  obtain ⟨low1, low2⟩ := hlow
  dsimp only at low1 low2
  have hrb : ∀ w2 : World, wx.drew.grownBy w2 (some g) → Rd w2 1 bo b.length bcap (byV b) := fun w2 h => rd_grown g1 (grown_trans (grown_any ((Below.refl _ _).drew) _) h) (fun h0 a ha e => by have h1 := low1 h0 a ha; have h2 := Option.some.inj e; omega)
  have hs0 := run_strD bo b.length bcap b wx.drew (g1.later ((Below.refl _ _).drew))
  rcases hc with rfl | rfl | rfl | rfl | rfl
  · have hpp : partB ⟨1, tag, num, b, bo, bcap, l, lo, lcap⟩ = (val tag b, true) := by unfold partB; rw [if_neg hout, if_neg (by rintro (h | h); (exact absurd h (by dsimp only; omega)); cases h), if_neg (by simp), if_neg (by simp), if_neg (by simp)]
    have htg : Calls Try.prog 56 #[.pointer (some ⟨g, 0, none⟩)] wx.drew fun e w' => e = .returned (.int .u8 (s.tag.toNat : Int)) ∧ Below wx.heap.size wx w' := (rtag_any B g s wx.drew hrd hl).mono fun e w' h => ⟨h.1, ((Below.refl _ _).drew).trans h.2⟩
    have hrb2 : ∀ wt w2 : World, Below wx.heap.size wx wt → wt.grownBy w2 (some g) → Rd w2 1 bo b.length bcap (byV b) := fun wt w2 h h' => rd_grown (g1.later h) h' (fun h0 a ha e => by have h1 := low1 h0 a ha; have h2 := Option.some.inj e; omega)
    by_cases hst : s.tag = tag
    · have hbk := backs_bytes ⟨1, tag, num, b, bo, bcap, l, lo, lcap⟩ s ht hpp (by dsimp only; omega)
      have hle := take_le (s := s) (t := tag)
      rw [hst] at htg
      have hfin : ∀ (e : Ending) (wt w2 : World), RdS B g (s.bytes tag).2 w2 → Below wx.heap.size wx wt → wt.grownBy w2 (some g) → e = .returned (.bool (decide ((s.bytes tag).1 = b))) → GivesB B g ⟨1, tag, num, b, bo, bcap, l, lo, lcap⟩ s W e w2 := by
        rintro e wt w2 h1 h2 h3 rfl
        exact ⟨_, _, rfl, h1, (hbx.mono hB).trans (below_of_grown (grown_trans (grown_any h2 _) h3) hBg (by omega)), hbk, hle⟩
      have Hfin := Lib.hid hfin
      have heq : ((s.bytes tag).1 == b) = decide ((s.bytes tag).1 = b) := by rw [Bool.eq_iff_iff]; simp
      have Heq := Lib.hid heq
      clear heq hfin hbk hle hpp hst
      go_enter Try.func38, Try.ntmps38
      go_wp2_with fail
      try rw [hwx]
      have hmo : Try.prog.follows .mixedOrders = true := by kernel_rfl
      refine wp_region_held (S := (fun w' : World => w'.cell? ⟨W.heap.size, 1, none⟩ = some (.int .u8 (tag.toNat : Int)) ∧ w'.cell? ⟨W.heap.size, 3, none⟩ = some (.slice bo b.length bcap) ∧ (convert 22 9 (.slice bo b.length bcap)).run Try.prog w' = .ok (.string ⟨b.toArray⟩) w')) hmo ?_
      change wpAnyH _ _ _ _ _ _ _ _ (World.drew _)
      refine wpAnyH_take (i := 0) (v := .pointer (some ⟨g, 0, none⟩)) rfl (by kernel_rfl) (by kernel_rfl) (by kernel_rfl) (fun _ _ _ h => h) (Or.inl ⟨by kernel_rfl, by rintro w ⟨h1, h2, h3⟩; go_simp⟩) ⟨c1, c3, hs0⟩ ?_
      go_simp
      refine wpAnyH_take (i := 2) (v := .pointer (some ⟨W.heap.size, 1, none⟩)) rfl (by kernel_rfl) (by kernel_rfl) (by kernel_rfl) (fun _ _ _ h => h) (Or.inl ⟨by kernel_rfl, by rintro w ⟨h1, h2, h3⟩; go_simp⟩) ⟨c1, c3, hs0⟩ ?_
      go_simp
      refine wpAnyH_take (i := 3) (v := .int .u8 (tag.toNat : Int)) rfl (by kernel_rfl) (by kernel_rfl) (by kernel_rfl) (fun _ _ _ h => h) (Or.inl ⟨by kernel_rfl, by rintro w ⟨h1, h2, h3⟩; go_simp⟩) ⟨c1, c3, hs0⟩ ?_
      go_simp
      refine wpAnyH_all (rs := [1]) (by kernel_rfl) (by simp) (fun j hj => ?_)
      rw [List.mem_singleton] at hj
      subst hj
      refine wpOp_step rfl (fun K hK => ?_)
      go_simp
      refine htg.mono ?_
      rintro e wt ⟨rfl, hbt⟩
      have c1m := (hbt.cell (p := ⟨W.heap.size, 1, none⟩) hlt).trans c1
      have c3m := (hbt.cell (p := ⟨W.heap.size, 3, none⟩) hlt).trans c3
      have hsm := run_strD bo b.length bcap b wt (g1.later hbt)
      have hrt := hrx.later hbt
      go_simp
      refine hK _ _ ⟨⟨c1m, c3m, hsm⟩, ?_⟩
      clear hK K
      refine wpAnyH_take (i := 4) (v := .bool true) rfl (by kernel_rfl) (by kernel_rfl) (by kernel_rfl) (fun _ _ _ h => h) (Or.inl ⟨by kernel_rfl, by rintro w ⟨h1, h2, h3⟩; go_simp⟩) ⟨c1m, c3m, hsm⟩ ?_
      go_simp
      refine wpAnyH_take (i := 5) (v := .bool true) rfl (by kernel_rfl) (by kernel_rfl) (by kernel_rfl) (fun _ _ _ h => h) (Or.inl ⟨by kernel_rfl, by rintro w ⟨h1, h2, h3⟩; kernel_rfl⟩) ⟨c1m, c3m, hsm⟩ ?_
      go_simp
      refine wpAnyH_take (i := 6) (v := .pointer (some ⟨g, 0, none⟩)) rfl (by kernel_rfl) (by kernel_rfl) (by kernel_rfl) (fun _ _ _ h => h) (Or.inl ⟨by kernel_rfl, by rintro w ⟨h1, h2, h3⟩; kernel_rfl⟩) ⟨c1m, c3m, hsm⟩ ?_
      go_simp
      refine wpAnyH_take (i := 7) (v := .pointer (some ⟨W.heap.size, 1, none⟩)) rfl (by kernel_rfl) (by kernel_rfl) (by kernel_rfl) (fun _ _ _ h => h) (Or.inl ⟨by kernel_rfl, by rintro w ⟨h1, h2, h3⟩; kernel_rfl⟩) ⟨c1m, c3m, hsm⟩ ?_
      go_simp
      refine wpAnyH_take (i := 8) (v := .int .u8 (tag.toNat : Int)) rfl (by kernel_rfl) (by kernel_rfl) (by kernel_rfl) (fun _ _ _ h => h) (Or.inl ⟨by kernel_rfl, by rintro w ⟨h1, h2, h3⟩; go_simp⟩) ⟨c1m, c3m, hsm⟩ ?_
      go_simp
      refine wpAnyH_take (i := 11) (v := .pointer (some ⟨W.heap.size, 3, none⟩)) rfl (by kernel_rfl) (by kernel_rfl) (by kernel_rfl) (fun _ _ _ h => h) (Or.inl ⟨by kernel_rfl, by rintro w ⟨h1, h2, h3⟩; kernel_rfl⟩) ⟨c1m, c3m, hsm⟩ ?_
      go_simp
      refine wpAnyH_take (i := 12) (v := .slice bo b.length bcap) rfl (by kernel_rfl) (by kernel_rfl) (by kernel_rfl) (fun _ _ _ h => h) (Or.inl ⟨by kernel_rfl, by rintro w ⟨h1, h2, h3⟩; go_simp⟩) ⟨c1m, c3m, hsm⟩ ?_
      go_simp
      refine wpAnyH_take (i := 13) (v := .string ⟨b.toArray⟩) rfl (by kernel_rfl) (by kernel_rfl) (by kernel_rfl) (fun _ _ _ h => h) (Or.inl ⟨by kernel_rfl, by rintro w ⟨h1, h2, h3⟩; go_simp⟩) ⟨c1m, c3m, hsm⟩ ?_
      go_simp
      refine wpAnyH_all (rs := [9]) (by kernel_rfl) (by simp) (fun j hj => ?_)
      rw [List.mem_singleton] at hj
      subst hj
      refine wpOp_step rfl (fun K hK => ?_)
      go_simp
      refine (rbytes_any B g s tag wt hrt hl).mono ?_
      rintro e w2 ⟨ao2, cap2, rfl, hd2, hr2, hg2⟩
      have c1n := (World.cell?_of_block (a := ⟨W.heap.size, 1, none⟩) (hg2.block W.heap.size (Nat.lt_of_lt_of_le hlt hbt.size) (fun e => hne (Option.some.inj e)))).trans c1m
      have c3n := (World.cell?_of_block (a := ⟨W.heap.size, 3, none⟩) (hg2.block W.heap.size (Nat.lt_of_lt_of_le hlt hbt.size) (fun e => hne (Option.some.inj e)))).trans c3m
      have hsn := run_strD bo b.length bcap b w2 (hrb2 wt w2 hbt hg2)
      have hs2 := run_strD ao2 _ cap2 _ w2 hd2
      go_simp
      refine hK _ _ ⟨⟨c1n, c3n, hsn⟩, ?_⟩
      clear hK K
      refine wpAnyH_all (rs := [10]) (by kernel_rfl) (by simp) (fun j hj => ?_)
      rw [List.mem_singleton] at hj
      subst hj
      refine wpOp_step rfl (fun K hK => ?_)
      go_simp
      refine hK _ _ ⟨⟨c1n, c3n, hsn⟩, ?_⟩
      clear hK K
      refine wpAnyH_take (i := 14) (v := .bool ((s.bytes tag).1 == b)) rfl (by kernel_rfl) (by kernel_rfl) (by kernel_rfl) (fun _ _ _ h => h) (Or.inl ⟨by kernel_rfl, by rintro w ⟨h1, h2, h3⟩; go_simp⟩) ⟨c1n, c3n, hsn⟩ ?_
      go_simp
      refine wpAnyH_take (i := 15) (v := .bool ((s.bytes tag).1 == b)) rfl (by kernel_rfl) (by kernel_rfl) (by kernel_rfl) (fun _ _ _ h => h) (Or.inl ⟨by kernel_rfl, by rintro w ⟨h1, h2, h3⟩; kernel_rfl⟩) ⟨c1n, c3n, hsn⟩ ?_
      go_simp
      refine wpAnyH_take (i := 16) (v := .bool ((s.bytes tag).1 == b)) rfl (by kernel_rfl) (by kernel_rfl) (by kernel_rfl) (fun _ _ _ h => h) (Or.inl ⟨by kernel_rfl, by rintro w ⟨h1, h2, h3⟩; kernel_rfl⟩) ⟨c1n, c3n, hsn⟩ ?_
      go_simp
      refine wpAnyH_done (by kernel_rfl) ?_ _
      go_wp2
      go_ret
      refine Hfin.out _ _ _ hr2 hbt hg2 ?_
      show Ending.returned (.bool ((s.bytes tag).1 == b)) = _
      rw [Heq.out]
    · have hbk := tag_val ⟨1, tag, num, b, bo, bcap, l, lo, lcap⟩ s ht hpp (by dsimp only; omega) hst
      have f0 : ((s.tag.toNat : Int) == (tag.toNat : Int)) = false := by simp; exact fun h => hst (UInt8.toNat_inj.1 (by omega))
      have hbin : ∀ w : World, Sem.run Try.prog (binOp BinOp.eql 5 (.int .u8 (s.tag.toNat : Int)) (.int .u8 (tag.toNat : Int))) w = .ok (.bool false) w := by
        intro w
        rw [← f0]
        rfl
      have hfin : ∀ (e : Ending) (wt : World), Below wx.heap.size wx wt → e = .returned (.bool false) → GivesB B g ⟨1, tag, num, b, bo, bcap, l, lo, lcap⟩ s W e wt := by
        rintro e wt h2 rfl
        exact ⟨_, _, rfl, hrx.later h2, (hbx.mono hB).trans (h2.mono (Nat.le_trans hB hbx.size)), hbk, Nat.le_refl _⟩
      have Hfin := Lib.hid hfin
      clear hfin hbk hpp hst
      go_enter Try.func38, Try.ntmps38
      go_wp2_with fail
      try rw [hwx]
      have hmo : Try.prog.follows .mixedOrders = true := by kernel_rfl
      refine wp_region_held (S := (fun w' : World => w'.cell? ⟨W.heap.size, 1, none⟩ = some (.int .u8 (tag.toNat : Int)))) hmo ?_
      change wpAnyH _ _ _ _ _ _ _ _ (World.drew _)
      refine wpAnyH_take (i := 0) (v := .pointer (some ⟨g, 0, none⟩)) rfl (by kernel_rfl) (by kernel_rfl) (by kernel_rfl) (fun _ _ _ h => h) (Or.inl ⟨by kernel_rfl, by rintro w h; go_simp⟩) c1 ?_
      go_simp
      refine wpAnyH_take (i := 2) (v := .pointer (some ⟨W.heap.size, 1, none⟩)) rfl (by kernel_rfl) (by kernel_rfl) (by kernel_rfl) (fun _ _ _ h => h) (Or.inl ⟨by kernel_rfl, by rintro w h; go_simp⟩) c1 ?_
      go_simp
      refine wpAnyH_take (i := 3) (v := .int .u8 (tag.toNat : Int)) rfl (by kernel_rfl) (by kernel_rfl) (by kernel_rfl) (fun _ _ _ h => h) (Or.inl ⟨by kernel_rfl, by rintro w h; go_simp⟩) c1 ?_
      go_simp
      refine wpAnyH_all (rs := [1]) (by kernel_rfl) (by simp) (fun j hj => ?_)
      rw [List.mem_singleton] at hj
      subst hj
      refine wpOp_step rfl (fun K hK => ?_)
      go_simp
      refine htg.mono ?_
      rintro e wt ⟨rfl, hbt⟩
      have c1m := (hbt.cell (p := ⟨W.heap.size, 1, none⟩) hlt).trans c1
      go_simp
      refine hK _ _ ⟨c1m, ?_⟩
      clear hK K
      refine wpAnyH_take (i := 4) (v := .bool false) rfl (by kernel_rfl) (by kernel_rfl) (by kernel_rfl) (fun _ _ _ h => h) (Or.inl ⟨by kernel_rfl, by rintro w h; go_simp⟩) c1m ?_
      go_simp
      refine wpAnyH_take (i := 5) (v := .bool false) rfl (by kernel_rfl) (by kernel_rfl) (by kernel_rfl) (fun _ _ _ h => h) (Or.inl ⟨by kernel_rfl, by rintro w h; kernel_rfl⟩) c1m ?_
      go_simp
      refine wpAnyH_take (i := 6) (v := undef) rfl (by kernel_rfl) (by kernel_rfl) (by kernel_rfl) (fun _ _ _ h => h) (Or.inr ⟨by kernel_rfl, rfl⟩) c1m ?_
      go_simp
      refine wpAnyH_take (i := 7) (v := undef) rfl (by kernel_rfl) (by kernel_rfl) (by kernel_rfl) (fun _ _ _ h => h) (Or.inr ⟨by kernel_rfl, rfl⟩) c1m ?_
      go_simp
      refine wpAnyH_take (i := 8) (v := undef) rfl (by kernel_rfl) (by kernel_rfl) (by kernel_rfl) (fun _ _ _ h => h) (Or.inr ⟨by kernel_rfl, rfl⟩) c1m ?_
      go_simp
      refine wpAnyH_take (i := 9) (v := undef) rfl (by kernel_rfl) (by kernel_rfl) (by kernel_rfl) (fun _ _ _ h => h) (Or.inr ⟨by kernel_rfl, rfl⟩) c1m ?_
      go_simp
      refine wpAnyH_take (i := 10) (v := undef) rfl (by kernel_rfl) (by kernel_rfl) (by kernel_rfl) (fun _ _ _ h => h) (Or.inr ⟨by kernel_rfl, rfl⟩) c1m ?_
      go_simp
      refine wpAnyH_take (i := 11) (v := undef) rfl (by kernel_rfl) (by kernel_rfl) (by kernel_rfl) (fun _ _ _ h => h) (Or.inr ⟨by kernel_rfl, rfl⟩) c1m ?_
      go_simp
      refine wpAnyH_take (i := 12) (v := undef) rfl (by kernel_rfl) (by kernel_rfl) (by kernel_rfl) (fun _ _ _ h => h) (Or.inr ⟨by kernel_rfl, rfl⟩) c1m ?_
      go_simp
      refine wpAnyH_take (i := 13) (v := undef) rfl (by kernel_rfl) (by kernel_rfl) (by kernel_rfl) (fun _ _ _ h => h) (Or.inr ⟨by kernel_rfl, rfl⟩) c1m ?_
      go_simp
      refine wpAnyH_take (i := 14) (v := undef) rfl (by kernel_rfl) (by kernel_rfl) (by kernel_rfl) (fun _ _ _ h => h) (Or.inr ⟨by kernel_rfl, rfl⟩) c1m ?_
      go_simp
      refine wpAnyH_take (i := 15) (v := .bool false) rfl (by kernel_rfl) (by kernel_rfl) (by kernel_rfl) (fun _ _ _ h => h) (Or.inl ⟨by kernel_rfl, by rintro w h; kernel_rfl⟩) c1m ?_
      go_simp
      refine wpAnyH_take (i := 16) (v := .bool false) rfl (by kernel_rfl) (by kernel_rfl) (by kernel_rfl) (fun _ _ _ h => h) (Or.inl ⟨by kernel_rfl, by rintro w h; kernel_rfl⟩) c1m ?_
      go_simp
      refine wpAnyH_done (by kernel_rfl) ?_ _
      go_wp2
      go_ret
      exact Hfin.out _ _ hbt rfl
  · have hbk := backs_bytes ⟨2, tag, num, b, bo, bcap, l, lo, lcap⟩ s ht (by unfold partB; rw [if_neg hout, if_neg (by rintro (h | h); (exact absurd h (by dsimp only; omega)); cases h), if_neg (by simp), if_neg (by simp), if_neg (by simp)]) (by dsimp only; omega)
    have hle := take_le (s := s) (t := tag)
    have hct := rtext_any B g s tag wx.drew hrd hl
    have hfin : ∀ (e : Ending) (w2 : World), RdS B g (s.bytes tag).2 w2 → wx.drew.grownBy w2 (some g) → e = .returned (.bool (decide ((s.bytes tag).1 = b))) → GivesB B g ⟨2, tag, num, b, bo, bcap, l, lo, lcap⟩ s W e w2 := by
      rintro e w2 h1 h2 rfl
      exact ⟨_, _, rfl, h1, hout2 _ h2, hbk, hle⟩
    have Hfin := Lib.hid hfin
    clear hfin hbk hle
    generalize s.bytes tag = rb at *
    go_enter Try.func38, Try.ntmps38
    go_wp2_with fail
    try rw [hwx]
    go_region_held3 (fun w' : World => w'.cell? ⟨W.heap.size, 1, none⟩ = some (.int .u8 (tag.toNat : Int)) ∧ w'.cell? ⟨W.heap.size, 3, none⟩ = some (.slice bo b.length bcap) ∧ (convert 22 9 (.slice bo b.length bcap)).run Try.prog w' = .ok (.string ⟨b.toArray⟩) w') (first | exact ⟨c1, c3, hs0⟩ | exact ⟨c1n, c3n, hsn⟩) ((refine hct.mono ?_; rintro e w2 ⟨rfl, hr2, hg2⟩; have c1n := (World.cell?_of_block (a := ⟨W.heap.size, 1, none⟩) (hg2.block W.heap.size hlt (fun e => hne (Option.some.inj e)))).trans c1; have c3n := (World.cell?_of_block (a := ⟨W.heap.size, 3, none⟩) (hg2.block W.heap.size hlt (fun e => hne (Option.some.inj e)))).trans c3; have hsn := run_strD bo b.length bcap b w2 (hrb w2 hg2)))
    go_wp2
    go_ret
    refine Hfin.out _ _ hr2 hg2 ?_
    show Ending.returned (.bool (rb.1 == b)) = _
    congr 2
    rw [Bool.eq_iff_iff]
    simp
  · have hbk := backs_num ⟨3, tag, num, b, bo, bcap, l, lo, lcap⟩ s ht (by unfold partB; rw [if_neg hout, if_neg (by rintro (h | h); (exact absurd h (by dsimp only; omega)); cases h), if_pos rfl]) g3
    have hle := num_le (take_le (s := s) (t := tag))
    have hct := rnum_any B g s tag wx.drew hrd hl
    have hfin : ∀ (e : Ending) (w2 : World), RdS B g (s.num tag).2 w2 → wx.drew.grownBy w2 (some g) → e = .returned (.bool (decide ((s.num tag).1 = num))) → GivesB B g ⟨3, tag, num, b, bo, bcap, l, lo, lcap⟩ s W e w2 := by
      rintro e w2 h1 h2 rfl
      exact ⟨_, _, rfl, h1, hout2 _ h2, hbk, hle⟩
    have Hfin := Lib.hid hfin
    clear hfin hbk hle
    generalize s.num tag = rb at *
    obtain ⟨rn, rs⟩ := rb
    dsimp only at hct Hfin
    clear g3 hg
    have heq : ((rn : Int) == (num : Int)) = decide (rn = num) := by rw [Bool.eq_iff_iff]; simp; omega
    have Heq := Lib.hid heq
    clear heq
    go_enter Try.func38, Try.ntmps38
    go_wp2_with fail
    try rw [hwx]
    go_region_law (first | (go_simp; go_at_call 59; refine hct.mono ?_; rintro e w2 ⟨rfl, hr2, hg2⟩; have c1n := (World.cell?_of_block (a := ⟨W.heap.size, 1, none⟩) (hg2.block W.heap.size hlt (fun e => hne (Option.some.inj e)))).trans c1; have c2n := (World.cell?_of_block (a := ⟨W.heap.size, 2, none⟩) (hg2.block W.heap.size hlt (fun e => hne (Option.some.inj e)))).trans c2))
    all_goals go_wp2
    all_goals go_ret
    all_goals refine Hfin.out _ _ hr2 hg2 ?_
    all_goals show Ending.returned (.bool ((rn : Int) == (num : Int))) = _
    all_goals rw [Heq.out]
  · have hbk := backs_flag ⟨4, tag, num, b, bo, bcap, l, lo, lcap⟩ s ht (by unfold partB; rw [if_neg hout, if_neg (by rintro (h | h); (exact absurd h (by dsimp only; omega)); cases h), if_neg (by simp), if_pos rfl])
    have hle := flag_le (take_le (s := s) (t := tag))
    have hct := rflag2_any B g s tag wx.drew hrd hl
    have hfin : ∀ (e : Ending) (w2 : World), RdS B g (s.flag tag).2 w2 → wx.drew.grownBy w2 (some g) → e = .returned (.bool (decide ((s.flag tag).1 = oddOf num))) → GivesB B g ⟨4, tag, num, b, bo, bcap, l, lo, lcap⟩ s W e w2 := by
      rintro e w2 h1 h2 rfl
      exact ⟨_, _, rfl, h1, hout2 _ h2, hbk, hle⟩
    have Hfin := Lib.hid hfin
    clear hfin hbk hle
    generalize s.flag tag = rb at *
    obtain ⟨rn, rs⟩ := rb
    dsimp only at hct Hfin
    clear g3 hg
    have hodd : ((num : Int) % 2 == 1) = oddOf num := by unfold oddOf; rw [Bool.eq_iff_iff]; simp; omega
    have Hodd := Lib.hid hodd
    clear hodd
    have heq : (rn == oddOf num) = decide (rn = oddOf num) := by cases rn <;> cases oddOf num <;> rfl
    have Heq := Lib.hid heq
    clear heq
    go_enter Try.func38, Try.ntmps38
    go_wp2_with fail
    try rw [hwx]
    go_region_law (first | (go_simp; go_at_call 60; refine hct.mono ?_; rintro e w2 ⟨rfl, hr2, hg2⟩; have c1n := (World.cell?_of_block (a := ⟨W.heap.size, 1, none⟩) (hg2.block W.heap.size hlt (fun e => hne (Option.some.inj e)))).trans c1; have c2n := (World.cell?_of_block (a := ⟨W.heap.size, 2, none⟩) (hg2.block W.heap.size hlt (fun e => hne (Option.some.inj e)))).trans c2))
    all_goals go_wp2
    all_goals go_ret
    all_goals refine Hfin.out _ _ hr2 hg2 ?_
    all_goals show Ending.returned (.bool (rn == ((num : Int) % 2 == 1))) = _
    all_goals rw [Hodd.out, Heq.out]
  · have hpp : partB ⟨5, tag, num, b, bo, bcap, l, lo, lcap⟩ = (val tag (allIt (itemOf l) l.length), true) := by unfold partB; rw [if_neg hout, if_neg (by rintro (h | h); (exact absurd h (by dsimp only; omega)); cases h), if_neg (by simp), if_neg (by simp), if_pos rfl]
    have hall : (allIt (itemOf l) l.length).length ≤ 4194304 := by have := items_len l s3 l.length (Nat.le_refl _); omega
    have hli := list5 B g W.heap.size s ⟨5, tag, num, b, bo, bcap, l, lo, lcap⟩ wx hrx hl hxx ⟨g1, g2, g3, g4⟩ ⟨s1, s2, s3⟩ ⟨low1, low2⟩ ht hpp hall hgl
    have hfin : ∀ (e : Ending) (r : Bool) (s' : RS) (w' : World), e = .returned (.bool r) → RdS B g s' w' → Below B wx w' → Backs ⟨5, tag, num, b, bo, bcap, l, lo, lcap⟩ s r s' → s'.l.length ≤ s.l.length → GivesB B g ⟨5, tag, num, b, bo, bcap, l, lo, lcap⟩ s W e w' := by
      rintro e r s' w' rfl h1 h2 h3 h4
      exact ⟨r, s', rfl, h1, (hbx.mono hB).trans h2, h3, h4⟩
    have Hfin := Lib.hid hfin
    clear hfin hpp hall
    go_enter Try.func38, Try.ntmps38
    go_wp2_with fail
    try rw [hwx]
    refine hli.mono ?_
    rintro e w' (⟨rfl, s', h1, h2, h3, h4⟩ | ⟨rfl, k, s', hci, hcx, h1, h2, hk, h3, h4⟩)
    · go_wp2
      go_ret
      exact Hfin.out _ _ _ _ rfl h1 h2 h3 h4
    · have hb := hci.cell
      by_cases hkl : k = l.length
      · have f5 : ((k : Int) == (l.length : Int)) = true := by simp [hkl]
        have h5 := h3.1 hkl
        clear hkl h3
        go_wp2
        go_ret
        exact Hfin.out _ _ _ _ rfl h1 h2 h5 h4
      · have f5 : ((k : Int) == (l.length : Int)) = false := by simp; omega
        have h5 := h3.2 hkl
        clear hkl h3
        go_wp2
        go_ret
        exact Hfin.out _ _ _ _ rfl h1 h2 h5 h4
end Go.Proofs.Ytpkabinmnkadeaa.Tlv
