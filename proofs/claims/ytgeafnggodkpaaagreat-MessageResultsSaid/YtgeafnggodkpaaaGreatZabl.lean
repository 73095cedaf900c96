/-
  A part of the proof: what this text holds is told at each of its declarations.
-/
import Derived.Test.YtgeafnggodkpaaaGreatZabh
import Derived.Test.YtgeafnggodkpaaaGreatZabk
namespace Go.Proofs.YtgeafnggodkpaaaGreat.Msg
open Go.RowKit Go.Lib Go.Proofs.YtgeafnggodkpaaaGreat.Mem Go.Proofs.YtgeafnggodkpaaaGreat.Tlv

theorem sliceT_ent : SliceT Tryz.prog 56 119 zeroE.val 2 40 := ⟨Tryz.underlying56, by kernel_rfl, rfl, by decide⟩
theorem kpr_set {W : World} {b i : Nat} {cs : Array Value} {t : TypeId} {fr : Nat × Nat} {x : Value} (h : W.heap[b]? = some (.cells cs t fr)) (ht : ∀ t' : TypeId, (t' = 5 ∨ t' = 9 ∨ t' = 53) → t ≠ t') : KeepR W (W.setCell ⟨b, i, none⟩ x) := by
  refine ⟨Nat.le_of_eq (World.size_setCell _ _ _).symm, fun k c t' fr' ht' hk => ?_⟩
  have hne : k ≠ b := fun e => by
    subst e
    rw [h] at hk
    cases hk
    exact ht _ ht' rfl
  exact at_other hk hne
def QV.ents (v : QV) (a : Option Addr) (n k : Nat) : QV := ⟨v.code, v.yes, a, n, k, v.co, v.cn, v.cc⟩
/-- Entries whose attributes lie in rows of attributes. -/
def EnTy (W : World) (l : List EP) : Prop := ∀ p ∈ l, EAt W p.1 p.2 ∧ TyX 53 W p.1.ao p.1.ac
theorem EnTy.kpr {W W' : World} {l : List EP} (h : EnTy W l) (hk : KeepR W W') : EnTy W' l := fun p hp => ⟨⟨rd_kpr (.inr (.inr rfl)) (h p hp).1.a (h p hp).2 hk, (h p hp).1.la⟩, (h p hp).2.kpr (.inr (.inr rfl)) hk⟩
theorem EnTy.snoc {W : World} {l : List EP} {p : EP} (h : EnTy W l) (h1 : EAt W p.1 p.2) (h2 : TyX 53 W p.1.ao p.1.ac) : EnTy W (l ++ [p]) := by
  intro q hq
  rcases List.mem_append.1 hq with hq | hq
  · exact h q hq
  · rw [List.mem_singleton] at hq; subst hq; exact ⟨h1, h2⟩
/-- Entries were read into a result's box. -/
structure StE (ob : Nat) (v : QV) (q : Nat) (l : List EP) (W : World) : Prop where
  ex : ∃ a k, W.heap[ob]? = some (v.ents a l.length k).box ∧ W.ownsRow q 119 2 (.slice a l.length k) l.length (enV l)
  ty : EnTy W l
def elE (p : EP) : List UInt8 := val 1 (entL p.1 p.2)
def mayE (p : EP) : Prop := mayEntry p.1 p.2 = true
theorem elE_pos (p : EP) : 0 < (elE p).length := by unfold elE; rw [val_len]; omega
theorem elE_inj (z z' : EP) (r r' : List UInt8) (h : mayE z) (h' : mayE z') (e : elE z ++ r = elE z' ++ r') : r = r' := by
  have l1 := entL_len h
  have l2 := entL_len h'
  exact (val_inj (by decide) (by omega) (by omega) e).2
theorem enV_snoc (l : List EP) (p : EP) : enV (l ++ [p]) = enV l ++ [.string p.1.name, .slice p.1.ao p.1.an p.1.ac] := by simp [enV, EV.cells]
theorem ent_ans {w w' : World} {y : List UInt8} {e : Ending} (h : GivesEo (.int .i64 0) (.int .i64 4) y w e w') : ∃ (f : Int) (Y : EV) (x : List (ByteArray × ByteArray)), e = .returned (.tuple #[Y.val, .int .i64 f]) ∧ EAt w' Y x ∧ TyX 53 w' Y.ao Y.ac ∧ Below w.heap.size w w' ∧ ((f = 0 ∧ mayEntry Y x = true ∧ entL Y x = y) ∨ (f = 4 ∧ NoEnt y)) := by
  obtain ⟨hb, ⟨Y, x, rfl, h1, h2, h3, h4⟩ | ⟨rfl, n1⟩⟩ := h
  · exact ⟨0, Y, x, rfl, h1, h2, hb, .inl ⟨rfl, h3, h4⟩⟩
  · exact ⟨4, zeroE, [], rfl, ⟨Rd.nil _ _, Nat.zero_le _⟩, fun h => absurd h (Nat.lt_irrefl 0), hb, .inr ⟨rfl, n1⟩⟩
theorem StE.set {ob g q i : Nat} {v : QV} {l : List EP} {W : World} {cs : Array Value} {x : Value} (h : StE ob v q l W) (hg : W.heap[g]? = some (.cells cs 146)) : StE ob v q l (W.setCell ⟨g, i, none⟩ x) := by
  obtain ⟨⟨a, k, h1, h2⟩, h3⟩ := h
  refine ⟨⟨a, k, at_other h1 (fun e => ?_), own_kept h2 (fun j hj => Below.heap_setCell _ _ _ _ (fun e => ?_))⟩, h3.kpr (kpr_set hg (fun t ht e => by rcases ht with rfl | rfl | rfl <;> exact absurd e (by decide)))⟩
  · rw [e, hg] at h1; cases h1
  · obtain ⟨-, -, cur, h4⟩ := own_blk h2 hj
    have e : j = g := e
    rw [e, hg] at h4
    cases h4

set_option maxRecDepth 100000 in
set_option maxHeartbeats 8000000 in
theorem ro1_any (ob q : Nat) (v : QV) (l : List EP) (b : List UInt8) (wr : World) (hob : ob < q) (hst : StE ob v q l wr) (hr : RdS q q ⟨b, false⟩ wr) (hb : b.length ≤ 4194304) (hl : l.length ≤ 4194304) :
    Calls Tryz.prog 91 #[.pointer (some ⟨q, 0, none⟩), .pointer (some ⟨ob, 0, none⟩)] wr (StepG q [ob] elE mayE 1000 (StE ob v) l b wr) := by
  obtain ⟨⟨a, k, ho, hown⟩, hE⟩ := hst
  have T := took_bytes ⟨b, false⟩ 1 (by decide)
  have hl3 := bytes_le ⟨b, false⟩ 1
  have hby := rbytes2_any q q ⟨b, false⟩ 1 wr hr (by dsimp only; omega)
  generalize RS.bytes ⟨b, false⟩ 1 = y at *
  obtain ⟨y, s'⟩ := y
  dsimp only at T hby hl3
  have hqs : q < wr.heap.size := by obtain ⟨_, _, h⟩ := hr; exact h.lt
  have HT := Lib.hid T
  clear T
  go_enter Tryz.func91, Tryz.ntmps91
  go_wp2_with fail
  refine hby.mono ?_
  rintro e W1 ⟨a1, c1, rfl, hrd1, hty1, hr1, hg1⟩
  have hE1 := hE.kpr (kpr_g hr hg1)
  have ho1 : W1.heap[ob]? = some (v.ents a l.length k).box := (hg1.block _ (by omega) (fun e => by have := Option.some.inj e; omega)).trans ho
  have own1 : W1.ownsRow q 119 2 (.slice a l.length k) l.length (enV l) := own_kept hown (fun k hk => hg1.block k (own_blk hown hk).2.1 (fun e => by obtain ⟨_, _, cur, h3⟩ := own_blk hown hk; obtain ⟨_, _, h⟩ := hr; have h4 := h.at_; rw [← Option.some.inj e, h3] at h4; cases h4))
  have X1 : BelX q [ob] wr W1 := (grown_belX hg1 (M := q) (by omega)).mono (Nat.le_refl _) (fun k hk h => by rw [List.mem_singleton.1 hk] at h; omega)
  clear hby hE ho hown hr
  go_wp2_with fail
  refine (entOf_any y a1 y.length c1 W1 hrd1 (by omega)).mono ?_
  rintro e W2 hO
  obtain ⟨f, Y, xY, rfl, eY, tY, hb2, hans⟩ := ent_ans hO
  have HA := Lib.hid hans
  have hz1 := hg1.size
  clear hO hans hrd1 hty1
  unfold EV.val EV.cells
  go_upto_region 2 with (refine wpList_store_new rfl rfl rfl rfl (by kernel_rfl) rfl (by kernel_rfl) ?_; go_simp)
  generalize hg : W2.alloc _ = W3
  have e3 : W2.alloc Y.box = W3 := hg
  have hb3' : Below W2.heap.size W2 W3 := by rw [← e3]; exact (Below.refl _ _).alloc (Nat.le_refl _) _
  have hb3 := hb2.trans (hb3'.mono hb2.size)
  have q3 : W3.heap[W2.heap.size]? = some Y.box := by rw [← e3]; show (W2.heap.push _)[W2.heap.size]? = some _; exact Array.getElem?_push_size
  have ho3 := (hb3.block _ (by omega)).trans ho1
  have own3 := own_later own1 hb3
  have hr3 := hr1.later hb3
  have hE3 := (hE1.kpr (KeepR.of_below hb3)).snoc (p := (Y, xY)) (eY.later hb3') (tY.kpr (.inr (.inr rfl)) (KeepR.of_below hb3'))
  have X3 : BelX q [ob] wr W3 := X1.trans ((BelX.of_below hb3 [ob]).mono (by omega) (fun _ hk _ => hk))
  have z3 : q ≤ W3.heap.size := Nat.le_trans (Nat.le_of_lt hqs) (Nat.le_trans hz1 hb3.size)
  clear hg e3 hb3' hb3 hb2 ho1 own1 hr1 hE1 eY tY X1 hg1
  generalize W2.heap.size = yb at *
  obtain ⟨c0, c1, c2, c3, c4⟩ := qbox_all ho3
  dsimp only [QV.ents] at c0 c1 c2 c3
  obtain ⟨g0, g1, -⟩ := ebox_all q3
  go_upto_region 3 with (at_builtin; refine wpList_lit _ rfl (.tmp 13) (.tmp 15) 56 rfl q 119 zeroE.val 2 40 sliceT_ent (by decide) (.slice a l.length k) l.length (enV l) rfl own3 1 [.string Y.name, .slice Y.ao Y.an Y.ac] rfl rfl (fun x hx => by simp at hx; rcases hx with rfl | rfl <;> rfl) z3 (by omega) ?_; intro a4 k4 W4 own4 hg4 hb4 _; have ho4 : W4.heap[ob]? = some (v.ents a l.length k).box := (hb4.block _ hob).trans ho3; obtain ⟨d0, d1, d2, d3, d4⟩ := qbox_all ho4; dsimp only [QV.ents] at d0 d1 d2 d3)
  have hba : Below W3.heap.size W3 (W3.alloc (.cells #[.string Y.name, .slice Y.ao Y.an Y.ac] 119)) := (Below.refl _ _).alloc (Nat.le_refl _) _
  have owna := own_later own3 hba
  have hr4 : RdS q q s' W4 := rds_row (hr3.later hba) hg4 owna (by decide) (by decide)
  have hE4 := hE3.kpr ((KeepR.of_below hba).trans (kpr_row hg4 owna (fun t ht e => by rcases ht with rfl | rfl | rfl <;> exact absurd e (by decide))))
  have X4 : BelX q [ob] wr W4 := X3.trans (BelX.of_below hb4 [ob])
  have ho5 : (W4.setCell ⟨ob, 2, none⟩ (.slice a4 (l.length + 1) k4)).heap[ob]? = some (v.ents a4 (l.length + 1) k4).box := (at_set ho4).trans (by kernel_rfl)
  have hr5 : RdS q q s' (W4.setCell ⟨ob, 2, none⟩ (.slice a4 (l.length + 1) k4)) := hr4.grown (grown_set _ _ _ _) ho4 (fun c fr h => by cases h) (by omega)
  have hE5 := hE4.kpr (kpr_set (i := 2) (x := .slice a4 (l.length + 1) k4) ho4 (fun t ht e => by rcases ht with rfl | rfl | rfl <;> exact absurd e (by decide)))
  have X5 : BelX q [ob] wr (W4.setCell ⟨ob, 2, none⟩ (.slice a4 (l.length + 1) k4)) := X4.set _ _ _ (.inl (by simp))
  have own5 : (W4.setCell ⟨ob, 2, none⟩ (.slice a4 (l.length + 1) k4)).ownsRow q 119 2 (.slice a4 (l.length + 1) k4) (l.length + 1) (enV (l ++ [(Y, xY)])) := by
    rw [enV_snoc]
    exact own_kept own4 (fun k hk => Below.heap_setCell _ _ _ _ (by have := (own_blk own4 hk).1; show k ≠ ob; omega))
  clear hba owna hr4 hE4 X4 ho4 hr3 hE3 X3 ho3 own3 own4 hg4 hb4 c0 c1 c2 c3 c4 d0 d1 d2 d3 d4 q3 z3 g0 g1
  generalize W4.setCell _ _ = W5 at *
  obtain ⟨c0, c1, c2, c3, c4⟩ := qbox_all ho5
  dsimp only [QV.ents] at c0 c1 c2 c3
  have hG : Hid (∀ bb : Bool, (bb = true → l.length < 1000 ∧ mayEntry Y xY = true ∧ entL Y xY = y) → (bb = false → NoEnt y ∨ 1000 ≤ l.length) → StepG q [ob] elE mayE 1000 (StE ob v) l b wr (.returned (.bool bb)) W5) := Lib.hid (by
    intro bb h1 h2
    have eln : (l ++ [(Y, xY)]).length = l.length + 1 := by simp
    refine ⟨bb, s', (Y, xY), rfl, hr5, ⟨⟨a4, k4, by rw [eln]; exact ho5, by rw [eln]; exact own5⟩, hE5⟩, X5, HT.out.le, fun hb hs => ?_, fun h => ?_⟩
    · obtain ⟨k1, k2, k3⟩ := h1 hb
      obtain ⟨-, k4, -⟩ := HT.out.yes hs
      refine ⟨k1, ?_, k2⟩
      unfold elE
      dsimp only at k4 ⊢
      rw [k3]; exact k4
    · have hno : s'.bad = true → ∀ z rest, mayE z → b ≠ elE z ++ rest := fun hs z rest hz => by
        rcases HT.out.no hs with h | h
        · cases h
        · exact h (entL z.1 z.2) rest (by have := entL_len hz; omega)
      cases hs : s'.bad with
      | true => exact .inr (hno hs)
      | false =>
        rw [hs] at h
        rcases h with rfl | h
        · rcases h2 rfl with h3 | h3
          · obtain ⟨-, k4, k5⟩ := HT.out.yes hs
            refine .inr (fun z rest hz e => ?_)
            rw [show b = val 1 y ++ s'.l from k4] at e
            exact h3 z.1 z.2 hz (val_inj (by decide) k5 (by have := entL_len hz; omega) e).1.symm
          · exact .inl h3
        · cases h)
  clear ho5 hr5 hE5 X5 own5 HT
  rcases HA.out with ⟨rfl, mY, lY⟩ | ⟨rfl, nY⟩
  · have HM := Lib.hid (And.intro mY lY)
    clear mY lY
    by_cases h8 : l.length < 1000
    · have f0 : decide ((l.length : Int) + 1 ≤ 1000) = true := decide_eq_true (by omega)
      go_wp2_with fail
      go_ret
      exact hG.out true (fun _ => ⟨h8, HM.out.1, HM.out.2⟩) (fun h => by cases h)
    · have f0 : decide ((l.length : Int) + 1 ≤ 1000) = false := decide_eq_false (by omega)
      go_wp2_with fail
      go_ret
      exact hG.out false (fun h => by cases h) (fun _ => .inr (by omega))
  · have HM := Lib.hid nY
    clear nY
    go_wp2_with fail
    go_ret
    exact hG.out false (fun h => by cases h) (fun _ => .inl HM.out)

/-- The entries of a result. -/
theorem elist_any (B g ob : Nat) (s : RS) (t : UInt8) (v : QV) (W : World) (ht : 0 < t.toNat) (hr : RdS B g s W) (hl : s.l.length ≤ 100000000) (ho : W.heap[ob]? = some (v.ents none 0 0).box) (hg : g ≠ ob) :
    Calls Tryz.prog 50 #[.pointer (some ⟨g, 0, none⟩), .int .u8 (t.toNat : Int), .func (.func 91) #[] #[.pointer (some ⟨ob, 0, none⟩)]] W (GivesGl B g t s [ob] elE mayE 1000 (StE ob v) W) := by
  have hls := (Array.getElem?_eq_some_iff.1 ho).1
  refine glist_any B g s t 91 #[.pointer (some ⟨ob, 0, none⟩)] W ht hr hl (enters_of Tryz.func91 (by kernel_rfl) rfl) [ob] (fun k hk => ?_) elE mayE 1000 elE_inj elE_pos (StE ob v) (fun q w1 h => ?_) (fun q l wx cs x _ h1 h2 => h1.set h2) (fun q l b wr hq h1 h2 h3 h4 _ => ro1_any ob q v l b wr (by omega) h1 h2 h3 h4)
  · rw [List.mem_singleton.1 hk]
    exact ⟨fun e => hg e.symm, _, ho, fun c fr h => by cases h⟩
  · exact ⟨⟨none, 0, (h.block _ hls (fun e => hg (Option.some.inj e).symm)).trans ho, World.ownsRow_nil _ _ _ _⟩, fun p hp => by cases hp⟩
end Go.Proofs.YtgeafnggodkpaaaGreat.Msg
