/-
  The walk of the statement's own 'once' (it goes over a text's runes), and of UtfTexts.
-/
import Derived.Test.YtpkabinmnkadeaaUv
import Derived.Test.YtpkabinmnkadeaaUh
namespace Go.Proofs.Ytpkabinmnkadeaa.Utf
open Go.RowKit Go.Shelf Go.Proofs.Ytpkabinmnkadeaa.Mem
attribute [local go_sem] Oper.semAt_some

theorem isPairs_pre {rs : List Int} {k : Nat} {pre : List PR} {x : PR} (h : IsPairs rs k (pre ++ [x])) : IsPairs rs pre.length pre ∧ x.1 = (pl rs pre.length, rs[pre.length]?.getD 0) ∧ k = pre.length + 1 := by
  obtain ⟨h1, h2⟩ := h
  rw [List.length_append, List.length_singleton] at h1
  refine ⟨⟨rfl, fun j hj => ?_⟩, ?_, h1.symm⟩
  · obtain ⟨y, hy, hy2⟩ := h2 j (by omega)
    rw [List.getElem?_append_left hj] at hy
    exact ⟨y, hy, hy2⟩
  · obtain ⟨y, hy, hy2⟩ := h2 pre.length (by omega)
    rw [List.getElem?_append_right (Nat.le_refl _)] at hy
    simp at hy; rw [hy]; exact hy2

theorem _root_.Go.Boxed.below {W W' : World} {B : Nat} {t : TypeId} {v : Value} (h : Boxed W B t v) (hb : Below W.heap.size W W') : Boxed W' B t v := (hb.block B h.lt).trans h

theorem results_once {tmps : Array Value} {w : World} {a : Addr} {b : Bool} (hp : tmps.getD 6 undef = .pointer (some a)) (hc : w.cell? a = some (.bool b)) : (results Try.f30 tmps).run Try.prog w = .ok (.bool b) w := by
  have hr : Try.f30.results = #[.cell 6 4] := rfl
  simp only [results, hr]
  have hp' : tmps[6]?.getD undef = .pointer (some a) := by simpa using hp
  simp [hp', asAddr]
  go_simp
theorem keepsOthers_below {W W' : World} (h : Below W.heap.size W W') : KeepsOthers W W' := ⟨h.size, fun k _ hk _ => (h.block k (Array.getElem?_eq_some_iff.1 hk).1).trans hk⟩

/-- The boxes of 'once' behind a number of rounds: w its first world. -/
structure OnceAt (w : World) (s : ByteArray) (want : Value) (most : Int) (rs : List Int) (pre : List PR) (W : World) : Prop where
  bw : Boxed W w.heap.size 39 want
  bm : Boxed W (w.heap.size + 1) 3 (.int .i64 most)
  br : Boxed W (w.heap.size + 1 + 1) 4 (.bool false)
  bs : Boxed W (w.heap.size + 1 + 1 + 1) 9 (.string s)
  bi : Boxed W (w.heap.size + 1 + 1 + 1 + 1) 3 (.int .i64 (pre.length : Int))
  ba : Boxed W (w.heap.size + 1 + 1 + 1 + 1 + 1) 3 (.int .i64 ((pl rs pre.length : Nat) : Int))
  ps : IsPairs rs pre.length pre
  le : pre.length ≤ rs.length
  ne : ∀ j : Nat, 1 ≤ j → j ≤ pre.length → most ≠ (j : Int)
  bel : Below w.heap.size w W
/-- .. and where a round has left. -/
def OnceEnd (w : World) (rs : List Int) (pre : List PR) (W : World) : Prop :=
  (∃ b, Boxed W (w.heap.size + 1 + 1) 4 (.bool b) ∧ (b = true ∨ ¬ IsPairs rs pre.length pre)) ∧ Below w.heap.size w W
theorem onceAt_own (w : World) (s : ByteArray) (want : Value) (most : Int) (rs : List Int) (B : Nat) (hB : w.heap.size ≤ B) : OwnFrom B (OnceAt w s want most rs) := by
  intro pre X Y row h hg hr
  have hr2 : ∀ r, row = some r → ∃ o : Obj, X.heap[r]? = some o ∧ o.isCells = false := fun r e => (hr r e).2
  have hb : ∀ (b : Nat) (t : TypeId) (v : Value), Boxed X b t v → Boxed Y b t v := fun b t v hx => boxed_own b t (fun _ : Unit => v) () X Y row hx hg hr2
  exact ⟨hb _ _ _ h.bw, hb _ _ _ h.bm, hb _ _ _ h.br, hb _ _ _ h.bs, hb _ _ _ h.bi, hb _ _ _ h.ba, h.ps, h.le, h.ne, h.bel.grown hg h.bel.size (fun k e => by have := (hr k e).1; omega)⟩
theorem onceEnd_own (w : World) (rs : List Int) (B : Nat) (hB : w.heap.size ≤ B) : OwnFrom B (OnceEnd w rs) := by
  intro pre X Y row h hg hr
  obtain ⟨⟨b, hb, hc⟩, hbel⟩ := h
  exact ⟨⟨b, boxed_own _ _ (fun _ : Unit => Value.bool b) () X Y row hb hg (fun r e => (hr r e).2), hc⟩, hbel.grown hg hbel.size (fun k e => by have := (hr k e).1; omega)⟩

set_option maxRecDepth 100000 in
set_option maxHeartbeats 2000000 in
theorem once_any (s : ByteArray) (ao : Option Addr) (n cap : Nat) (most : Int) (w : World) (hs : s.size ≤ 1000000) (hrd : Rd w 1 ao n cap (ruV (runes s.data.toList))) :
    Calls Try.prog 30 #[.string s, .slice ao n cap, .int .i64 most] w (GivesTrue w) := by
  have hN := runes_len s.data.toList
  rw [len_data] at hN
  have hl : (runes s.data.toList).length = n := by have := hrd.1; rw [ruV_len] at this; omega
  have hmay := Lib.hid (runes_may s.data.toList)
  have hwl := wh_le s.data.toList
  rw [len_data] at hwl
  unfold wh at hwl
  have hpl := Lib.hid (fun k => pl_le (runes s.data.toList) k)
  have hps := Lib.hid (fun k => pl_succ (runes s.data.toList) k)
  refine (callsIn_wide (n := 9)).1 ?_
  refine callsIn_of_wp_marks Try.func30 rfl trivial ?_ rfl
  simp only [Try.ntmps30, List.size_toArray, List.length_cons, List.length_nil, Nat.reduceAdd, Nat.reduceSub, Array.replicate_succ, Array.replicate_zero, List.push_toArray, List.append_toArray, List.nil_append, List.cons_append]
  have hfn : ∀ (a : Addr) (W : World), Sem.run Try.prog (binOp BinOp.eql 88 (.func (.func 66) #[] #[.pointer (some a)]) .nilFunc) W = .ok (.bool false) W := fun _ _ => by kernel_rfl
  gi_wp2_with (refine ⟨trivial, ?_⟩; gi_at_call 46; refine (callsIn_wide.2 (runesF_any _ _)).mono ?_; rintro e w' ⟨rfl, rfl⟩)
  clear hfn
  generalize hrs : runes s.data.toList = rs at *
  have Hrs := Lib.hid hrs
  clear hrs
  have hA : OnceAt w s (.slice ao n cap) most rs [] ((((((w.alloc (Obj.cells #[.slice ao n cap] 39)).alloc (Obj.cells #[.int IntKind.i64 most] 3)).alloc (Obj.cells #[.bool false] 4)).alloc (Obj.cells #[.string s] 9)).alloc (Obj.cells #[.int .i64 0] 3)).alloc (Obj.cells #[.int .i64 0] 3)) := by
    have b0 := Boxed.new w 39 (.slice ao n cap)
    have b1 := Boxed.new (w.alloc (Obj.cells #[.slice ao n cap] 39)) 3 (.int IntKind.i64 most)
    have b2 := Boxed.new ((w.alloc (Obj.cells #[.slice ao n cap] 39)).alloc (Obj.cells #[.int IntKind.i64 most] 3)) 4 (.bool false)
    have b3 := Boxed.new (((w.alloc (Obj.cells #[.slice ao n cap] 39)).alloc (Obj.cells #[.int IntKind.i64 most] 3)).alloc (Obj.cells #[.bool false] 4)) 9 (.string s)
    have b4 := Boxed.new ((((w.alloc (Obj.cells #[.slice ao n cap] 39)).alloc (Obj.cells #[.int IntKind.i64 most] 3)).alloc (Obj.cells #[.bool false] 4)).alloc (Obj.cells #[.string s] 9)) 3 (.int .i64 0)
    have b5 := Boxed.new (((((w.alloc (Obj.cells #[.slice ao n cap] 39)).alloc (Obj.cells #[.int IntKind.i64 most] 3)).alloc (Obj.cells #[.bool false] 4)).alloc (Obj.cells #[.string s] 9)).alloc (Obj.cells #[.int .i64 0] 3)) 3 (.int .i64 0)
    simp only [World.size_alloc] at b1 b2 b3 b4 b5
    exact ⟨((((b0.alloc _).alloc _).alloc _).alloc _).alloc _, (((b1.alloc _).alloc _).alloc _).alloc _, ((b2.alloc _).alloc _).alloc _, (b3.alloc _).alloc _, b4.alloc _, b5, ⟨rfl, fun j hj => (by simp at hj)⟩, Nat.zero_le _, fun j h1 h2 => absurd (Nat.le_trans h1 h2) (by simp),
      ((((((Below.refl _ w).alloc (Nat.le_refl _) _).alloc (by simp <;> omega) _).alloc (by simp <;> omega) _).alloc (by simp <;> omega) _).alloc (by simp <;> omega) _).alloc (by simp <;> omega) _⟩
  rw [← Hrs.out] at hA
  refine wpIn_rangeFunc_ownF (F := Fence.wide) (n := 9) rfl (by omega) (gf := 66) (lb := #[.pointer (some ⟨w.heap.size + 1 + 1 + 1, 0, none⟩)]) rfl trivial (enters_of Try.func66 (by kernel_rfl) rfl)
    (runes_stops 8 (by omega) (w.heap.size + 1 + 1 + 1) s (by omega) _ hA.bs.cell) keepsB_t (keepsB_b (by simp <;> omega)) (Below.refl _ _) (fun _ => rfl)
    (OnceAt w s (.slice ao n cap) most (runes s.data.toList)) (fun c pre W => c = .ret ∧ OnceEnd w (runes s.data.toList) pre W) (onceAt_own w s _ most _ _ (by simp <;> omega)) ?hIx hA ?a1 ?assign ?body ?done ?stop
  case hIx => exact fun c => OwnFrom.and (ownFrom_pure _ _) (onceEnd_own w _ _ (by simp <;> omega))
  case assign =>
    intro l x W K hK
    simp only [prV]
    gi_wp2
    exact hK
  case body =>
    rintro l pre x W hI hlen
    rw [Hrs.out] at hI hlen ⊢
    obtain ⟨bw, bm, br, bs, bi, ba, ips, ile, ine, ibel⟩ := hI
    obtain ⟨k, hk⟩ : ∃ k, pre.length = k := ⟨_, rfl⟩
    rw [hk] at hlen bi ba ips ile ine
    have Hk := Lib.hid hk
    clear hk
    have cw := bw.cell
    have cm := bm.cell
    have ci := bi.cell
    have ca := ba.cell
    have cr := br.cell
    have gi := bi.frozen
    have ga := ba.frozen
    have gr := br.frozen
    obtain ⟨b1, o1, e1, hlt1, hc1⟩ := hrd.some (by have := hrd.le; omega)
    subst e1
    have c1 := (ibel.cell (p := ⟨b1, o1 + k, none⟩) hlt1).trans (hc1 k _ (ruV_at rs k (by omega)))
    have i0 : (0 : Int) ≤ (k : Int) := by omega
    have i1 : (k : Int) < (n : Int) := by omega
    have f0 : decide (n ≤ k) = false := by simp; omega
    have hx1 := x.2.1
    have hx2 := Lib.hid x.2.2
    have hpp := hpl.out k
    generalize hpk : pl rs k = p at *
    have Hpk := Lib.hid hpk
    clear hpk
    generalize hrk : rs[k]?.getD 0 = r at *
    have Hrk := Lib.hid hrk
    clear hrk
    by_cases hxr : x.1.2 = r
    · by_cases hxp : x.1.1 = p
      · by_cases hm : most = ((k + 1 : Nat) : Int)
        · have f3 : ((k : Int) + 1 == most) = true := by simp [hm]
          have Hm := Lib.hid hm
          clear hm
          have f1 : (x.1.2 != r) = false := by simp [hxr]
          have f2 : ((x.1.1 : Int) != (p : Int)) = false := by simp [hxp]
          have hxx : x.1 = (pl rs pre.length, rs[pre.length]?.getD 0) := by rw [Hk.out, Hpk.out, Hrk.out, ← hxp, ← hxr]
          have hsn : IsPairs rs (pre ++ [x]).length (pre ++ [x]) := by
            have := isPairs_snoc ips (by rw [hxx, Hk.out] : x.1 = (pl rs k, rs[k]?.getD 0))
            rwa [List.length_append, List.length_singleton, Hk.out]
          have hln : (pre ++ [x]).length = k + 1 := by simp [Hk.out]
          have hpn := hps.out k hlen
          rw [Hpk.out, Hrk.out, ← hxr] at hpn
          have Hpn := Lib.hid hpn
          have Hsn := Lib.hid hsn
          have Hln := Lib.hid hln
          have hle := enc_le x.1.2
          have hwr : IntKind.i64.wrap ((p : Int) + ((enc x.1.2).length : Int)) = (p : Int) + ((enc x.1.2).length : Int) := by
            have := hpl.out (k + 1)
            rw [hpn] at this
            clear hsn hxx hpn
            go_bits
            trivial
          clear hxr hxp hxx hpn hsn hln
          gi_wp2_with fail
          have hmo : Try.prog.follows .mixedOrders = true := by kernel_rfl
          gi_region_with_o (refine ⟨trivial, ?_⟩; gi_at_call 20; refine (CallsIn.inRound l (callsIn_wide.2 (rput_any _ _ hx2.out))).mono ?_; rintro e w' ⟨ao2, cap2, rfl, hrd2, hb2⟩; have ba2 := (Boxed.below (W := W.drew) ba hb2); have ca2 := ba2.cell; have ga2 := ba2.frozen)
          all_goals (have bi2 := (Boxed.below (W := W.drew) bi hb2); have bm2 := (Boxed.below (W := W.drew) bm hb2); have br2 := (Boxed.below (W := W.drew) br hb2); have ci2 := bi2.cell; have gi2 := bi2.frozen; have cm2 := bm2.cell; have cr2 := br2.cell; have gr2 := br2.frozen)
          all_goals gi_wp2
          all_goals (
            have kb2 := (KeepsOthers.drew W).trans (keepsOthers_below (W := W.drew) hb2)
            have hb3 : Below w.heap.size w w' := ibel.drew.trans (Below.mono hb2 ibel.size)
            refine ⟨((kb2.trans (KeepsOthers.setCell _ _ _)).trans (KeepsOthers.setCell _ _ _)).trans (KeepsOthers.setCell _ _ _), rfl, ⟨true, ((br2.other (by simp) _).other (by simp) _).set _, .inl rfl⟩, ?_⟩
            exact ((hb3.setCell (p := ⟨w.heap.size + 1 + 1 + 1 + 1 + 1, 0, none⟩) (by dsimp only; omega) _).setCell (p := ⟨w.heap.size + 1 + 1 + 1 + 1, 0, none⟩) (by dsimp only; omega) _).setCell (p := ⟨w.heap.size + 1 + 1, 0, none⟩) (by dsimp only; omega) _)
        · have f3 : ((k : Int) + 1 == most) = false := by simp; omega
          have Hm := Lib.hid hm
          clear hm
          have f1 : (x.1.2 != r) = false := by simp [hxr]
          have f2 : ((x.1.1 : Int) != (p : Int)) = false := by simp [hxp]
          have hxx : x.1 = (pl rs pre.length, rs[pre.length]?.getD 0) := by rw [Hk.out, Hpk.out, Hrk.out, ← hxp, ← hxr]
          have hsn : IsPairs rs (pre ++ [x]).length (pre ++ [x]) := by
            have := isPairs_snoc ips (by rw [hxx, Hk.out] : x.1 = (pl rs k, rs[k]?.getD 0))
            rwa [List.length_append, List.length_singleton, Hk.out]
          have hln : (pre ++ [x]).length = k + 1 := by simp [Hk.out]
          have hpn := hps.out k hlen
          rw [Hpk.out, Hrk.out, ← hxr] at hpn
          have Hpn := Lib.hid hpn
          have Hsn := Lib.hid hsn
          have Hln := Lib.hid hln
          have hle := enc_le x.1.2
          have hwr : IntKind.i64.wrap ((p : Int) + ((enc x.1.2).length : Int)) = (p : Int) + ((enc x.1.2).length : Int) := by
            have := hpl.out (k + 1)
            rw [hpn] at this
            clear hsn hxx hpn
            go_bits
            trivial
          clear hxr hxp hxx hpn hsn hln
          gi_wp2_with fail
          have hmo : Try.prog.follows .mixedOrders = true := by kernel_rfl
          gi_region_with_o (refine ⟨trivial, ?_⟩; gi_at_call 20; refine (CallsIn.inRound l (callsIn_wide.2 (rput_any _ _ hx2.out))).mono ?_; rintro e w' ⟨ao2, cap2, rfl, hrd2, hb2⟩; have ba2 := (Boxed.below (W := W.drew) ba hb2); have ca2 := ba2.cell; have ga2 := ba2.frozen)
          all_goals (have bi2 := (Boxed.below (W := W.drew) bi hb2); have bm2 := (Boxed.below (W := W.drew) bm hb2); have br2 := (Boxed.below (W := W.drew) br hb2); have ci2 := bi2.cell; have gi2 := bi2.frozen; have cm2 := bm2.cell; have cr2 := br2.cell; have gr2 := br2.frozen)
          all_goals gi_wp2
          all_goals (
            have kb2 := (KeepsOthers.drew W).trans (keepsOthers_below (W := W.drew) hb2)
            have hb3 : Below w.heap.size w w' := ibel.drew.trans (Below.mono hb2 ibel.size)
            have bs2 := Boxed.below (W := W.drew) bs hb2
            have bw2 := Boxed.below (W := W.drew) bw hb2
            refine ⟨((kb2.trans (KeepsOthers.setCell _ _ _)).trans (KeepsOthers.setCell _ _ _)), ?_, ?_⟩
            · have k1 : KeepsB (w.heap.size + 1 + 1 + 1) W w' := keepsB_below (W := W.drew) hb2 bs.lt
              exact keepsB_t (keepsB_t k1 (keepsB_set w' ⟨w.heap.size + 1 + 1 + 1 + 1 + 1, 0, none⟩ _ (by simp))) (keepsB_set _ ⟨w.heap.size + 1 + 1 + 1 + 1, 0, none⟩ _ (by simp))
            have hI2 : OnceAt w s (.slice (some ⟨b1, o1, none⟩) n cap) most rs (pre ++ [x]) ((w'.setCell ⟨w.heap.size + 1 + 1 + 1 + 1 + 1, 0, none⟩ (.int .i64 ((p : Int) + ((enc x.1.2).length : Int)))).setCell ⟨w.heap.size + 1 + 1 + 1 + 1, 0, none⟩ (.int .i64 ((k : Int) + 1))) := by
              refine ⟨(bw2.other (by omega) _).other (by omega) _, (bm2.other (by simp) _).other (by simp) _, (br2.other (by simp) _).other (by simp) _, (bs2.other (by simp) _).other (by simp) _, ?_, ?_, Hsn.out, ?_, ?_, ?_⟩
              · rw [Hln.out]; exact (bi2.other (by simp) _).set _
              · rw [Hln.out, Hpn.out]; exact (ba2.set _).other (by simp) _
              · rw [Hln.out]; omega
              · rw [Hln.out]
                intro j h1 h2
                by_cases hj : j ≤ k
                · exact ine j h1 hj
                · obtain rfl : j = k + 1 := by omega
                  exact Hm.out
              · exact (hb3.setCell (p := ⟨w.heap.size + 1 + 1 + 1 + 1 + 1, 0, none⟩) (by dsimp only; omega) _).setCell (p := ⟨w.heap.size + 1 + 1 + 1 + 1, 0, none⟩) (by dsimp only; omega) _
            exact hI2)
      · have f1 : (x.1.2 != r) = false := by simp [hxr]
        have f2 : ((x.1.1 : Int) != (p : Int)) = true := by simp; omega
        have hno : ¬ IsPairs rs (pre ++ [x]).length (pre ++ [x]) := fun h => hxp (by have := (isPairs_pre h).2.1; rw [this, Hk.out, Hpk.out])
        have Hno := Lib.hid hno
        clear hxr hxp hno
        gi_wp2
        exact ⟨KeepsOthers.setCell _ _ _, rfl, ⟨false, br.set _, .inr Hno.out⟩, ibel.setCell (p := ⟨w.heap.size + 1 + 1, 0, none⟩) (by show w.heap.size ≤ w.heap.size + 1 + 1; omega) _⟩
    · have f1 : (x.1.2 != r) = true := by simp [hxr]
      have hno : ¬ IsPairs rs (pre ++ [x]).length (pre ++ [x]) := fun h => hxr (by have := (isPairs_pre h).2.1; rw [this, Hk.out, Hrk.out])
      have Hno := Lib.hid hno
      clear hxr hno
      gi_wp2
      exact ⟨KeepsOthers.setCell _ _ _, rfl, ⟨false, br.set _, .inr Hno.out⟩, ibel.setCell (p := ⟨w.heap.size + 1 + 1, 0, none⟩) (by show w.heap.size ≤ w.heap.size + 1 + 1; omega) _⟩
  case done =>
    rintro D xs W hD hS hI hK
    rw [Hrs.out] at hI hS
    obtain ⟨bw, bm, br, bs, bi, ba, ips, ile, ine, ibel⟩ := hI
    have cw := bw.cell
    have ci := bi.cell
    have cr := br.cell
    have gr := br.frozen
    have hlx : xs.length = n := hS.1.trans hl
    have f0 : ((xs.length : Int) == (n : Int)) = true := by simp [hlx]
    have Hlx := Lib.hid hlx
    clear hlx
    gi_wp2
    have hK2 : (W.setCell ⟨w.heap.size + 1 + 1, 0, none⟩ (.bool true)).heap[D]? = some (.deferred (some [])) := (Below.heap_setCell W ⟨w.heap.size + 1 + 1, 0, none⟩ _ D (by simp at hD; dsimp only; omega)).trans hK
    refine ⟨by simp, .inl ⟨_, _, rfl, run_takeDeferred hK2, ?_⟩⟩
    refine ⟨_, results_once (a := ⟨w.heap.size + 1 + 1, 0, none⟩) (by rfl) (cell_kept (br.set (.bool true)).cell (grownBy_putObj' _ D _) (fun r e => by cases e; exact ⟨_, hK2, rfl⟩)), rfl, ?_⟩
    exact (ibel.setCell (p := ⟨w.heap.size + 1 + 1, 0, none⟩) (by dsimp only; omega) _).trans (belowK_b (w := w) (Nat.le_refl _) _ D _ _ (by simp at hD; omega) hK2 rfl rfl)
  case stop =>
    rintro D c pre W hD hS ⟨rfl, hI⟩ hK
    rw [Hrs.out] at hI hS
    obtain ⟨⟨b, br, hb⟩, ibel⟩ := hI
    gi_wp2
    have hbt : b = true := by
      rcases hb with h | h
      · exact h
      · obtain ⟨k, h1, h2, h3⟩ := hS
        exact absurd (h3.1 ▸ h3) h
    subst hbt
    refine ⟨by simp, .inl ⟨_, _, rfl, run_takeDeferred hK, ?_⟩⟩
    refine ⟨_, results_once (a := ⟨w.heap.size + 1 + 1, 0, none⟩) (by rfl) (cell_kept br.cell (grownBy_putObj' _ D _) (fun r e => by cases e; exact ⟨_, hK, rfl⟩)), rfl, ?_⟩
    exact ibel.trans (belowK_b (w := w) (Nat.le_refl _) _ D _ _ (by simp at hD; omega) hK rfl rfl)
end Go.Proofs.Ytpkabinmnkadeaa.Utf
