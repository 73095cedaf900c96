/-
  The walk of the statement's own 'once' over values.
-/
import Derived.Test.YtpkabinmnkadeaaVf
import Derived.Test.YtpkabinmnkadeaaVh
import Derived.Test.YtpkabinmnkadeaaUh
import Derived.Shelf.RegionOpen
import Derived.RangeFuncNested
namespace Go.Proofs.Ytpkabinmnkadeaa.Tlv
open Go.RowKit Go.Shelf Go.Proofs.Ytpkabinmnkadeaa.Mem
attribute [local go_sem] Oper.semAt_some

theorem itV_at (xs : List El) (k : Nat) (y : El) (h : xs[k]? = some y) : (itV xs)[k * 2]? = some (.int .u8 (y.it.1.toNat : Int)) ∧ (itV xs)[k * 2 + 1]? = some (.slice y.ao y.it.2.length y.cap) := by
  induction xs generalizing k with
  | nil => simp at h
  | cons z xs ih =>
    cases k with
    | zero =>
      rw [List.getElem?_cons_zero, Option.some.injEq] at h
      subst h
      exact ⟨rfl, rfl⟩
    | succ k =>
      rw [List.getElem?_cons_succ] at h
      obtain ⟨h1, h2⟩ := ih k h
      simp only [itV, List.flatMap_cons, List.cons_append, List.nil_append] at h1 h2 ⊢
      rw [show (k + 1) * 2 = k * 2 + 1 + 1 by omega]
      simp only [List.getElem?_cons_succ]
      exact ⟨h1, h2⟩
theorem run_strD (ao : Option Addr) (n cap : Nat) (l : List UInt8) (w : World) (hr : Rd w 1 ao n cap (byV l)) :
    (convert 22 9 (.slice ao n cap)).run Try.prog w = .ok (.string ⟨l.toArray⟩) w :=
  run_str w 22 9 5 Try.underlying22 (by kernel_rfl) (by kernel_rfl) ao n cap l hr

theorem came_last {pre : List El} {x : El} {rs : List It} {k : Nat} (hk : pre.length = k) (h : came (pre ++ [x]) = rs.take (pre ++ [x]).length) : rs[k]?.getD (0, []) = x.it := by
  have h2 := congrArg (fun l => l[k]?) h
  have h3 : (pre ++ [x]).length = k + 1 := by simp [hk]
  simp only [h3] at h2
  rw [List.getElem?_take_of_lt (Nat.lt_succ_self k)] at h2
  rw [← h2, came, List.getElem?_map, List.getElem?_append_right (by omega)]
  simp [hk]
theorem keepsOthers_b {W W' : World} (h : Below W.heap.size W W') : KeepsOthers W W' := ⟨h.size, fun k _ hk _ => (h.block k (Array.getElem?_eq_some_iff.1 hk).1).trans hk⟩
theorem boxed_drew {W : World} {B : Nat} {t : TypeId} {v : Value} (h : Boxed W B t v) (q : Nat) : Boxed (W.drewN q) B t v := (Below.block (below_drewN (Below.refl _ W) q) B h.lt).trans h

/-- The boxes of 'once' behind a number of rounds: w its first world. -/
structure OnceAt (w : World) (want : Value) (most : Int) (rs : List It) (pre : List El) (W : World) : Prop where
  bw : Boxed W w.heap.size 24 want
  bm : Boxed W (w.heap.size + 1) 3 (.int .i64 most)
  br : Boxed W (w.heap.size + 1 + 1) 4 (.bool false)
  bi : Boxed W (w.heap.size + 1 + 1 + 1 + 1) 3 (.int .i64 (pre.length : Int))
  ps : came pre = rs.take pre.length
  le : pre.length ≤ rs.length
  ne : ∀ j : Nat, 1 ≤ j → j ≤ pre.length → most ≠ (j : Int)
  bel : Below w.heap.size w W
/-- .. and where a round has left. -/
def OnceEnd (w : World) (rs : List It) (pre : List El) (W : World) : Prop :=
  (∃ b, Boxed W (w.heap.size + 1 + 1) 4 (.bool b) ∧ (b = true ∨ ¬ came pre = rs.take pre.length)) ∧ Below w.heap.size w W
theorem onceAt_own (w : World) (want : Value) (most : Int) (rs : List It) (B : Nat) (hB : w.heap.size ≤ B) : OwnFrom B (OnceAt w want most rs) := by
  intro pre X Y row h hg hr
  have hr2 : ∀ r, row = some r → ∃ o : Obj, X.heap[r]? = some o ∧ o.isCells = false := fun r e => (hr r e).2
  have hb : ∀ (b : Nat) (t : TypeId) (v : Value), Boxed X b t v → Boxed Y b t v := fun b t v hx => boxed_own b t (fun _ : Unit => v) () X Y row hx hg hr2
  exact ⟨hb _ _ _ h.bw, hb _ _ _ h.bm, hb _ _ _ h.br, hb _ _ _ h.bi, h.ps, h.le, h.ne, h.bel.grown hg h.bel.size (fun k e => by have := (hr k e).1; omega)⟩
theorem onceEnd_own (w : World) (rs : List It) (B : Nat) (hB : w.heap.size ≤ B) : OwnFrom B (OnceEnd w rs) := by
  intro pre X Y row h hg hr
  obtain ⟨⟨b, hb, hc⟩, hbel⟩ := h
  exact ⟨⟨b, boxed_own _ _ (fun _ : Unit => Value.bool b) () X Y row hb hg (fun r e => (hr r e).2), hc⟩, hbel.grown hg hbel.size (fun k e => by have := (hr k e).1; omega)⟩
theorem results_once {tmps : Array Value} {w : World} {a : Addr} {b : Bool} (hp : tmps.getD 6 undef = .pointer (some a)) (hc : w.cell? a = some (.bool b)) : (results Try.f15 tmps).run Try.prog w = .ok (.bool b) w := by
  have hr : Try.f15.results = #[.cell 6 4] := rfl
  simp only [results, hr]
  have hp' : tmps[6]?.getD undef = .pointer (some a) := by simpa using hp
  simp [hp', asAddr]
  go_simp
/-- The iterator's contract at its callers. -/
theorem all1_seq (m : Nat) (hm : 1 ≤ m) (n0 : Nat) (ao : Option Addr) (n cap : Nat) (b : List UInt8) (hn : n ≤ 1000000000) (w : World) (hrd : Rd w 1 ao n cap (byV b)) (hlow : 0 < cap → ∀ a, ao = some a → a.block < n0) (hn0 : n0 ≤ w.heap.size) (Bn : Nat) (hBn : w.cell? ⟨Bn, 0, none⟩ = some (.slice ao n cap)) :
    SeqG Fence.wide m Try.prog 63 #[.pointer (some ⟨Bn, 0, none⟩)] elV (Below n0) elG elFr (SAll (its b)) (SPart (its b)) (its b).length w :=
  fun l J Jx W hW hJa _ hY h0 => all1_in m hm l Bn n0 ao n cap b hn J Jx hY W hJa ((hW.cell (p := ⟨Bn, 0, none⟩) (World.block_lt_of_cell? w _ hBn)).trans hBn) (hrd.later hW) hlow (Nat.le_trans hn0 hW.size) h0

set_option maxRecDepth 100000 in
set_option maxHeartbeats 2000000 in
theorem once_any (ao aw : Option Addr) (n cap nw capw : Nat) (b : List UInt8) (xs0 : List El) (most : Int) (w : World) (hn : n ≤ 100000000) (hrd : Rd w 1 ao n cap (byV b)) (hw : Rd w 2 aw nw capw (itV xs0)) (hc : came xs0 = its b) (hall : allEl w.heap.size xs0 w) :
    Calls Try.prog 15 #[.slice ao n cap, .slice aw nw capw, .int .i64 most] w (Utf.GivesTrue w) := by
  refine (callsIn_wide (n := 9)).1 ?_
  refine callsIn_of_wp_marks Try.func15 rfl trivial ?_ rfl
  simp only [Try.ntmps15, List.size_toArray, List.length_cons, List.length_nil, Nat.reduceAdd, Nat.reduceSub, Array.replicate_succ, Array.replicate_zero, List.push_toArray, List.append_toArray, List.nil_append, List.cons_append]
  have hfn : ∀ (a : Addr) (W : World), Sem.run Try.prog (binOp BinOp.eql 74 (.func (.func 63) #[] #[.pointer (some a)]) .nilFunc) W = .ok (.bool false) W := fun _ _ => by kernel_rfl
  gi_wp2_with (refine ⟨trivial, ?_⟩; gi_at_call 40; refine (callsIn_wide.2 (allF_any _ _ _ _)).mono ?_; rintro e w' ⟨rfl, rfl⟩)
  clear hfn
  have hlow : 0 < cap → ∀ a, ao = some a → a.block < w.heap.size := hrd.lt
  have hlx : xs0.length = (its b).length := by rw [← hc, came, List.length_map]
  have hnw : xs0.length = nw := by have := hw.1; rw [itV_len] at this; omega
  have hA : OnceAt w (.slice aw nw capw) most (its b) [] (((((w.alloc (Obj.cells #[.slice aw nw capw] 24)).alloc (Obj.cells #[.int IntKind.i64 most] 3)).alloc (Obj.cells #[.bool false] 4)).alloc (Obj.cells #[.slice ao n cap] 22)).alloc (Obj.cells #[.int .i64 0] 3)) := by
    have b0 := Boxed.new w 24 (.slice aw nw capw)
    have b1 := Boxed.new (w.alloc (Obj.cells #[.slice aw nw capw] 24)) 3 (.int IntKind.i64 most)
    have b2 := Boxed.new ((w.alloc (Obj.cells #[.slice aw nw capw] 24)).alloc (Obj.cells #[.int IntKind.i64 most] 3)) 4 (.bool false)
    have b4 := Boxed.new ((((w.alloc (Obj.cells #[.slice aw nw capw] 24)).alloc (Obj.cells #[.int IntKind.i64 most] 3)).alloc (Obj.cells #[.bool false] 4)).alloc (Obj.cells #[.slice ao n cap] 22)) 3 (.int .i64 0)
    simp only [World.size_alloc] at b1 b2 b4
    exact ⟨(((b0.alloc _).alloc _).alloc _).alloc _, ((b1.alloc _).alloc _).alloc _, (b2.alloc _).alloc _, b4, rfl, Nat.zero_le _, fun j h1 h2 => absurd (Nat.le_trans h1 h2) (by simp),
      (((((Below.refl _ w).alloc (Nat.le_refl _) _).alloc (by simp <;> omega) _).alloc (by simp <;> omega) _).alloc (by simp <;> omega) _).alloc (by simp <;> omega) _⟩
  have bb := ((Boxed.new (((w.alloc (Obj.cells #[.slice aw nw capw] 24)).alloc (Obj.cells #[.int IntKind.i64 most] 3)).alloc (Obj.cells #[.bool false] 4)) 22 (.slice ao n cap)).alloc (Obj.cells #[.int .i64 0] 3)).cell
  simp only [World.size_alloc] at bb
  refine range_G (F := Fence.wide) (n := 9) rfl (by omega) (gf := 63) (lb := #[.pointer (some ⟨w.heap.size + 1 + 1 + 1, 0, none⟩)]) rfl trivial (enters_of Try.func63 (by kernel_rfl) rfl)
    (all1_seq 8 (by omega) w.heap.size ao n cap b (by omega) _ (hrd.later hA.bel) hlow hA.bel.size _ bb) (fun h k => belowK_t h k) (fun W l o o' hl h h1 h2 => belowK_b (w := w) (Nat.le_refl _) W l o o' (Nat.le_trans hA.bel.size hl) h h1 h2) (Below.refl _ _) (fun _ => rfl)
    (OnceAt w (.slice aw nw capw) most (its b)) (OnceEnd w (its b)) (onceAt_own w _ most _ _ hA.bel.size) (onceEnd_own w _ _ hA.bel.size) (elG_own _) hA ?a1 ?assign ?body ?done ?stop
  case assign =>
    intro l x W K hK
    simp only [elV]
    gi_wp2
    exact hK
  case body =>
    rintro l pre x W hgx _ _ hI hlen
    obtain ⟨bw, bm, br, bi, ips, ile, ine, ibel⟩ := hI
    obtain ⟨k, hk⟩ : ∃ k, pre.length = k := ⟨_, rfl⟩
    rw [hk] at hlen bi ips ile ine
    have Hk := Lib.hid hk
    clear hk
    have cw := bw.cell
    have cm := bm.cell
    have ci := bi.cell
    have cr := br.cell
    have gi := bi.frozen
    have gr := br.frozen
    obtain ⟨y, hy⟩ : ∃ y, xs0[k]? = some y := ⟨_, List.getElem?_eq_getElem (by omega)⟩
    obtain ⟨hgy, hly⟩ := hall y (List.mem_of_getElem? hy)
    have hgy2 := Rd.below hgy ibel hly
    obtain ⟨b1, o1, e1, hlt1, hc1⟩ := hw.some (by have := hw.le; omega)
    subst e1
    obtain ⟨v1, v2⟩ := itV_at xs0 k y hy
    have c1 := (ibel.cell (p := ⟨b1, o1 + k * 2, none⟩) hlt1).trans (hc1 (k * 2) _ v1)
    have c2 : W.cell? ⟨b1, o1 + k * 2 + 1, none⟩ = _ := (ibel.cell (p := ⟨b1, o1 + (k * 2 + 1), none⟩) hlt1).trans (hc1 (k * 2 + 1) _ v2)
    clear v1 v2
    have i0 : (0 : Int) ≤ (k : Int) := by omega
    have ik : (k : Int) < 100000000 := by have := its_len b; have h2 := hrd.1; rw [byV_len] at h2; omega
    have i1 : (k : Int) < (nw : Int) := by omega
    have f0 : decide (nw ≤ k) = false := by simp; omega
    have hyk : (its b)[k]?.getD (0, []) = y.it := by rw [← hc, came, List.getElem?_map, hy]; rfl
    have Hyk := Lib.hid hyk
    have s1 := fun q => run_strD x.ao _ x.cap x.it.2 (W.drewN q) (Rd.later hgx (below_drewN (Below.refl _ _) q))
    have s2 := fun q => run_strD y.ao _ y.cap y.it.2 (W.drewN q) (Rd.later hgy2 (below_drewN (Below.refl _ _) q))
    have hmo : Try.prog.follows .mixedOrders = true := by kernel_rfl
    clear hyk
    by_cases hxt : (x.it.1.toNat : Int) = (y.it.1.toNat : Int)
    · by_cases hxb : x.it.2 = y.it.2
      · by_cases hm : most = ((k + 1 : Nat) : Int)
        · have f3 : ((k : Int) + 1 == most) = true := by simp [hm]
          have Hm := Lib.hid hm
          clear hm
          have Heq := Lib.hid (Prod.ext (UInt8.toNat_inj.1 (Int.ofNat.inj hxt)) hxb : x.it = y.it)
          have f1 : ((x.it.1.toNat : Int) != (y.it.1.toNat : Int)) = false := by simp [hxt]
          have hbb : (⟨x.it.2.toArray⟩ : ByteArray) = ⟨y.it.2.toArray⟩ := by rw [hxb]
          rw [← hbb] at s2
          clear hbb hxb hxt
          have f2 : ((⟨x.it.2.toArray⟩ : ByteArray).toList == (⟨x.it.2.toArray⟩ : ByteArray).toList) = true := by simp
          have Hln : Hid ((pre ++ [x]).length = k + 1) := by show _ = _; simp [Hk.out]
          have hsn := came_snoc ips hlen (Hyk.out.trans Heq.out.symm)
          have Hsn := Lib.hid hsn
          clear hsn
          gi_wp2
          refine region_round_quiet (by kernel_rfl) (by kernel_rfl) (by kernel_rfl) ?_
          repeat (gi_big_quiet_step (fail))
          refine wpQuietIn_nil ?_
          intro _ hw'
          obtain ⟨nq, hw''⟩ := hw'
          subst hw''
          gi_wp2
          have kb := (keepsOthers_b (below_drewN (Below.refl _ W) nq))
          exact ⟨(kb.trans (KeepsOthers.setCell _ _ _)).trans (KeepsOthers.setCell _ _ _), ⟨true, ((boxed_drew br nq).other (by simp) _).set _, .inl rfl⟩,
            ((below_drewN ibel nq).setCell (p := ⟨w.heap.size + 1 + 1 + 1 + 1, 0, none⟩) (by dsimp only; omega) _).setCell (p := ⟨w.heap.size + 1 + 1, 0, none⟩) (by dsimp only; omega) _⟩
        · have f3 : ((k : Int) + 1 == most) = false := by simp; omega
          have Hm := Lib.hid hm
          clear hm
          have Heq := Lib.hid (Prod.ext (UInt8.toNat_inj.1 (Int.ofNat.inj hxt)) hxb : x.it = y.it)
          have f1 : ((x.it.1.toNat : Int) != (y.it.1.toNat : Int)) = false := by simp [hxt]
          have hbb : (⟨x.it.2.toArray⟩ : ByteArray) = ⟨y.it.2.toArray⟩ := by rw [hxb]
          rw [← hbb] at s2
          clear hbb hxb hxt
          have f2 : ((⟨x.it.2.toArray⟩ : ByteArray).toList == (⟨x.it.2.toArray⟩ : ByteArray).toList) = true := by simp
          have Hln : Hid ((pre ++ [x]).length = k + 1) := by show _ = _; simp [Hk.out]
          have hsn := came_snoc ips hlen (Hyk.out.trans Heq.out.symm)
          have Hsn := Lib.hid hsn
          clear hsn
          gi_wp2
          refine region_round_quiet (by kernel_rfl) (by kernel_rfl) (by kernel_rfl) ?_
          repeat (gi_big_quiet_step (fail))
          refine wpQuietIn_nil ?_
          intro _ hw'
          obtain ⟨nq, hw''⟩ := hw'
          subst hw''
          gi_wp2
          have kb := (keepsOthers_b (below_drewN (Below.refl _ W) nq))
          refine ⟨kb.trans (KeepsOthers.setCell _ _ _), (below_drewN (Below.refl _ W) nq).setCell (p := ⟨w.heap.size + 1 + 1 + 1 + 1, 0, none⟩) (by dsimp only; omega) _, ?_⟩
          refine ⟨(boxed_drew bw nq).other (by omega) _, (boxed_drew bm nq).other (by simp) _, (boxed_drew br nq).other (by simp) _, ?_, ?_, ?_, ?_, (below_drewN ibel nq).setCell (p := ⟨w.heap.size + 1 + 1 + 1 + 1, 0, none⟩) (by dsimp only; omega) _⟩
          · rw [Hln.out]; exact (boxed_drew bi nq).set _
          · rw [Hln.out]; exact Hsn.out
          · rw [Hln.out]; omega
          · rw [Hln.out]
            intro j h1 h2
            by_cases hj : j ≤ k
            · exact ine j h1 hj
            · obtain rfl : j = k + 1 := by omega
              exact Hm.out
      · have f1 : ((x.it.1.toNat : Int) != (y.it.1.toNat : Int)) = false := by simp [hxt]
        have f2 : (x.it.2 == y.it.2) = false := beq_eq_false_iff_ne.2 hxb
        have hno : ¬ came (pre ++ [x]) = (its b).take (pre ++ [x]).length := fun h => hxb (by have := came_last Hk.out h; rw [← this, Hyk.out])
        have Hno := Lib.hid hno
        clear hxt hxb hno
        gi_wp2
        refine region_round_quiet (by kernel_rfl) (by kernel_rfl) (by kernel_rfl) ?_
        repeat (gi_big_quiet_step (fail))
        refine wpQuietIn_nil ?_
        intro _ hw'
        obtain ⟨nq, hw''⟩ := hw'
        subst hw''
        gi_wp2
        have kb := (keepsOthers_b (below_drewN (Below.refl _ W) nq))
        exact ⟨kb.trans (KeepsOthers.setCell _ _ _), ⟨false, (boxed_drew br nq).set _, .inr Hno.out⟩, (below_drewN ibel nq).setCell (p := ⟨w.heap.size + 1 + 1, 0, none⟩) (by show w.heap.size ≤ w.heap.size + 1 + 1; omega) _⟩
    · have f1 : ((x.it.1.toNat : Int) != (y.it.1.toNat : Int)) = true := by simp; omega
      have hno : ¬ came (pre ++ [x]) = (its b).take (pre ++ [x]).length := fun h => hxt (by have := came_last Hk.out h; rw [← this, Hyk.out])
      have Hno := Lib.hid hno
      clear hxt hno
      gi_wp2
      refine region_round_quiet (by kernel_rfl) (by kernel_rfl) (by kernel_rfl) ?_
      repeat (gi_big_quiet_step (fail))
      refine wpQuietIn_nil ?_
      intro _ hw'
      obtain ⟨nq, hw''⟩ := hw'
      subst hw''
      gi_wp2
      have kb := (keepsOthers_b (below_drewN (Below.refl _ W) nq))
      exact ⟨kb.trans (KeepsOthers.setCell _ _ _), ⟨false, (boxed_drew br nq).set _, .inr Hno.out⟩, (below_drewN ibel nq).setCell (p := ⟨w.heap.size + 1 + 1, 0, none⟩) (by show w.heap.size ≤ w.heap.size + 1 + 1; omega) _⟩
  case done =>
    rintro D xs W hD hS hI hK
    obtain ⟨bw, bm, br, bi, ips, ile, ine, ibel⟩ := hI
    have cw := bw.cell
    have ci := bi.cell
    have cr := br.cell
    have gr := br.frozen
    have hlx : xs.length = nw := by have := congrArg List.length hS; rw [came, List.length_map] at this; omega
    have f0 : ((xs.length : Int) == (nw : Int)) = true := by simp [hlx]
    have Hlx := Lib.hid hlx
    clear hlx
    gi_wp2
    have hD2 := Nat.le_trans hA.bel.size hD
    have hD3 : D ≠ w.heap.size + 1 + 1 := by intro e; simp at hD; omega
    have hK2 : (W.setCell ⟨w.heap.size + 1 + 1, 0, none⟩ (.bool true)).heap[D]? = some (.deferred (some [])) := (Below.heap_setCell W ⟨w.heap.size + 1 + 1, 0, none⟩ _ D hD3).trans hK
    refine ⟨by simp, .inl ⟨_, _, rfl, run_takeDeferred hK2, ?_⟩⟩
    refine ⟨_, results_once (a := ⟨w.heap.size + 1 + 1, 0, none⟩) (by rfl) (cell_kept (br.set (.bool true)).cell (grownBy_putObj' _ D _) (fun r e => by cases e; exact ⟨_, hK2, rfl⟩)), rfl, ?_⟩
    exact (ibel.setCell (p := ⟨w.heap.size + 1 + 1, 0, none⟩) (by dsimp only; omega) _).trans (belowK_b (w := w) (Nat.le_refl _) _ D _ _ hD2 hK2 rfl rfl)
  case stop =>
    rintro D pre W hD hS hI hK
    obtain ⟨⟨b', br, hb⟩, ibel⟩ := hI
    gi_wp2
    have hbt : b' = true := by
      rcases hb with h | h
      · exact h
      · obtain ⟨k, h1, h2, h3⟩ := hS
        exact absurd (by rw [came_len h3 h2]; exact h3) h
    subst hbt
    have hD2 := Nat.le_trans hA.bel.size hD
    refine ⟨by simp, .inl ⟨_, _, rfl, run_takeDeferred hK, ?_⟩⟩
    refine ⟨_, results_once (a := ⟨w.heap.size + 1 + 1, 0, none⟩) (by rfl) (cell_kept br.cell (grownBy_putObj' _ D _) (fun r e => by cases e; exact ⟨_, hK, rfl⟩)), rfl, ?_⟩
    exact ibel.trans (belowK_b (w := w) (Nat.le_refl _) _ D _ _ hD2 hK rfl rfl)
end Go.Proofs.Ytpkabinmnkadeaa.Tlv
