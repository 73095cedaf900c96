/-
  The walk of tlv.many: how many values bytes are.
-/
import Derived.Test.YtienfppidmjfpaaVg
namespace Go.Proofs.Ytienfppidmjfpaa.Tlv
open Go.RowKit Go.Shelf Go.Proofs.Ytienfppidmjfpaa.Mem
attribute [local go_sem] Oper.semAt_some

/-- How many values bytes are; below 0: they are none's. -/
def manyOf (b : List UInt8) : Int := if ip (its b) (its b).length = b.length then ((its b).length : Int) else -1

theorem ip_snoc {b : List UInt8} {k : Nat} {pre : List El} {x : El} (hk : pre.length = k) (h : SPart (its b) (pre ++ [x])) : k < (its b).length ∧ came (pre ++ [x]) = (its b).take (k + 1) ∧ ip (its b) (k + 1) = ip (its b) k + 5 + x.it.2.length ∧ ip (its b) (k + 1) ≤ b.length := by
  obtain ⟨j, h1, h2, h3⟩ := h
  have hj := came_len h3 h2
  simp only [List.length_append, List.length_cons, List.length_nil] at hj
  have hjk : j = k + 1 := by omega
  subst hjk
  have hkl : k < (its b).length := by omega
  obtain ⟨a1, a2, a3, a4⟩ := its_at b k hkl
  have h4 := came_last (rs := its b) (k := k) hk (by rw [h3]; simp [hk])
  rw [h4] at a1
  have h5 := hd1_len _ a2
  rw [← a1] at h5
  exact ⟨hkl, h3, by omega, a4⟩

/-- The boxes of 'many' behind a number of rounds: w its first world. -/
structure ManyAt (w : World) (rs : List It) (pre : List El) (W : World) : Prop where
  bn : Boxed W w.heap.size 3 (.int .i64 (pre.length : Int))
  ba : Boxed W (w.heap.size + 1) 3 (.int .i64 (ip rs pre.length : Int))
  bel : Below w.heap.size w W
theorem manyAt_own (w : World) (rs : List It) (B : Nat) (hB : w.heap.size ≤ B) : OwnFrom B (ManyAt w rs) := by
  intro pre X Y row h hg hr
  have hr2 : ∀ r, row = some r → ∃ o : Obj, X.heap[r]? = some o ∧ o.isCells = false := fun r e => (hr r e).2
  have hb : ∀ (b : Nat) (t : TypeId) (v : Value), Boxed X b t v → Boxed Y b t v := fun b t v hx => boxed_own b t (fun _ : Unit => v) () X Y row hx hg hr2
  exact ⟨hb _ _ _ h.bn, hb _ _ _ h.ba, h.bel.grown hg h.bel.size (fun k e => by have := (hr k e).1; omega)⟩
theorem no_own (B : Nat) : OwnFrom B (fun (_ : List El) (_ : World) => False) := fun _ _ _ _ h _ _ => h.elim

set_option maxRecDepth 100000 in
set_option maxHeartbeats 2000000 in
theorem many_any (ao : Option Addr) (n cap : Nat) (b : List UInt8) (w : World) (hn : n ≤ 1000000000) (hrd : Rd w 1 ao n cap (byV b)) :
    Calls Try.prog 70 #[.slice ao n cap] w (fun e w' => e = .returned (.int .i64 (manyOf b)) ∧ Below w.heap.size w w') := by
  refine (callsIn_wide (n := 9)).1 ?_
  refine callsIn_of_wp_marks Try.func70 rfl trivial ?_ rfl
  simp only [Try.ntmps70, List.size_toArray, List.length_cons, List.length_nil, Nat.reduceAdd, Nat.reduceSub, Array.replicate_succ, Array.replicate_zero, List.push_toArray, List.append_toArray, List.nil_append, List.cons_append]
  gi_wp2_with (refine ⟨trivial, ?_⟩; gi_at_call 76; refine (callsIn_wide.2 (allF_any _ _ _ _)).mono ?_; rintro e w' ⟨rfl, rfl⟩)
  have hlow : 0 < cap → ∀ a, ao = some a → a.block < w.heap.size := hrd.lt
  have hbn : b.length = n := by have := hrd.1; rw [byV_len] at this; omega
  have hA : ManyAt w (its b) [] (((w.alloc (Obj.cells #[.int .i64 0] 3)).alloc (Obj.cells #[.int .i64 0] 3)).alloc (Obj.cells #[.slice ao n cap] 29)) := by
    have b0 := Boxed.new w 3 (.int .i64 0)
    have b1 := Boxed.new (w.alloc (Obj.cells #[.int .i64 0] 3)) 3 (.int .i64 0)
    simp only [World.size_alloc] at b1
    refine ⟨(b0.alloc _).alloc _, ?_, (((Below.refl _ w).alloc (Nat.le_refl _) _).alloc (by simp <;> omega) _).alloc (by simp <;> omega) _⟩
    rw [show ip (its b) ([] : List El).length = 0 from ip_zero _]
    exact b1.alloc _
  have bb := (Boxed.new ((w.alloc (Obj.cells #[.int .i64 0] 3)).alloc (Obj.cells #[.int .i64 0] 3)) 29 (.slice ao n cap)).cell
  simp only [World.size_alloc] at bb
  refine range_G (F := Fence.wide) (n := 9) rfl (by omega) (gf := 81) (lb := #[.pointer (some ⟨w.heap.size + 1 + 1, 0, none⟩)]) rfl trivial (enters_of Try.func81 (by kernel_rfl) rfl)
    (all1_seq 8 (by omega) w.heap.size ao n cap b (by omega) _ (hrd.later hA.bel) hlow hA.bel.size _ bb) (fun h k => belowK_t h k) (fun W l o o' hl h h1 h2 => belowK_b (w := w) (Nat.le_refl _) W l o o' (Nat.le_trans hA.bel.size hl) h h1 h2) (Below.refl _ _) (fun _ => rfl)
    (ManyAt w (its b)) (fun _ _ => False) (manyAt_own w _ _ hA.bel.size) (no_own _) (elG_own _) hA ?a1 ?assign ?body ?done ?stop
  case assign =>
    intro l x W K hK
    simp only [elV]
    gi_wp2
    exact hK
  case body =>
    rintro l pre x W hgx hSx _ hI hlen
    obtain ⟨bn, ba, ibel⟩ := hI
    obtain ⟨k, hk⟩ : ∃ k, pre.length = k := ⟨_, rfl⟩
    obtain ⟨hkl, _, hip, hib⟩ := ip_snoc hk hSx
    have hln : (pre ++ [x]).length = k + 1 := by simp [hk]
    have Hln := Lib.hid hln
    rw [hk] at bn ba
    clear hk hln hlen hSx
    have cn := bn.cell
    have ca := ba.cell
    have gn := bn.frozen
    have ga := ba.frozen
    have ik : (k : Int) < 1000000000 := by have := its_len b; omega
    have ia : ((ip (its b) k : Nat) : Int) + 5 + (x.it.2.length : Int) ≤ 1000000000 := by omega
    have Hip := Lib.hid hip
    clear hip hib hbn hkl
    generalize ip (its b) k = at0 at *
    have e1 : IntKind.i64.wrap ((k : Int) + 1) = (k : Int) + 1 := by rw [IntWalk.i64_in] <;> omega
    have e2 : IntKind.i64.wrap ((at0 : Int) + 5) = (at0 : Int) + 5 := by rw [IntWalk.i64_in] <;> omega
    have e3 : IntKind.i64.wrap ((at0 : Int) + 5 + (x.it.2.length : Int)) = (at0 : Int) + 5 + (x.it.2.length : Int) := by rw [IntWalk.i64_in] <;> omega
    have hmo : Try.prog.follows .mixedOrders = true := by kernel_rfl
    have hfin : KeepsOthers W ((W.drew.setCell ⟨w.heap.size, 0, none⟩ (.int .i64 ((k : Int) + 1))).setCell ⟨w.heap.size + 1, 0, none⟩ (.int .i64 ((at0 : Int) + 5 + (x.it.2.length : Int)))) ∧
        Below w.heap.size W ((W.drew.setCell ⟨w.heap.size, 0, none⟩ (.int .i64 ((k : Int) + 1))).setCell ⟨w.heap.size + 1, 0, none⟩ (.int .i64 ((at0 : Int) + 5 + (x.it.2.length : Int)))) ∧
        ManyAt w (its b) (pre ++ [x]) ((W.drew.setCell ⟨w.heap.size, 0, none⟩ (.int .i64 ((k : Int) + 1))).setCell ⟨w.heap.size + 1, 0, none⟩ (.int .i64 ((at0 : Int) + 5 + (x.it.2.length : Int)))) := by
      have bn2 := (((show Boxed W.drew _ _ _ from bn).set (.int .i64 ((k : Int) + 1))).other (B' := w.heap.size + 1) (by simp) (.int .i64 ((at0 : Int) + 5 + (x.it.2.length : Int))))
      have ba2 := (((show Boxed W.drew _ _ _ from ba).other (B' := w.heap.size) (by simp) (.int .i64 ((k : Int) + 1))).set (.int .i64 ((at0 : Int) + 5 + (x.it.2.length : Int))))
      refine ⟨((KeepsOthers.drew W).trans (KeepsOthers.setCell _ _ _)).trans (KeepsOthers.setCell _ _ _), (((Below.refl _ W).drew).setCell (p := ⟨w.heap.size, 0, none⟩) (Nat.le_refl _) _).setCell (p := ⟨w.heap.size + 1, 0, none⟩) (by dsimp only; omega) _, ?_, ?_,
        ((ibel.drew).setCell (p := ⟨w.heap.size, 0, none⟩) (Nat.le_refl _) _).setCell (p := ⟨w.heap.size + 1, 0, none⟩) (by dsimp only; omega) _⟩
      · rw [Hln.out]; exact bn2
      · rw [Hln.out, Hip.out]; exact ba2
    gi_wp2
    refine region_round_any hmo (by kernel_rfl) ?_
    refine wpAnyIn_take (i := 4) (v := .slice x.ao x.it.2.length x.cap) rfl rfl (by kernel_rfl) (by kernel_rfl) (by kernel_rfl) (fun _ _ _ h => h) ⟨Or.inl ⟨by rfl, by intro w; go_simp⟩, fun _ => rfl⟩ ?_
    refine wpAnyIn_take (i := 5) (v := .int .i64 (x.it.2.length : Int)) rfl rfl (by kernel_rfl) (by kernel_rfl) (by kernel_rfl) (fun _ _ _ h => h) ⟨Or.inl ⟨by rfl, by intro w; go_simp⟩, fun _ => rfl⟩ ?_
    refine wpAnyIn_ready (rs := [0, 2]) (by kernel_rfl) (by simp) ?_
    refine AllReadyIn.cons rfl (fun K hK => ?_) ?_
    · go_simp
      refine hK _ _ ?_
      clear hK K
      refine wpAnyIn_take (i := 1) (v := .int .i64 ((k : Int) + 1)) rfl rfl (by kernel_rfl) (by kernel_rfl) (by kernel_rfl) (fun _ _ _ h => h) ⟨Or.inl ⟨by rfl, by intro w; go_simp⟩, fun _ => rfl⟩ ?_
      refine wpAnyIn_ready (rs := [2, 7]) (by kernel_rfl) (by simp) ?_
      refine AllReadyIn.cons rfl (fun K hK => ?_) ?_
      · go_simp
        refine hK _ _ ?_
        clear hK K
        refine wpAnyIn_take (i := 3) (v := .int .i64 ((at0 : Int) + 5)) rfl rfl (by kernel_rfl) (by kernel_rfl) (by kernel_rfl) (fun _ _ _ h => h) ⟨Or.inl ⟨by rfl, by intro w; go_simp⟩, fun _ => rfl⟩ ?_
        refine wpAnyIn_take (i := 6) (v := .int .i64 ((at0 : Int) + 5 + (x.it.2.length : Int))) rfl rfl (by kernel_rfl) (by kernel_rfl) (by kernel_rfl) (fun _ _ _ h => h) ⟨Or.inl ⟨by rfl, by intro w; go_simp⟩, fun _ => rfl⟩ ?_
        refine wpAnyIn_ready (rs := [7]) (by kernel_rfl) (by simp) ?_
        refine AllReadyIn.cons rfl (fun K hK => ?_) ?_
        · go_simp
          refine hK _ _ ?_
          clear hK K
          refine wpAnyIn_ready (rs := [8]) (by kernel_rfl) (by simp) ?_
          refine AllReadyIn.cons rfl (fun K hK => ?_) ?_
          · go_simp
            refine hK _ _ ?_
            clear hK K
            refine wpAnyIn_done (by kernel_rfl) ?_ _
            exact hfin
          exact AllReadyIn.nil
        exact AllReadyIn.nil
      refine AllReadyIn.cons rfl (fun K hK => ?_) ?_
      · go_simp
        refine hK _ _ ?_
        clear hK K
        refine wpAnyIn_ready (rs := [2]) (by kernel_rfl) (by simp) ?_
        refine AllReadyIn.cons rfl (fun K hK => ?_) ?_
        · go_simp
          refine hK _ _ ?_
          clear hK K
          refine wpAnyIn_take (i := 3) (v := .int .i64 ((at0 : Int) + 5)) rfl rfl (by kernel_rfl) (by kernel_rfl) (by kernel_rfl) (fun _ _ _ h => h) ⟨Or.inl ⟨by rfl, by intro w; go_simp⟩, fun _ => rfl⟩ ?_
          refine wpAnyIn_take (i := 6) (v := .int .i64 ((at0 : Int) + 5 + (x.it.2.length : Int))) rfl rfl (by kernel_rfl) (by kernel_rfl) (by kernel_rfl) (fun _ _ _ h => h) ⟨Or.inl ⟨by rfl, by intro w; go_simp⟩, fun _ => rfl⟩ ?_
          refine wpAnyIn_ready (rs := [8]) (by kernel_rfl) (by simp) ?_
          refine AllReadyIn.cons rfl (fun K hK => ?_) ?_
          · go_simp
            refine hK _ _ ?_
            clear hK K
            refine wpAnyIn_done (by kernel_rfl) ?_ _
            exact hfin
          exact AllReadyIn.nil
        exact AllReadyIn.nil
      exact AllReadyIn.nil
    refine AllReadyIn.cons rfl (fun K hK => ?_) ?_
    · go_simp
      refine hK _ _ ?_
      clear hK K
      refine wpAnyIn_take (i := 3) (v := .int .i64 ((at0 : Int) + 5)) rfl rfl (by kernel_rfl) (by kernel_rfl) (by kernel_rfl) (fun _ _ _ h => h) ⟨Or.inl ⟨by rfl, by intro w; go_simp⟩, fun _ => rfl⟩ ?_
      refine wpAnyIn_take (i := 6) (v := .int .i64 ((at0 : Int) + 5 + (x.it.2.length : Int))) rfl rfl (by kernel_rfl) (by kernel_rfl) (by kernel_rfl) (fun _ _ _ h => h) ⟨Or.inl ⟨by rfl, by intro w; go_simp⟩, fun _ => rfl⟩ ?_
      refine wpAnyIn_ready (rs := [0]) (by kernel_rfl) (by simp) ?_
      refine AllReadyIn.cons rfl (fun K hK => ?_) ?_
      · go_simp
        refine hK _ _ ?_
        clear hK K
        refine wpAnyIn_take (i := 1) (v := .int .i64 ((k : Int) + 1)) rfl rfl (by kernel_rfl) (by kernel_rfl) (by kernel_rfl) (fun _ _ _ h => h) ⟨Or.inl ⟨by rfl, by intro w; go_simp⟩, fun _ => rfl⟩ ?_
        refine wpAnyIn_ready (rs := [7]) (by kernel_rfl) (by simp) ?_
        refine AllReadyIn.cons rfl (fun K hK => ?_) ?_
        · go_simp
          refine hK _ _ ?_
          clear hK K
          refine wpAnyIn_ready (rs := [8]) (by kernel_rfl) (by simp) ?_
          refine AllReadyIn.cons rfl (fun K hK => ?_) ?_
          · go_simp
            refine hK _ _ ?_
            clear hK K
            refine wpAnyIn_done (by kernel_rfl) ?_ _
            exact hfin
          exact AllReadyIn.nil
        exact AllReadyIn.nil
      exact AllReadyIn.nil
    exact AllReadyIn.nil
  case done =>
    rintro D xs W hD hS hI hK
    obtain ⟨bn, ba, ibel⟩ := hI
    have hlx : xs.length = (its b).length := by have := congrArg List.length hS; rw [came, List.length_map] at this; exact this
    rw [hlx] at bn ba
    have hD2 := Nat.le_trans hA.bel.size hD
    have cn := bn.cell
    have ca := ba.cell
    have hfin : Below w.heap.size w (W.putObj D (.deferred none)) := ibel.trans (belowK_b (w := w) (Nat.le_refl _) _ D _ _ hD2 hK rfl rfl)
    by_cases hip : ip (its b) (its b).length = b.length
    · have f1 : (((ip (its b) (its b).length : Nat) : Int) != (n : Int)) = false := by rw [hip, hbn]; simp
      have hmy : manyOf b = ((its b).length : Int) := if_pos hip
      have Hmy := Lib.hid hmy
      clear hmy hip hlx
      gi_wp2
      refine ⟨by simp, .inl ⟨_, _, rfl, run_takeDeferred hK, ?_⟩⟩
      exact ⟨_, results_tmp rfl _ _ _, by rw [Hmy.out]; rfl, hfin⟩
    · have f1 : (((ip (its b) (its b).length : Nat) : Int) != (n : Int)) = true := by rw [← hbn]; simp; omega
      have hmy : manyOf b = -1 := if_neg hip
      have Hmy := Lib.hid hmy
      clear hmy hip hlx
      gi_wp2
      refine ⟨by simp, .inl ⟨_, _, rfl, run_takeDeferred hK, ?_⟩⟩
      exact ⟨_, results_tmp rfl _ _ _, by rw [Hmy.out]; rfl, hfin⟩
  case stop =>
    rintro D pre W hD hS hI hK
    exact hI.elim
end Go.Proofs.Ytienfppidmjfpaa.Tlv
