/-
  A part of the proof: what this text holds is told at each of its declarations.
-/
import Derived.Test.YtgeafnggodkpaaaGreatZaau
import Derived.Test.YtgeafnggodkpaaaGreatZabc
import Derived.Test.YtgeafnggodkpaaaGreatZaat
namespace Go.Proofs.YtgeafnggodkpaaaGreat.Msg
open Go.RowKit Go.Lib Go.Proofs.YtgeafnggodkpaaaGreat.Mem Go.Proofs.YtgeafnggodkpaaaGreat.Tlv

/-- Entries' bytes, one behind another. -/
def entsB (l : List EP) : List UInt8 := l.flatMap fun p => val 1 (entL p.1 p.2)
theorem entsB_cons (p : EP) (l : List EP) : entsB (p :: l) = val 1 (entL p.1 p.2) ++ entsB l := rfl
theorem entsB_snoc (l : List EP) (p : EP) : entsB (l ++ [p]) = entsB l ++ val 1 (entL p.1 p.2) := by simp [entsB]
/-- A result's bytes. -/
def resL (v : QV) (c : QC) : List UInt8 := val 1 (num8 v.code.toNat) ++ (val 2 [if v.yes then 1 else 0] ++ (val 3 (entsB c.ents) ++ (val 4 c.cursor ++ [])))
def zeroQ : QV := ⟨0, false, none, 0, 0, none, 0, 0⟩
def bareQ (k : Int) : QV := ⟨k, false, none, 0, 0, none, 0, 0⟩
/-- Whether a result may be. -/
def mayRes (v : QV) (c : QC) : Bool :=
  if v.code = 0 then !(decide (1000 < v.en) || (c.ents.any fun u => !mayEntry u.1 u.2) || decide (4000 < v.cn)) && decide ((entsB c.ents).length ≤ 4194304)
  else decide (0 < v.code) && decide (v.code ≤ 14) && sameRes v c (bareQ v.code) ⟨[], []⟩
theorem ents_inj : ∀ (l m : List EP), (∀ p ∈ l, mayEntry p.1 p.2 = true) → (∀ p ∈ m, mayEntry p.1 p.2 = true) → entsB l = entsB m → sameEnts l m = true
  | [], [], _, _, _ => rfl
  | [], p :: m, _, _, h => by
    have := congrArg List.length h
    rw [entsB_cons, List.length_append, val_len] at this
    have e0 : (entsB []).length = 0 := rfl
    omega
  | p :: l, [], _, _, h => by
    have := congrArg List.length h
    rw [entsB_cons, List.length_append, val_len] at this
    have e0 : (entsB []).length = 0 := rfl
    omega
  | p :: l, q :: m, hl, hm, h => by
    rw [entsB_cons, entsB_cons] at h
    have l1 := entL_len (hl p (by simp))
    have l2 := entL_len (hm q (by simp))
    obtain ⟨h1, h2⟩ := val_inj (by decide) (by omega) (by omega) h
    unfold sameEnts
    rw [ent_inj (hl p (by simp)) (hm q (by simp)) h1, Bool.true_and]
    exact ents_inj l m (fun x hx => hl x (by simp [hx])) (fun x hx => hm x (by simp [hx])) h2
end Go.Proofs.YtgeafnggodkpaaaGreat.Msg
namespace Go.Proofs.YtgeafnggodkpaaaGreat.Msg
open Go.RowKit Go.Lib Go.Proofs.YtgeafnggodkpaaaGreat.Mem Go.Proofs.YtgeafnggodkpaaaGreat.Tlv

set_option maxRecDepth 100000 in
set_option maxHeartbeats 4000000 in
theorem resb1_any (B g rb : Nat) (st : WS) (v : QV) (l : List EP) (k : Nat) (p : EP) (W : World) (hw : WrS B g st W) (hl : st.l.length ≤ 100000000) (hrb : W.heap[rb]? = some v.box) (he : EnAt W v.eo v.en v.ec l) (hp : l[k]? = some p) (hm : mayEntry p.1 p.2 = true) :
    Calls Tryz.prog 132 #[.pointer (some ⟨g, 0, none⟩), .int .i64 (k : Int), .pointer (some ⟨rb, 0, none⟩)] W fun e w' => (∃ r, e = .returned r) ∧ WrS B g (st.put 1 (entL p.1 p.2)) w' ∧ Below B W w' := by
  have hkn : k < v.en := by have := he.len; have := (List.getElem?_eq_some_iff.1 hp).1; omega
  obtain ⟨b1, o1, hao, hl1, hc1⟩ := he.r.some (by have := he.r.le; omega)
  obtain ⟨v1, v2⟩ := enV_at l k p hp
  have x0 := hc1 (k * 2) _ v1
  have x1 : W.cell? ⟨b1, o1 + k * 2 + 1, none⟩ = _ := hc1 (k * 2 + 1) _ v2
  obtain ⟨c0, c1, c2, c3, -⟩ := qbox_all hrb
  rw [hao] at c2
  have hE := he.each p (List.mem_of_getElem? hp)
  have hc := entBytes_any p.1 p.2 W hE
  have hB := hw.le
  unfold EV.val EV.cells at hc
  have i0 : (0 : Int) ≤ (k : Int) := by omega
  have i1 : (k : Int) < (v.en : Int) := by omega
  have HM := Lib.hid hm
  clear hm hc1 v1 v2 he hp hkn hao
  go_enter Tryz.func132, Tryz.ntmps132
  go_wp2_with fail
  refine hc.mono ?_
  rintro e W1 ⟨lx, ax, cx, ex, rfl, hrx, hb1, hfr, hx1, -⟩
  obtain ⟨rfl, rfl⟩ := hx1 HM.out
  have hln := entL_len HM.out
  have hw1 := hw.later hb1
  clear hc x0 x1 c0 c1 c2 c3 hx1
  go_wp2_with fail
  refine (wput_any B g st 1 (entL p.1 p.2) ax _ cx W1 hw1 hl (by omega) hrx (fun h0 a ha u hu e => ?_)).mono ?_
  · have h1 := hfr a ha
    obtain ⟨u0, hu0⟩ := hw
    have hh := hu0.at_
    have h2 := hu.at_
    rw [(hb1.block _ (Array.getElem?_eq_some_iff.1 hh).1).trans hh] at h2
    cases h2
    have := own_lt hu0.own a.block e.symm
    omega
  · rintro e W2 ⟨rfl, hw2, hb2, -⟩
    go_wp2_with fail
    refine bodyPost_end (results_none rfl _ _ _) rfl ?_
    exact ⟨⟨_, rfl⟩, hw2, (hb1.mono hB).trans hb2⟩
end Go.Proofs.YtgeafnggodkpaaaGreat.Msg
namespace Go.Proofs.YtgeafnggodkpaaaGreat.Msg
open Go.RowKit Go.Lib Go.Proofs.YtgeafnggodkpaaaGreat.Mem Go.Proofs.YtgeafnggodkpaaaGreat.Utf Go.Proofs.YtgeafnggodkpaaaGreat.Tlv

/-- A result's box. -/
structure QbAt (w : World) (v : QV) (W : World) : Prop where
  o : W.heap[w.heap.size]? = some v.box
  bel : Below w.heap.size w W
theorem QbAt.step {w W W' : World} {v : QV} (h : QbAt w v W) (hb : Below W.heap.size W W') : QbAt w v W' := ⟨(hb.block _ (Array.getElem?_eq_some_iff.1 h.o).1).trans h.o, h.bel.trans (hb.mono h.bel.size)⟩
theorem QbAt.turn {w W W' : World} {v : QV} {B : Nat} (h : QbAt w v W) (hb : Below B W W') (hB : w.heap.size < B) : QbAt w v W' := ⟨(hb.block _ hB).trans h.o, h.bel.trans (hb.mono (by omega))⟩
def enE (l : List EP) (i : Nat) : List UInt8 := val 1 (match l[i]? with | some p => entL p.1 p.2 | none => [])
theorem enE_all (l : List EP) : ∀ n, n ≤ l.length → allIt (enE l) n = entsB (l.take n)
  | 0, _ => by simp [allIt, entsB]
  | n + 1, h => by
    have hn : l[n]? = some l[n] := List.getElem?_eq_getElem (by omega)
    rw [allIt_succ, enE_all l n (by omega), List.take_add_one, hn]
    simp only [Option.toList_some]
    rw [entsB_snoc]
    simp [enE, hn]

set_option maxRecDepth 100000 in
set_option maxHeartbeats 20000000 in
theorem resBytes_any (v : QV) (c : QC) (w : World) (h : QAt w v c) (h0 : 0 ≤ v.code) (h1 : v.code ≤ 255) (hn : v.en ≤ 1000) (hall : ∀ p ∈ c.ents, mayEntry p.1 p.2 = true) (hlen : (entsB c.ents).length ≤ 4194304) (hcn : v.cn ≤ 4000) :
    Calls Tryz.prog 85 #[v.val] w fun e w' => ∃ ao cap, e = .returned (.tuple #[.slice ao (resL v c).length cap, .int .i64 0]) ∧ Rd w' 1 ao (resL v c).length cap (byV (resL v c)) ∧ Below w.heap.size w w' ∧ ∀ a, ao = some a → w.heap.size ≤ a.block := by
  have hmo : Tryz.prog.follows .mixedOrders = true := by kernel_rfl
  have lx := h.e.len
  have lc : c.cursor.length = v.cn := by have := h.c.1; rw [byV_len] at this; omega
  obtain ⟨cn, hcd⟩ : ∃ n : Nat, v.code = (n : Int) := ⟨v.code.toNat, by omega⟩
  have hcw : IntKind.wrap .u64 v.code = (cn : Int) := by rw [hcd, IntKind.wrap_u64]; omega
  have hall2 : allIt (enE c.ents) v.en = entsB c.ents := by rw [enE_all c.ents v.en (by omega), List.take_of_length_le (by omega)]
  have hres : resL v c = val 1 (num8 cn) ++ (val 2 [if v.yes then 1 else 0] ++ (val 3 (entsB c.ents) ++ (val 4 c.cursor ++ []))) := by unfold resL; rw [show v.code.toNat = cn by omega]
  have HR := Lib.hid hres
  have HA := Lib.hid hall2
  have HL := Lib.hid hlen
  have LX := Lib.hid lx
  have LC := Lib.hid lc
  clear hres hall2 hlen lx lc hcd h0 h1
  have hb0 : Below w.heap.size w (w.alloc v.box) := (Below.refl _ _).alloc (Nat.le_refl _) _
  have k0 : (w.alloc v.box).heap[w.heap.size]? = some v.box := by show (w.heap.push _)[w.heap.size]? = some _; exact Array.getElem?_push_size
  unfold QV.box QV.cells at hb0 k0
  unfold QV.val QV.cells
  go_enter Tryz.func85, Tryz.ntmps85
  go_upto_region 1 with fail
  generalize hg : w.alloc _ = W0 at *
  have s0 : QbAt w v W0.drew := (⟨k0, hb0⟩ : QbAt w v W0).step (Below.refl _ _).drew
  clear hg k0 hb0
  refine wp_region_held (S := QbAt w v) hmo ?_
  change wpAnyH _ _ _ _ _ _ _ _ (World.drew W0)
  generalize World.drew W0 = X0 at *
  refine wpAnyH_take (i := 1) (v := .pointer (some ⟨w.heap.size, 0, none⟩)) rfl (by kernel_rfl) (by kernel_rfl) (by kernel_rfl) (fun _ _ _ h => h) (Or.inl ⟨by kernel_rfl, by intro _ _; kernel_rfl⟩) s0 ?_
  go_simp
  refine wpAnyH_take (i := 2) (v := .int .i64 v.code) rfl (by kernel_rfl) (by kernel_rfl) (by kernel_rfl) (fun _ _ _ h => h) (Or.inl ⟨by kernel_rfl, by rintro w2 h2; obtain ⟨c0, c1, c2, c3, -⟩ := qbox_all h2.o; go_simp⟩) s0 ?_
  go_simp
  refine wpAnyH_take (i := 3) (v := .int .u64 (cn : Int)) rfl (by kernel_rfl) (by kernel_rfl) (by kernel_rfl) (fun _ _ _ h => h) (Or.inl ⟨by kernel_rfl, by rintro w2 h2; obtain ⟨c0, c1, c2, c3, -⟩ := qbox_all h2.o; go_simp⟩) s0 ?_
  go_simp
  refine wpAnyH_take (i := 5) (v := .pointer (some ⟨w.heap.size, 1, none⟩)) rfl (by kernel_rfl) (by kernel_rfl) (by kernel_rfl) (fun _ _ _ h => h) (Or.inl ⟨by kernel_rfl, by intro _ _; kernel_rfl⟩) s0 ?_
  go_simp
  refine wpAnyH_take (i := 6) (v := .bool v.yes) rfl (by kernel_rfl) (by kernel_rfl) (by kernel_rfl) (fun _ _ _ h => h) (Or.inl ⟨by kernel_rfl, by rintro w2 h2; obtain ⟨c0, c1, c2, c3, -⟩ := qbox_all h2.o; go_simp⟩) s0 ?_
  go_simp
  refine wpAnyH_take (i := 8) (v := .pointer (some ⟨w.heap.size, 2, none⟩)) rfl (by kernel_rfl) (by kernel_rfl) (by kernel_rfl) (fun _ _ _ h => h) (Or.inl ⟨by kernel_rfl, by intro _ _; kernel_rfl⟩) s0 ?_
  go_simp
  refine wpAnyH_take (i := 9) (v := .slice v.eo v.en v.ec) rfl (by kernel_rfl) (by kernel_rfl) (by kernel_rfl) (fun _ _ _ h => h) (Or.inl ⟨by kernel_rfl, by rintro w2 h2; obtain ⟨c0, c1, c2, c3, -⟩ := qbox_all h2.o; go_simp⟩) s0 ?_
  go_simp
  refine wpAnyH_take (i := 10) (v := .int .i64 (v.en : Int)) rfl (by kernel_rfl) (by kernel_rfl) (by kernel_rfl) (fun _ _ _ h => h) (Or.inl ⟨by kernel_rfl, by rintro w2 h2; obtain ⟨c0, c1, c2, c3, -⟩ := qbox_all h2.o; go_simp⟩) s0 ?_
  go_simp
  refine wpAnyH_take (i := 11) (v := .func (.func 132) #[] #[.pointer (some ⟨w.heap.size, 0, none⟩)]) rfl (by kernel_rfl) (by kernel_rfl) (by kernel_rfl) (fun _ _ _ h => h) (Or.inl ⟨by kernel_rfl, by rintro w2 h2; obtain ⟨c0, c1, c2, c3, -⟩ := qbox_all h2.o; go_simp⟩) s0 ?_
  go_simp
  refine wpAnyH_take (i := 13) (v := .pointer (some ⟨w.heap.size, 3, none⟩)) rfl (by kernel_rfl) (by kernel_rfl) (by kernel_rfl) (fun _ _ _ h => h) (Or.inl ⟨by kernel_rfl, by intro _ _; kernel_rfl⟩) s0 ?_
  go_simp
  refine wpAnyH_take (i := 14) (v := .slice v.co v.cn v.cc) rfl (by kernel_rfl) (by kernel_rfl) (by kernel_rfl) (fun _ _ _ h => h) (Or.inl ⟨by kernel_rfl, by rintro w2 h2; obtain ⟨c0, c1, c2, c3, -⟩ := qbox_all h2.o; go_simp⟩) s0 ?_
  go_simp
  refine wpAnyH_all (rs := [0]) (by kernel_rfl) (by simp) (fun j hj => ?_)
  rw [List.mem_singleton] at hj
  subst hj
  refine wpOp_step rfl (fun K hK => ?_)
  go_simp
  have g0 : WrS X0.heap.size X0.heap.size ⟨[], 0⟩ (X0.alloc (.cells #[.slice none 0 0, .int .i64 0] 114)) := ⟨_, by show (X0.heap.push _)[X0.heap.size]? = some _; exact Array.getElem?_push_size, Nat.le_refl _, World.ownsRow_nil _ _ _ _⟩
  have s1 : QbAt w v (X0.alloc (.cells #[.slice none 0 0, .int .i64 0] 114)) := s0.step ((Below.refl _ _).alloc (Nat.le_refl _) _)
  have hlt : w.heap.size < X0.heap.size := (Array.getElem?_eq_some_iff.1 s0.o).1
  refine hK _ _ ⟨s1, ?_⟩
  clear hK K
  refine wpAnyH_all (rs := [4]) (by kernel_rfl) (by simp) (fun j hj => ?_)
  rw [List.mem_singleton] at hj
  subst hj
  refine wpOp_step rfl (fun K hK => ?_)
  go_simp
  refine (wnum_any X0.heap.size X0.heap.size ⟨[], 0⟩ 1 cn _ g0 (by decide)).mono ?_
  rintro e X2 ⟨rfl, g1, hb2, -⟩
  have s2 := s1.turn hb2 hlt
  go_simp
  refine hK _ _ ⟨s2, ?_⟩
  clear hK K
  refine wpAnyH_all (rs := [7]) (by kernel_rfl) (by simp) (fun j hj => ?_)
  rw [List.mem_singleton] at hj
  subst hj
  refine wpOp_step rfl (fun K hK => ?_)
  go_simp
  refine (wflag_any X0.heap.size X0.heap.size _ 2 v.yes _ g1 (by simp [WS.put, val_len, num8_len])).mono ?_
  rintro e X3 ⟨rfl, g2, hb3, -⟩
  have s3 := s2.turn hb3 hlt
  go_simp
  refine hK _ _ ⟨s3, ?_⟩
  clear hK K
  refine wpAnyH_all (rs := [12]) (by kernel_rfl) (by simp) (fun j hj => ?_)
  rw [List.mem_singleton] at hj
  subst hj
  refine wpOp_step rfl (fun K hK => ?_)
  go_simp
  have hW := wlist_ok X0.heap.size X0.heap.size _ 3 v.en 132 #[.pointer (some ⟨w.heap.size, 0, none⟩)] (enE c.ents) X3 g2 rfl (by omega) (enters_of Tryz.func132 (by kernel_rfl) rfl)
    (fun i hi => by
      obtain ⟨p, hi2⟩ : ∃ p, c.ents[i]? = some p := ⟨_, List.getElem?_eq_getElem (by rw [LX.out]; exact hi)⟩
      have hl := entL_len (hall p (List.mem_of_getElem? hi2))
      unfold enE
      rw [hi2]
      exact ⟨manyOf_val 1 _ (by decide) (by dsimp only; omega), by rw [val_len]; omega⟩)
    (by rw [HA.out]; exact HL.out) (by simp [WS.put, val_len, num8_len])
    (fun i W1 hi hb1 hwr => by
      obtain ⟨p, hi2⟩ : ∃ p, c.ents[i]? = some p := ⟨_, List.getElem?_eq_getElem (by rw [LX.out]; exact hi)⟩
      have s4 := s3.step hb1
      have hm := allIt_mono (enE c.ents) (Nat.le_of_lt hi)
      rw [HA.out] at hm
      have hL := HL.out
      refine (resb1_any X3.heap.size X3.heap.size w.heap.size _ v c.ents i _ W1 hwr (by dsimp only; omega) s4.o (h.later s4.bel).e hi2 (hall p (List.mem_of_getElem? hi2))).mono ?_
      rintro e1 w1 ⟨q1, q2, q3⟩
      refine ⟨q1, ?_, q3⟩
      rw [allIt_succ]
      have e5 : enE c.ents i = val 1 (entL p.1 p.2) := by unfold enE; rw [hi2]
      rw [e5]
      simpa [WS.put] using q2)
  rw [HA.out] at hW
  refine hW.mono ?_
  rintro e X4 ⟨rfl, g3, hb4, -⟩
  have s4 := s3.turn hb4 hlt
  clear hW
  go_simp
  refine hK _ _ ⟨s4, ?_⟩
  clear hK K
  refine wpAnyH_all (rs := [15]) (by kernel_rfl) (by simp) (fun j hj => ?_)
  rw [List.mem_singleton] at hj
  subst hj
  refine wpOp_step rfl (fun K hK => ?_)
  go_simp
  refine (wput_any X0.heap.size X0.heap.size _ 4 c.cursor v.co _ v.cc _ g3 (by have := HL.out; simp [WS.put, val_len, num8_len]; omega) (by omega) (h.later s4.bel).c (fun h0 a ha u hu e => by have := h.c.lt h0 a ha; have h9 := own_blk hu.own e.symm; have := s0.bel.size; omega)).mono ?_
  rintro e X5 ⟨rfl, g4, hb5, -⟩
  have s5 := s4.turn hb5 hlt
  go_simp
  refine hK _ _ ⟨s5, ?_⟩
  clear hK K
  refine wpAnyH_all (rs := [16]) (by kernel_rfl) (by simp) (fun j hj => ?_)
  rw [List.mem_singleton] at hj
  subst hj
  refine wpOp_step rfl (fun K hK => ?_)
  go_simp
  have g5 : WrS X0.heap.size X0.heap.size ⟨resL v c, 0⟩ X5 := by rw [HR.out]; simpa [WS.put] using g4
  obtain ⟨y, hy⟩ := g5
  have hrl : (resL v c).length ≤ 100000000 := by have := HL.out; have := LC.out; rw [HR.out]; simp only [List.length_append, val_len, num8_len, List.length_cons, List.length_nil]; omega
  refine (wend_ok _ _ _ _ _ hy hrl).mono ?_
  rintro e X6 ⟨z, rfl, hz6, hb6⟩
  obtain ⟨ao6, cap6, rfl, hr6⟩ := Rd.of_own hz6
  have s6 := s5.step hb6
  go_simp
  refine hK _ _ ⟨s6, ?_⟩
  clear hK K
  refine wpAnyH_take (i := 17) (v := .slice ao6 (resL v c).length cap6) rfl (by kernel_rfl) (by kernel_rfl) (by kernel_rfl) (fun _ _ _ h => h) (Or.inl ⟨by kernel_rfl, by rintro w2 h2; obtain ⟨c0, c1, c2, c3, -⟩ := qbox_all h2.o; go_simp⟩) s6 ?_
  go_simp
  refine wpAnyH_take (i := 18) (v := .int .i64 0) rfl (by kernel_rfl) (by kernel_rfl) (by kernel_rfl) (fun _ _ _ h => h) (Or.inl ⟨by kernel_rfl, by rintro w2 h2; obtain ⟨c0, c1, c2, c3, -⟩ := qbox_all h2.o; go_simp⟩) s6 ?_
  go_simp
  refine wpAnyH_take (i := 19) (v := .slice ao6 (resL v c).length cap6) rfl (by kernel_rfl) (by kernel_rfl) (by kernel_rfl) (fun _ _ _ h => h) (Or.inl ⟨by kernel_rfl, by intro _ _; kernel_rfl⟩) s6 ?_
  go_simp
  refine wpAnyH_take (i := 20) (v := .int .i64 0) rfl (by kernel_rfl) (by kernel_rfl) (by kernel_rfl) (fun _ _ _ h => h) (Or.inl ⟨by kernel_rfl, by intro _ _; kernel_rfl⟩) s6 ?_
  go_simp
  refine wpAnyH_done (by kernel_rfl) ?_ _
  go_wp2_with fail
  go_ret2
  exact ⟨ao6, cap6, rfl, hr6, s6.bel, fun a ha => Nat.le_trans s5.bel.size (own_fresh hz6 a ha)⟩
end Go.Proofs.YtgeafnggodkpaaaGreat.Msg
