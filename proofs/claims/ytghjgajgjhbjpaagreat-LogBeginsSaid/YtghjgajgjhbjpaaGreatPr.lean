/-
  Of, of any requests.
-/
import Derived.Test.YtghjgajgjhbjpaaGreatPq
import Derived.Deep.Cut
namespace Go.Proofs.YtghjgajgjhbjpaaGreat.Msg
open Go.RowKit Go.Lib Go.Proofs.YtghjgajgjhbjpaaGreat.Mem Go.Proofs.YtghjgajgjhbjpaaGreat.Tlv

/-- Behind k requests. -/
def OfG (w : World) (g : Nat) (base : Int) (ps : List RP) (k : Nat) (wr : World) : Prop := ∃ l s qs, PLog w.heap.size g base l s qs wr ∧ Twins (ps.take k) qs ∧ Below w.heap.size w wr
def GivesPOf (base : Int) (ps : List RP) (w : World) (e : Ending) (w' : World) : Prop :=
  Below w.heap.size w w' ∧ ((ofErr base ps = 0 ∧ ∃ g l s qs, e = .returned (.tuple #[.pointer (some ⟨g, 0, none⟩), .int .i64 0]) ∧ PLog w.heap.size g base l s qs w' ∧ Twins ps qs) ∨
    (ofErr base ps ≠ 0 ∧ e = .returned (.tuple #[.pointer none, .int .i64 (ofErr base ps)])))

set_option maxRecDepth 100000 in
set_option maxHeartbeats 20000000 in
theorem of_any (base : Int) (ao : Option Addr) (n cap : Nat) (ps : List RP) (w : World) (hq : ReqsAt ao n cap ps w) (hf : ∀ p ∈ ps, FitP p) (hn : n ≤ 4096) (hb0 : 0 ≤ base) :
    Calls Tryz.prog 9 #[.int .u64 base, .slice ao n cap] w (GivesPOf base ps w) := by
  have hmo : Tryz.prog.follows .mixedOrders = true := by kernel_rfl
  have LX := Lib.hid hq.len
  have hx := hq.rd
  have hcont := containsReq_any ao n cap ps w hq
  have f2 : decide ((4096 : Int) < (n : Int)) = false := decide_eq_false (by omega)
  have hzz := hq.sizes
  by_cases hb1 : base ≤ 4611686018427387904
  case neg =>
    have f1 : decide ((4611686018427387904 : Int) < base) = true := decide_eq_true (by omega)
    have he : Hid (ofErr base ps = 2) := Lib.hid (by unfold ofErr; rw [if_pos (.inr (by omega))])
    clear hb1
    go_enter Tryz.func9, Tryz.ntmps9
    go_wp2_with fail
    go_ret2
    exact ⟨Below.refl _ _, .inr ⟨by rw [he.out]; decide, (by rw [he.out]; rfl)⟩⟩
  have f1 : decide ((4611686018427387904 : Int) < base) = false := decide_eq_false (by omega)
  cases hall : ps.all mayP
  case false =>
    have he : Hid (ofErr base ps = 2) := Lib.hid (by unfold ofErr; rw [if_pos (.inl hall)])
    rw [hall] at hcont
    clear hb1 hall
    go_enter Tryz.func9, Tryz.ntmps9
    go_wp2_with fail
    refine hcont.mono ?_
    rintro e w1 ⟨rfl, hbc⟩
    go_wp2_with fail
    go_ret2
    exact ⟨hbc, .inr ⟨by rw [he.out]; decide, (by rw [he.out]; rfl)⟩⟩
  rw [hall] at hcont
  have hmay : ∀ p ∈ ps, mayP p = true := fun p hp => List.all_eq_true.1 hall p hp
  have HE := Lib.hid (show ofErr base ps = if 2097152 < (ps.map szP).sum then 10 else 0 from by
    unfold ofErr
    rw [if_neg (by rw [hall]; intro h; rcases h with h | h; · cases h
                   · omega)]
    have hl := LX.out
    by_cases hs : 2097152 < (ps.map szP).sum
    · rw [if_pos (.inr hs), if_pos hs]
    · rw [if_neg (by intro h; rcases h with h | h; · omega
                     · exact hs h), if_neg hs])
  clear hall
  go_enter Tryz.func9, Tryz.ntmps9
  go_wp2_with fail
  refine hcont.mono ?_
  rintro e w1 ⟨rfl, hbc⟩
  go_wp2_with fail
  generalize hWN : w1.alloc _ = WN
  have hbN : Below w1.heap.size w1 WN := by rw [← hWN]; exact (Below.refl _ _).alloc (Nat.le_refl _) _
  have hatN : WN.heap[w1.heap.size]? = some (.cells #[.bool true, .int .u64 base, .slice none 0 0, .slice none 0 0] 84) := by rw [← hWN]; show (w1.heap.push _)[w1.heap.size]? = some _; exact Array.getElem?_push_size
  clear hWN
  have hgw := hbc.size
  have hbw := hbc.trans (hbN.mono hbc.size)
  obtain ⟨g, hg⟩ : ∃ g, w1.heap.size = g := ⟨_, rfl⟩
  rw [hg] at hatN hgw ⊢
  clear hbN hbc hg
  go_loopw [25] (fun p wr => ∃ k : Nat, k ≤ n ∧ p = .int .i64 (k : Int) ∧ OfG w g base ps k wr) (fun p _ => n - (intOf p).toNat)
  case atStart => exact ⟨0, Nat.zero_le _, rfl, _, _, [], ⟨⟨hatN, hgw, OwnO.of_own (World.ownsRow_nil _ _ _ _), OwnO.of_own (World.ownsRow_nil _ _ _ _)⟩, (fun q hq => by cases hq), (fun q hq => by cases hq), Iff.rfl⟩, by rw [List.take_zero]; exact Twins.nil, hbw⟩
  case round =>
    obtain ⟨k, hk, rfl, hO⟩ := hrel
    obtain ⟨l, s, qs, hL, htw, hbr⟩ := hO
    have hlk : qs.length = k := by rw [htw.1, List.length_take, LX.out]; omega
    obtain ⟨lo, lc, so, sc, e1, e2, hR⟩ := hL.rd
    rw [hlk] at e1 e2 hR
    subst e1 e2
    have hol := hL.log.own
    have hos := hL.log.owz
    rw [List.length_map, hlk] at hol hos
    have hgr := hL.log.lt
    by_cases hkn : k < n
    · obtain ⟨b1, o1, rfl, hl1, hc1⟩ := hx.some (by have := hx.le; omega)
      obtain ⟨p, hu⟩ : ∃ u, ps[k]? = some u := ⟨_, List.getElem?_eq_getElem (by rw [LX.out]; exact hkn)⟩
      have hpm := List.mem_of_getElem? hu
      have hop := opC_all w p.1.op p.2 (hq.ops p hpm)
      have hop1 : OpC p.1.op p.2 true (opBy p.1.op p.2) := by have := hmay p hpm; unfold mayP at this; rw [this] at hop; exact hop
      clear hop
      have hpo := hq.ops p hpm
      obtain ⟨c0, c1, c2, c3, c4, c5, c6, c7, c8⟩ := rcells (ps.map Prod.fst) k p.1 (map_at ps k p hu) (W := wr) (b := b1) (o := o1) (fun j x hj => (hbr.cell (p := ⟨b1, o1 + j, none⟩) hl1).trans (hc1 j x hj))
      have i0 : (0 : Int) ≤ (k : Int) := by omega
      have i1 : (k : Int) < (n : Int) := by omega
      have hat0 := hL.log.at_
      have Hlk := Lib.hid hlk
      clear hlk
      go_upto_region 9 with fail
      generalize hgw0 : wr.alloc _ = W0
      have e : wr.alloc p.1.box = W0 := by simp only [RV.box, RV.cells]; exact hgw0
      have hb0w : Below wr.heap.size wr W0 := by rw [← e]; exact (Below.refl _ _).alloc (Nat.le_refl _) _
      have k1 : W0.heap[wr.heap.size]? = some p.1.box := by rw [← e]; show (wr.heap.push _)[wr.heap.size]? = some _; exact Array.getElem?_push_size
      clear hgw0 e c0 c1 c2 c3 c4 c5 c6 c7 c8
      have t0 : InApp wr g base (.slice lo k lc) (.slice so k sc) p.1 W0.drew := ⟨k1, (hb0w.block g hgr).trans hat0⟩
      have hb4 : Below wr.heap.size wr W0.drew := hb0w.drew
      have hol4 := ownO_later hol hb4
      have hos4 := ownO_later hos hb4
      have hlne : some wr.heap.size ≠ (Value.slice lo k lc).ownBlock := fun e => by have := ownO_under hol _ e.symm; omega
      have hsne : some wr.heap.size ≠ (Value.slice so k sc).ownBlock := fun e => by have := ownO_under hos _ e.symm; omega
      have hgne : some g ≠ (Value.slice lo k lc).ownBlock := fun e => ownO_ne hat0 (by decide) hol e.symm
      have hgne2 : some g ≠ (Value.slice so k sc).ownBlock := fun e => ownO_ne hat0 (by decide) hos e.symm
      have hsl := rowsO_ne hos hol (by decide)
      have hpV := (hpo.in_).apart (k := (Value.slice lo k lc).ownBlock) (fun j hj => (hol.low j hj).1)
      have ho4 := ((hpo.later hbr).later hb4)
      have h1 := (hf p hpm).c0
      have h2 := (hf p hpm).n0
      have hbB := hbr.size
      have hszl := (szP_le (hq.ops p hpm)).2
      generalize hzb : szP p = zb at *
      have hzb2 : ((((opBy p.1.op p.2).length + 31 : Nat)) : Int) = zb := hzb
      have Hzb := Lib.hid hzb
      clear k1 hb0w hzb
      refine wp_region_T (k := 20) (S := InApp wr g base (.slice lo k lc) (.slice so k sc) p.1) hmo ?_
      change wpAnyT _ _ _ _ _ _ _ _ _ (World.drew W0)
      generalize W0.drew = V0 at *
      refine wpAnyT_take (i := 0) (v := .pointer (some ⟨g, 0, none⟩)) rfl (by kernel_rfl) (by kernel_rfl) (by kernel_rfl) (by kernel_rfl) (by decide) (by kernel_rfl) (by kernel_rfl) (fun _ _ _ h => h) (Or.inl ⟨by kernel_rfl, by intro _ _; kernel_rfl⟩) t0 ?_
      go_simp
      refine wpAnyT_take0 (i := 1) (v := .pointer (some ⟨g, 0, none⟩)) rfl (by kernel_rfl) (by kernel_rfl) (by kernel_rfl) (by decide) (fun _ _ _ h => h) (Or.inl ⟨by kernel_rfl, by intro w h; kernel_rfl⟩) (.inr t0) ?_
      go_simp
      refine wpAnyT_take (i := 2) (v := .pointer (some ⟨g, 0, none⟩)) rfl (by kernel_rfl) (by kernel_rfl) (by kernel_rfl) (by kernel_rfl) (by decide) (by kernel_rfl) (by kernel_rfl) (fun _ _ _ h => h) (Or.inl ⟨by kernel_rfl, by intro _ _; kernel_rfl⟩) t0 ?_
      go_simp
      refine wpAnyT_take (i := 3) (v := .pointer (some ⟨g, 0, none⟩)) rfl (by kernel_rfl) (by kernel_rfl) (by kernel_rfl) (by kernel_rfl) (by decide) (by kernel_rfl) (by kernel_rfl) (fun _ _ _ h => h) (Or.inl ⟨by kernel_rfl, by intro _ _; kernel_rfl⟩) t0 ?_
      go_simp
      refine wpAnyT_take (i := 4) (v := .pointer (some ⟨g, 2, none⟩)) rfl (by kernel_rfl) (by kernel_rfl) (by kernel_rfl) (by kernel_rfl) (by decide) (by kernel_rfl) (by kernel_rfl) (fun _ _ _ h => h) (Or.inl ⟨by kernel_rfl, by intro _ _; kernel_rfl⟩) t0 ?_
      go_simp
      refine wpAnyT_take (i := 5) (v := .slice lo k lc) rfl (by kernel_rfl) (by kernel_rfl) (by kernel_rfl) (by kernel_rfl) (by decide) (by kernel_rfl) (by kernel_rfl) (fun _ _ _ h => h) (Or.inl ⟨by kernel_rfl, by rintro w h; obtain ⟨c0, c1, c2, c3, c4, c5, c6, c7, c8, -⟩ := rbox_all h.1; obtain ⟨d2, d3⟩ := box_cells2 h; go_simp⟩) t0 ?_
      go_simp
      refine wpAnyT_take (i := 6) (v := .agg #[.int .u64 p.1.cl, .int .u64 p.1.nu, .int .i64 p.1.op.k, .string p.1.op.name, .string p.1.op.to, .slice p.1.op.ao p.1.op.an p.1.op.ac, .slice p.1.op.bo p.1.op.bn p.1.op.bc, .slice p.1.op.co p.1.op.cn p.1.op.cc, .int .i64 p.1.op.n]) rfl (by kernel_rfl) (by kernel_rfl) (by kernel_rfl) (by kernel_rfl) (by decide) (by kernel_rfl) (by kernel_rfl) (fun _ _ _ h => h) (Or.inl ⟨by kernel_rfl, by rintro w h; obtain ⟨c0, c1, c2, c3, c4, c5, c6, c7, c8, -⟩ := rbox_all h.1; obtain ⟨d2, d3⟩ := box_cells2 h; go_simp⟩) t0 ?_
      go_simp
      refine wpAnyT_take (i := 10) (v := .pointer (some ⟨g, 0, none⟩)) rfl (by kernel_rfl) (by kernel_rfl) (by kernel_rfl) (by kernel_rfl) (by decide) (by kernel_rfl) (by kernel_rfl) (fun _ _ _ h => h) (Or.inl ⟨by kernel_rfl, by intro _ _; kernel_rfl⟩) t0 ?_
      go_simp
      refine wpAnyT_take (i := 11) (v := .pointer (some ⟨g, 0, none⟩)) rfl (by kernel_rfl) (by kernel_rfl) (by kernel_rfl) (by kernel_rfl) (by decide) (by kernel_rfl) (by kernel_rfl) (fun _ _ _ h => h) (Or.inl ⟨by kernel_rfl, by intro _ _; kernel_rfl⟩) t0 ?_
      go_simp
      refine wpAnyT_take (i := 12) (v := .pointer (some ⟨g, 3, none⟩)) rfl (by kernel_rfl) (by kernel_rfl) (by kernel_rfl) (by kernel_rfl) (by decide) (by kernel_rfl) (by kernel_rfl) (fun _ _ _ h => h) (Or.inl ⟨by kernel_rfl, by intro _ _; kernel_rfl⟩) t0 ?_
      go_simp
      refine wpAnyT_take (i := 13) (v := .slice so k sc) rfl (by kernel_rfl) (by kernel_rfl) (by kernel_rfl) (by kernel_rfl) (by decide) (by kernel_rfl) (by kernel_rfl) (fun _ _ _ h => h) (Or.inl ⟨by kernel_rfl, by rintro w h; obtain ⟨c0, c1, c2, c3, c4, c5, c6, c7, c8, -⟩ := rbox_all h.1; obtain ⟨d2, d3⟩ := box_cells2 h; go_simp⟩) t0 ?_
      go_simp
      refine wpAnyT_take (i := 14) (v := .agg #[.int .u64 p.1.cl, .int .u64 p.1.nu, .int .i64 p.1.op.k, .string p.1.op.name, .string p.1.op.to, .slice p.1.op.ao p.1.op.an p.1.op.ac, .slice p.1.op.bo p.1.op.bn p.1.op.bc, .slice p.1.op.co p.1.op.cn p.1.op.cc, .int .i64 p.1.op.n]) rfl (by kernel_rfl) (by kernel_rfl) (by kernel_rfl) (by kernel_rfl) (by decide) (by kernel_rfl) (by kernel_rfl) (fun _ _ _ h => h) (Or.inl ⟨by kernel_rfl, by rintro w h; obtain ⟨c0, c1, c2, c3, c4, c5, c6, c7, c8, -⟩ := rbox_all h.1; obtain ⟨d2, d3⟩ := box_cells2 h; go_simp⟩) t0 ?_
      go_simp
      refine wpAnyT_all (rs := [7]) (by kernel_rfl) (by simp) (fun j hj => ?_)
      rw [List.mem_singleton] at hj
      subst hj
      refine wpOp_step rfl (fun K hK => ?_)
      go_simp
      have hcp := copyReq_any p.1 p.2 V0 ho4
      unfold RV.val RV.cells at hcp
      refine hcp.mono ?_
      rintro e V1 ⟨u, rfl, hcu, hou, hv1⟩
      have t1 := t0.step hv1
      simp only [RV.val, RV.cells]
      go_simp
      refine hK _ _ ⟨.inr t1, ?_⟩
      clear hK K
      refine wpAnyT_all (rs := [8]) (by kernel_rfl) (by simp) (fun j hj => ?_)
      rw [List.mem_singleton] at hj
      subst hj
      refine wpOp_step rfl (fun K hK => ?_)
      go_simp
      generalize hgw8 : V1.alloc _ = V1a
      have e8 : V1.alloc (.cells (RV.cells ⟨p.1.cl, p.1.nu, u⟩) 42) = V1a := by simp only [RV.cells]; exact hgw8
      have hb8 : Below V1.heap.size V1 V1a := by rw [← e8]; exact (Below.refl _ _).alloc (Nat.le_refl _) _
      have hr8 : Rd V1a 9 (some ⟨V1.heap.size, 0, none⟩) 1 1 (RV.cells ⟨p.1.cl, p.1.nu, u⟩).toList := by rw [← e8]; exact Rd.new V1 (RV.cells ⟨p.1.cl, p.1.nu, u⟩).toList 42 (0, 0) 9 1 (by simp [RV.cells]) (by decide)
      clear hgw8 e8
      have t2 := t1.step hb8
      refine hK _ _ ⟨.inr t2, ?_⟩
      clear hK K
      refine wpAnyT_all (rs := [9]) (by kernel_rfl) (by simp) (fun j hj => ?_)
      rw [List.mem_singleton] at hj
      subst hj
      refine wpOp_step rfl (fun K hK => ?_)
      refine step_appO rfl (.tmp 34) (.tmp 37) 23 rfl w.heap.size 42 zeroR.val 9 136 sliceT_req (.slice lo k lc) k (reqV (qs.map Prod.fst)) rfl (ownO_later (ownO_later hol4 hv1) hb8) ⟨V1.heap.size, 0, none⟩ 1 1 (RV.cells ⟨p.1.cl, p.1.nu, u⟩).toList rfl hr8 (cells_one _) (by unfold maxLen; omega) (by omega) (by have := hb4.size; have := hv1.size; have := hb8.size; omega) (by decide) ?_
      intro ao1 cap1 V2 own1 gr1 bel1 fr1 _ _
      have t3 := t2.grown gr1 (fun e => hlne e) (hgne)
      refine hK _ _ ⟨.inr t3, ?_⟩
      clear hK K
      refine wpAnyT_all (rs := [15]) (by kernel_rfl) (by simp) (fun j hj => ?_)
      rw [List.mem_singleton] at hj
      subst hj
      refine wpOp_step rfl (fun K hK => ?_)
      go_simp
      have hby2 := bytes_any p.1 p.2 _ V2 (((ho4.later hv1).later hb8).grownC gr1 hpV) hop1 h1 h2
      rw [hzb2] at hby2
      unfold RV.val RV.cells at hby2
      refine hby2.mono ?_
      rintro e V3 ⟨rfl, hv3⟩
      have t4 := t3.step hv3
      go_simp
      refine hK _ _ ⟨.inr t4, ?_⟩
      clear hK K
      refine wpAnyT_all (rs := [16]) (by kernel_rfl) (by simp) (fun j hj => ?_)
      rw [List.mem_singleton] at hj
      subst hj
      refine wpOp_step rfl (fun K hK => ?_)
      go_simp
      generalize hgw16 : V3.alloc _ = V3a
      have e16 : V3.alloc (.cells #[.int .i64 zb] 3) = V3a := hgw16
      have hb16 : Below V3.heap.size V3 V3a := by rw [← e16]; exact (Below.refl _ _).alloc (Nat.le_refl _) _
      have hr16 : Rd V3a 1 (some ⟨V3.heap.size, 0, none⟩) 1 1 [.int .i64 zb] := by rw [← e16]; exact Rd.new V3 [.int .i64 zb] 3 (0, 0) 1 1 rfl (by decide)
      clear hgw16 e16
      have t5 := t4.step hb16
      refine hK _ _ ⟨.inr t5, ?_⟩
      clear hK K
      refine wpAnyT_all (rs := [17]) (by kernel_rfl) (by simp) (fun j hj => ?_)
      rw [List.mem_singleton] at hj
      subst hj
      refine wpOp_step rfl (fun K hK => ?_)
      refine step_appO rfl (.tmp 42) (.tmp 45) 82 rfl w.heap.size 3 (.int .i64 0) 1 8 sliceT_int (.slice so k sc) k (intV (qs.map szP)) rfl (ownO_later (ownO_later (ownO_grown (ownO_later (ownO_later hos4 hv1) hb8) gr1 hsl) hv3) hb16) ⟨V3.heap.size, 0, none⟩ 1 1 [.int .i64 zb] rfl hr16 (one1 _ rfl) (by unfold maxLen; omega) (by omega) (by have := hb4.size; have := hv1.size; have := hb8.size; have := gr1.size; have := hv3.size; have := hb16.size; omega) (by decide) ?_
      intro ao2 cap2 V5 own2 gr2 bel2 fr2 _ _
      have t6 := t5.grown gr2 (fun e => hsne e) (hgne2)
      refine hK _ _ ⟨.inr t6, ?_⟩
      clear hK K
      refine wpAnyT_take (i := 18) (v := .pointer (some ⟨g, 0, none⟩)) rfl (by kernel_rfl) (by kernel_rfl) (by kernel_rfl) (by kernel_rfl) (by decide) (by kernel_rfl) (by kernel_rfl) (fun _ _ _ h => h) (Or.inl ⟨by kernel_rfl, by intro _ _; kernel_rfl⟩) t6 ?_
      go_simp
      refine wpAnyT_take (i := 19) (v := .pointer (some ⟨g, 2, none⟩)) rfl (by kernel_rfl) (by kernel_rfl) (by kernel_rfl) (by kernel_rfl) (by decide) (by kernel_rfl) (by kernel_rfl) (fun _ _ _ h => h) (Or.inl ⟨by kernel_rfl, by intro _ _; kernel_rfl⟩) t6 ?_
      go_simp
      have hat5 := t6.2
      have d2 : V5.cell? ⟨g, 2, none⟩ = some (.slice lo k lc) := by simp [World.cell?, hat5]
      have d3 : V5.cell? ⟨g, 3, none⟩ = some (.slice so k sc) := by simp [World.cell?, hat5]
      have dF : ∀ i, V5.frozen? ⟨g, i, none⟩ = false := by simp [World.frozen?, hat5]
      refine wpAnyT_last (by kernel_rfl) (by kernel_rfl) ?_
      refine wpAny_all (rs := [20]) (by kernel_rfl) (by simp) (fun j hj => ?_)
      rw [List.mem_singleton] at hj
      subst hj
      refine wpOp_step rfl (fun K hK => ?_)
      go_simp
      refine hK _ _ ?_
      clear hK K
      refine wpAny_all (rs := [21]) (by kernel_rfl) (by simp) (fun j hj => ?_)
      rw [List.mem_singleton] at hj
      subst hj
      refine wpOp_step rfl (fun K hK => ?_)
      go_simp
      refine hK _ _ ?_
      clear hK K
      refine wpAny_all (rs := [22]) (by kernel_rfl) (by simp) (fun j hj => ?_)
      rw [List.mem_singleton] at hj
      subst hj
      refine wpOp_step rfl (fun K hK => ?_)
      go_simp
      refine hK _ _ ?_
      clear hK K
      refine wpAny_all (rs := [23]) (by kernel_rfl) (by simp) (fun j hj => ?_)
      rw [List.mem_singleton] at hj
      subst hj
      refine wpOp_step rfl (fun K hK => ?_)
      go_simp
      refine hK _ _ ?_
      clear hK K
      refine wpAny_done (by kernel_rfl) ?_ _
      have q0 := hv1.size
      have q1 := hb8.size
      have q2 := gr1.size
      have q3 := hv3.size
      have q4 := hb16.size
      have q5 := gr2.size
      have qv := hb4.size
      have own1b := ownO_later (ownO_later own1 hv3) hb16
      have owzb := ownO_later (ownO_later (ownO_grown (ownO_later (ownO_later hos4 hv1) hb8) gr1 hsl) hv3) hb16
      have own5 := ownO_grown own1b gr2 (rowsO_ne own1b owzb (by decide))
      have hap2 := hcu.apart (fun j hj => ownO_under hol4 j hj)
      have hap3 := hcu.apart (fun j hj => ownO_under hos4 j hj)
      have hou5 := (((((hou.later hb8).grown gr1 hap2).later hv3).later hb16).grown gr2 hap3)
      have hgu : ∀ x : Addr, V0.heap.size ≤ x.block → x.block ≠ g := fun x hx => by omega
      have hou6 := (hou5.set ⟨g, 2, none⟩ (.slice ao1 (k + 1) cap1) (fun x hx => hgu x (hcu.fa x hx)) (fun x hx => hgu x (hcu.fb x hx)) (fun x hx => hgu x (hcu.fc x hx))).set ⟨g, 3, none⟩ (.slice ao2 (k + 1) cap2) (fun x hx => hgu x (hcu.fa x hx)) (fun x hx => hgu x (hcu.fb x hx)) (fun x hx => hgu x (hcu.fc x hx))
      have hne1 := ownO_ne hat5 (by decide) own5
      have hne2 := ownO_ne hat5 (by decide) own2
      have own6 := ownO_set (ownO_set own5 (a := ⟨g, 2, none⟩) hne1 (.slice ao1 (k + 1) cap1)) (a := ⟨g, 3, none⟩) hne1 (.slice ao2 (k + 1) cap2)
      have owz6 := ownO_set (ownO_set own2 (a := ⟨g, 2, none⟩) hne2 (.slice ao1 (k + 1) cap1)) (a := ⟨g, 3, none⟩) hne2 (.slice ao2 (k + 1) cap2)
      have hat6 := (at_set (i := 3) (x := .slice ao2 (k + 1) cap2) (at_set (i := 2) (x := .slice ao1 (k + 1) cap1) hat5)).trans (by kernel_rfl : _ = some (Obj.cells #[.bool true, .int .u64 base, .slice ao1 (k + 1) cap1, .slice ao2 (k + 1) cap2] 84))
      have hB5 : Below w.heap.size w V5 := by
        have x1 : Below w.heap.size w V1a := ((hbr.trans (hb4.mono (by omega))).trans (hv1.mono (by omega))).trans (hb8.mono (by omega))
        exact ((x1.trans bel1).trans ((hv3.mono (by omega)).trans (hb16.mono (by omega)))).trans bel2
      have hB6 := (hB5.setCell (p := ⟨g, 2, none⟩) hgw (.slice ao1 (k + 1) cap1)).setCell (p := ⟨g, 3, none⟩) hgw (.slice ao2 (k + 1) cap2)
      have hBut : ∀ j, j < wr.heap.size → j ≠ g → some j ≠ (Value.slice lo k lc).ownBlock → some j ≠ (Value.slice so k sc).ownBlock → ((V5.setCell ⟨g, 2, none⟩ (.slice ao1 (k + 1) cap1)).setCell ⟨g, 3, none⟩ (.slice ao2 (k + 1) cap2)).heap[j]? = wr.heap[j]? := fun j hj h1 h2 h3 =>
        (Below.heap_setCell _ _ _ _ h1).trans ((Below.heap_setCell _ _ _ _ h1).trans ((gr2.block j (by omega) h3).trans ((hb16.block j (by omega)).trans ((hv3.block j (by omega)).trans ((gr1.block j (by omega) h2).trans ((hb8.block j (by omega)).trans ((hv1.block j (by omega)).trans (hb4.block j hj))))))))
      have hsz6 : wr.heap.size ≤ ((V5.setCell ⟨g, 2, none⟩ (.slice ao1 (k + 1) cap1)).setCell ⟨g, 3, none⟩ (.slice ao2 (k + 1) cap2)).heap.size := by simp; omega
      have ht1 : ps.take (k + 1) = ps.take k ++ [p] := by
        obtain ⟨hl', he'⟩ := List.getElem?_eq_some_iff.1 hu
        rw [List.take_succ_eq_append_getElem hl', he']
      have htq : TwinP p (⟨p.1.cl, p.1.nu, u⟩, p.2) := ⟨rfl, rfl, hcu.alike, rfl⟩
      have hnext : OfG w g base ps (k + 1) ((V5.setCell ⟨g, 2, none⟩ (.slice ao1 (k + 1) cap1)).setCell ⟨g, 3, none⟩ (.slice ao2 (k + 1) cap2)) := by
        obtain ⟨m1, m2⟩ := map_snoc qs (⟨p.1.cl, p.1.nu, u⟩, p.2)
        refine ⟨_, _, qs ++ [(⟨p.1.cl, p.1.nu, u⟩, p.2)], ⟨⟨hat6, hgw, ?_, ?_⟩, ?_, ?_, ⟨fun h => absurd h (OwnO.pos own6 (by omega)), fun h => absurd h (OwnO.pos owz6 (by omega))⟩⟩, by rw [ht1]; exact htw.snoc htq, hB6⟩
        · rw [m1, List.length_append, List.length_map, Hlk.out, show reqV (qs.map Prod.fst ++ [(⟨p.1.cl, p.1.nu, u⟩ : RV)]) = reqV (qs.map Prod.fst) ++ (RV.cells ⟨p.1.cl, p.1.nu, u⟩).toList from by simp [reqV]]
          exact own6
        · rw [m1, m2, List.length_append, List.length_map, Hlk.out, htq.sz, Hzb.out, show intV (qs.map szP ++ [zb]) = intV (qs.map szP) ++ [.int .i64 zb] from by simp [intV]]
          exact owz6
        · intro q hq'
          rcases List.mem_append.1 hq' with hq' | hq'
          · exact (hL.ops q hq').but hsz6 (plog_cells hat0) hBut (hL.sep q hq').1 (hL.sep q hq').2
          · rw [List.mem_singleton] at hq'
            subst hq'
            exact hou6
        · intro q hq'
          rcases List.mem_append.1 hq' with hq' | hq'
          · have hin := (hL.ops q hq').in_
            obtain ⟨s1, s2⟩ := hL.sep q hq'
            refine ⟨ApartC.turn s1 hin (fun j hj => (fr1 j hj).imp id (fun h => by omega)), ApartC.turn s2 hin (fun j hj => (fr2 j hj).imp id (fun h => by omega))⟩
          · rw [List.mem_singleton] at hq'
            subst hq'
            have hin := hou.in_
            refine ⟨ApartC.turn (k := (Value.slice lo k lc).ownBlock) ⟨fun _ x hx => hap2.a x hx, fun _ x hx => hap2.b x hx, fun _ x hx => hap2.c x hx⟩ hin (fun j hj => (fr1 j hj).imp id (fun h => by omega)), ApartC.turn (k := (Value.slice so k sc).ownBlock) ⟨fun _ x hx => hap3.a x hx, fun _ x hx => hap3.b x hx, fun _ x hx => hap3.c x hx⟩ hin (fun j hj => (fr2 j hj).imp id (fun h => by omega))⟩
      have Hn := Lib.hid hnext
      clear hnext own6 owz6 own5 own1b owzb own1 own2 bel1 bel2 hB5 hB6 t0 t1 t2 t3 t4 t5 t6 d2 d3 dF hr8 hr16 hat5 hat6 ht1 hBut hsz6 fr1 fr2 hou5 hou6 hou hap2 hap3 hzb2 htq
      generalize (V5.setCell ⟨g, 2, none⟩ (.slice ao1 (k + 1) cap1)).setCell ⟨g, 3, none⟩ (.slice ao2 (k + 1) cap2) = V6 at *
      go_wp2_with fail
      go_roundw
      case rel => exact ⟨k + 1, by omega, by go_num, Hn.out⟩
      case measure => simp [intOf]; omega
    · have hkn2 : k = n := by omega
      subst hkn2
      have htw2 : Twins ps qs := by rw [List.take_of_length_le (by rw [LX.out]; omega)] at htw; exact htw
      have Htw := Lib.hid htw2
      have hzs := htw2.sizes
      have hzq : ∀ z ∈ qs.map szP, 0 ≤ z ∧ z ≤ 5000000 := by rw [hzs]; exact hzz
      have Hzs := Lib.hid hzs
      clear hos hol htw htw2 hzs
      by_cases hs : 2097152 < (ps.map szP).sum
      · have f6 : decide ((2097152 : Int) < (qs.map szP).sum) = true := decide_eq_true (by rw [Hzs.out]; exact hs)
        have He : Hid (ofErr base ps = 10) := Lib.hid (by rw [HE.out, if_pos hs])
        clear hs
        go_wp2_with fail
        refine (size_any true g base k _ _ _ _ (qs.map Prod.fst) (qs.map szP) wr hR (by omega) hzq).mono ?_
        rintro e w2 ⟨rfl, rfl⟩
        go_wp2_with fail
        go_ret2
        exact ⟨hbr, .inr ⟨by rw [He.out]; decide, (by rw [He.out]; rfl)⟩⟩
      · have f6 : decide ((2097152 : Int) < (qs.map szP).sum) = false := decide_eq_false (by rw [Hzs.out]; exact hs)
        have He : Hid (ofErr base ps = 0) := Lib.hid (by rw [HE.out, if_neg hs])
        clear hs
        go_wp2_with fail
        refine (size_any true g base k _ _ _ _ (qs.map Prod.fst) (qs.map szP) wr hR (by omega) hzq).mono ?_
        rintro e w2 ⟨rfl, rfl⟩
        go_wp2_with fail
        go_ret2
        exact ⟨hbr, .inl ⟨He.out, g, _, _, qs, rfl, hL, Htw.out⟩⟩
end Go.Proofs.YtghjgajgjhbjpaaGreat.Msg
