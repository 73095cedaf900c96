/-
  do: From by both logs.
  same: both logs look the same.
  small, few; do, of any act.
-/
import Derived.Test.YtghjgajgjhbjpaaGreatPx
namespace Go.Proofs.YtghjgajgjhbjpaaGreat.Msg
open Go.RowKit Go.Lib Go.Proofs.YtghjgajgjhbjpaaGreat.Mem Go.Proofs.YtghjgajgjhbjpaaGreat.Tlv

section
variable {B g g2 : Nat} {base : Int} {l s : Value} {lo : Option Addr} {n lc : Nat} {qs ps : List RP}
theorem twins_same {ps qs out : List RP} (h : Twins ps qs) (h' : Twins qs out) (i : Nat) (p o : RP) (hp : ps[i]? = some p) (ho : out[i]? = some o) : sameReq o.1 o.2 p.1 p.2 = true := by
  obtain ⟨q, hq, ht⟩ := h.at_ hp
  have ht' := h'.2 i q o hq ho
  exact TwinP.is_same ⟨ht'.cl.trans ht.cl, ht'.nu.trans ht.nu, ht.op.trans ht'.op, ht'.c.trans ht.c⟩
set_option maxRecDepth 100000 in
set_option maxHeartbeats 8000000 in
theorem do_from (an : Int) (r : RV) (c : OC) (w : World) (h : St B g g2 base l s lo n lc qs ps w) (ho : OpAt w r.op c) (hn : n ≤ 1000) (hb : base ≤ 5000000000000000000) :
    Calls Tryz.prog 11 #[.pointer (some ⟨g, 0, none⟩), .pointer (some ⟨g2, 0, none⟩), AV.val ⟨5, an, r⟩] w (GivesDo B g g2 (base + n + 1) (n + 1) l s n w) := by
  have hmo : Tryz.prog.follows .mixedOrders = true := by kernel_rfl
  have hgl := h.pl.log.lt
  have hBw : B ≤ w.heap.size := by have := h.pl.log.le; omega
  obtain ⟨x, hxx⟩ : ∃ x, IntKind.wrap .u64 (base + an) = x := ⟨_, rfl⟩
  simp only [AV.val, AV.cells]
  go_enter Tryz.func11, Tryz.ntmps11
  go_upto_region 1 with fail
  generalize hg0 : w.alloc _ = W0
  have e0 : w.alloc (AV.box ⟨5, an, r⟩) = W0 := by simp only [AV.box, AV.cells]; exact hg0
  have hb0 : Below w.heap.size w W0 := by rw [← e0]; exact (Below.refl _ _).alloc (Nat.le_refl _) _
  have k0 : W0.heap[w.heap.size]? = some (AV.box ⟨5, an, r⟩) := by rw [← e0]; show (w.heap.push _)[w.heap.size]? = some _; exact Array.getElem?_push_size
  clear hg0 e0
  have h0 := h.later hb0
  obtain ⟨d0, d1, -⟩ := (show RAtG g2 base lo n lc W0 from h0.rf.at_).cells
  obtain ⟨a0, a1, -⟩ := abox_all k0
  dsimp only at a0 a1
  go_quiet (fail)
  have hbq := below_drewN (Below.refl W0.heap.size W0) nq
  have kk1 : (W0.drewN nq).heap[w.heap.size]? = some (AV.box ⟨5, an, r⟩) := k0
  have hS := h0.later hbq
  have hbW := hb0.trans (hbq.mono hb0.size)
  have hoW := ho.later hbW
  clear d0 d1 a0 a1 k0 hbq h0 hb0
  generalize W0.drewN nq = W1 at *
  obtain ⟨a0, a1, a2, a3, a4, a5, a6, a7, a8, a9, a10, -⟩ := abox_all kk1
  dsimp only at a0 a1 a2 a3 a4 a5 a6 a7 a8 a9 a10
  have HX := Lib.hid hxx
  obtain ⟨hpl, hql⟩ := hS.len
  obtain ⟨lo', lc', so', sc', e1, e2, hR⟩ := hS.pl.rd
  rw [hql] at hR
  have HQL := Lib.hid hql
  have HPL := Lib.hid hpl
  clear hpl hql e1 e2 hxx hoW ho
  clear a0 a1 a2 a3 a4 a5 a6 a7 a8 a9 a10
  obtain ⟨a0, -⟩ := abox_all kk1
  dsimp only at a0
  by_cases hin : base ≤ x ∧ x ≤ base + n
  case neg =>
    have hno := from_no g base n lo' lc' so' sc' _ _ x W1 hR (by omega) hS.b0 (by omega) hin
    have hfal : (decide (base ≤ x) && decide (x ≤ base + n)) = false := by
      rw [Bool.and_eq_false_iff, decide_eq_false_iff_not, decide_eq_false_iff_not]; omega
    clear hin
    go_wp2_with fail
    refine hno.mono ?_
    rintro e w2 ⟨rfl, q, rfl⟩
    have hbq := below_drewN (Below.refl W1.heap.size W1) q
    have hS2 := hS.later hbq
    have hbW2 := hbW.trans (hbq.mono hbW.size)
    clear hbq a0
    generalize W1.drewN q = W2 at *
    have hri := rin_log g2 base lo n lc ps x W2 hS2.rf (by omega) hS2.b0 (by omega)
    rw [hfal] at hri
    go_wp2_with fail
    refine hri.mono ?_
    rintro e w3 ⟨rfl, q3, rfl⟩
    have hbq := below_drewN (Below.refl W2.heap.size W2) q3
    have hS3 := hS2.later hbq
    have hbW3 := hbW2.trans (hbq.mono hbW2.size)
    clear hbq
    generalize W2.drewN q3 = W3 at *
    go_wp2_with fail
    go_ret
    exact ⟨rfl, ⟨_, _, _, _, _, _, _, _, hS3, by omega, by omega, h.trans_id hbW3⟩, hbW3.mono hBw⟩
  obtain ⟨k, hk⟩ : ∃ k : Nat, x = base + (k : Nat) := ⟨(x - base).toNat, by omega⟩
  have hkn : k ≤ n := by omega
  have hcd := from_any x k hS.pl (by rw [HQL.out]; omega) hS.b0 (by omega) hk (by rw [HQL.out]; exact hkn)
  have hsub : IntKind.wrap .u64 (x - base) = (k : Nat) := by rw [hk, IntKind.wrap_u64]; omega
  have htru : (decide (base ≤ x) && decide (x ≤ base + n)) = true := by
    rw [Bool.and_eq_true, decide_eq_true_eq, decide_eq_true_eq]; exact hin
  have HK := Lib.hid hk
  have HM : Hid ((qs.drop k).length = n - k) := Lib.hid (by rw [List.length_drop, HQL.out])
  clear hin hk
  go_wp2_with fail
  refine hcd.mono ?_
  rintro e w2 ⟨ao, cap, out, rfl, hxq, htw, hb2⟩
  rw [HM.out] at hxq ⊢
  have hS2 := hS.later hb2
  have hbW2 := hbW.trans (hb2.mono hbW.size)
  have hri := rin_log g2 base lo n lc ps x w2 hS2.rf (by omega) hS2.b0 (by omega)
  rw [htru] at hri
  clear a0 hcd
  go_wp2_with fail
  refine hri.mono ?_
  rintro e w3 ⟨rfl, q3, rfl⟩
  have hbq := below_drewN (Below.refl w2.heap.size w2) q3
  have hS3 := hS2.later hbq
  have hx3 := hxq.later hbq
  have hbW3 := hbW2.trans (hbq.mono hbW2.size)
  clear hbq hri
  generalize w2.drewN q3 = W3 at *
  obtain ⟨d0, d1, -⟩ := (show RAtG g2 base lo n lc W3 from hS3.rf.at_).cells
  go_upto_region 28 with fail
  clear d0 d1
  have hbd : Below W3.heap.size W3 W3.drew := (Below.refl _ _).drew
  have hSV := hS3.later hbd
  have hxV := hx3.later hbd
  have hbV := hbW3.trans (hbd.mono hbW3.size)
  have s0 : RAtG g2 base lo n lc W3.drew := hSV.rf.at_
  clear hS3 hx3 hbW3 hbd hS2 hbW2 hxq hS hbW hb2 kk1 hR
  cases lo with
  | none =>
    have hl0 : lc = 0 := hSV.rf.rq.rd.2.2.2.1 rfl
    have hn0 : n = 0 := by have := hSV.rf.rq.rd.le; omega
    subst hl0
    subst hn0
    have hk0 : k = 0 := by omega
    subst hk0
    have HM0 : (0 - 0 : Nat) = 0 := rfl
    refine wp_region_held (S := RAtG g2 base none 0 0) hmo ?_
    change wpAnyH _ _ _ _ _ _ _ _ (World.drew W3)
    generalize W3.drew = V0 at *
    refine wpAnyH_take (i := 0) (v := .pointer (some ⟨g2, 0, none⟩)) rfl (by kernel_rfl) (by kernel_rfl) (by kernel_rfl) (fun _ _ _ h => h) (Or.inl ⟨by kernel_rfl, by intro _ _; kernel_rfl⟩) s0 ?_
    go_simp
    refine wpAnyH_take (i := 1) (v := .pointer (some ⟨g2, 0, none⟩)) rfl (by kernel_rfl) (by kernel_rfl) (by kernel_rfl) (fun _ _ _ h => h) (Or.inl ⟨by kernel_rfl, by intro _ _; kernel_rfl⟩) s0 ?_
    go_simp
    refine wpAnyH_take (i := 2) (v := .pointer (some ⟨g2, 1, none⟩)) rfl (by kernel_rfl) (by kernel_rfl) (by kernel_rfl) (fun _ _ _ h => h) (Or.inl ⟨by kernel_rfl, by intro _ _; kernel_rfl⟩) s0 ?_
    go_simp
    refine wpAnyH_take (i := 3) (v := .slice none 0 0) rfl (by kernel_rfl) (by kernel_rfl) (by kernel_rfl) (fun _ _ _ h => h) (Or.inl ⟨by kernel_rfl, by rintro w h; obtain ⟨c1, c2, -⟩ := h.cells; go_simp⟩) s0 ?_
    go_simp
    refine wpAnyH_take (i := 4) (v := .int .u64 x) rfl (by kernel_rfl) (by kernel_rfl) (by kernel_rfl) (fun _ _ _ h => h) (Or.inl ⟨by kernel_rfl, by intro _ _; kernel_rfl⟩) s0 ?_
    go_simp
    refine wpAnyH_take (i := 5) (v := .pointer (some ⟨g2, 0, none⟩)) rfl (by kernel_rfl) (by kernel_rfl) (by kernel_rfl) (fun _ _ _ h => h) (Or.inl ⟨by kernel_rfl, by intro _ _; kernel_rfl⟩) s0 ?_
    go_simp
    refine wpAnyH_take (i := 6) (v := .pointer (some ⟨g2, 0, none⟩)) rfl (by kernel_rfl) (by kernel_rfl) (by kernel_rfl) (fun _ _ _ h => h) (Or.inl ⟨by kernel_rfl, by intro _ _; kernel_rfl⟩) s0 ?_
    go_simp
    refine wpAnyH_take (i := 7) (v := .pointer (some ⟨g2, 0, none⟩)) rfl (by kernel_rfl) (by kernel_rfl) (by kernel_rfl) (fun _ _ _ h => h) (Or.inl ⟨by kernel_rfl, by intro _ _; kernel_rfl⟩) s0 ?_
    go_simp
    refine wpAnyH_take (i := 8) (v := .int .u64 base) rfl (by kernel_rfl) (by kernel_rfl) (by kernel_rfl) (fun _ _ _ h => h) (Or.inl ⟨by kernel_rfl, by rintro w h; obtain ⟨c1, c2, -⟩ := h.cells; go_simp⟩) s0 ?_
    go_simp
    refine wpAnyH_take (i := 9) (v := .int .u64 0) rfl (by kernel_rfl) (by kernel_rfl) (by kernel_rfl) (fun _ _ _ h => h) (Or.inl ⟨by kernel_rfl, by rintro w h; obtain ⟨c1, c2, -⟩ := h.cells; go_simp⟩) s0 ?_
    go_simp
    refine wpAnyH_take (i := 10) (v := .slice none 0 0) rfl (by kernel_rfl) (by kernel_rfl) (by kernel_rfl) (fun _ _ _ h => h) (Or.inl ⟨by kernel_rfl, by rintro w h; obtain ⟨c1, c2, -⟩ := h.cells; first | (go_simp; done) | (go_simp; omega)⟩) s0 ?_
    go_simp
    refine wpAnyH_take (i := 11) (v := .slice none 0 0) rfl (by kernel_rfl) (by kernel_rfl) (by kernel_rfl) (fun _ _ _ h => h) (Or.inl ⟨by kernel_rfl, by intro _ _; kernel_rfl⟩) s0 ?_
    go_simp
    refine wpAnyH_done (by kernel_rfl) ?_ _
    clear s0
    rw [HM0] at hxV
    clear HM0
    go_wp2_with fail
    go_loopw [21] (fun p wr => p = .int .i64 0 ∧ wr = V0) (fun p _ => 0)
    case atStart => exact ⟨rfl, rfl⟩
    case round =>
      obtain ⟨rfl, rfl⟩ := hrel
      go_wp2_with fail
      go_ret
      exact ⟨rfl, ⟨_, _, _, _, _, _, _, _, hSV, by omega, by omega, h.trans_id hbV⟩, hbV.mono hBw⟩
  | some b =>
    have hlc := hSV.rf.rq.rd.le
    have n0 : (0 : Int) ≤ (k : Int) := by omega
    have n1 : (k : Int) ≤ (n : Int) := by omega
    have n2 : (n : Int) ≤ (lc : Int) := by omega
    have n4 : (k : Int) ≤ (lc : Int) := by omega
    by_cases hkl : k < lc
    · obtain ⟨b1, o1, sp⟩ := b
      have hspn : sp = none := (hSV.rf.rq.rd.2.2.2.2 (by omega) _ rfl).1
      subst hspn
      refine wp_region_held (S := RAtG g2 base (some ⟨b1, o1, none⟩) n lc) hmo ?_
      change wpAnyH _ _ _ _ _ _ _ _ (World.drew W3)
      generalize W3.drew = V0 at *
      refine wpAnyH_take (i := 0) (v := .pointer (some ⟨g2, 0, none⟩)) rfl (by kernel_rfl) (by kernel_rfl) (by kernel_rfl) (fun _ _ _ h => h) (Or.inl ⟨by kernel_rfl, by intro _ _; kernel_rfl⟩) s0 ?_
      go_simp
      refine wpAnyH_take (i := 1) (v := .pointer (some ⟨g2, 0, none⟩)) rfl (by kernel_rfl) (by kernel_rfl) (by kernel_rfl) (fun _ _ _ h => h) (Or.inl ⟨by kernel_rfl, by intro _ _; kernel_rfl⟩) s0 ?_
      go_simp
      refine wpAnyH_take (i := 2) (v := .pointer (some ⟨g2, 1, none⟩)) rfl (by kernel_rfl) (by kernel_rfl) (by kernel_rfl) (fun _ _ _ h => h) (Or.inl ⟨by kernel_rfl, by intro _ _; kernel_rfl⟩) s0 ?_
      go_simp
      refine wpAnyH_take (i := 3) (v := .slice (some ⟨b1, o1, none⟩) n lc) rfl (by kernel_rfl) (by kernel_rfl) (by kernel_rfl) (fun _ _ _ h => h) (Or.inl ⟨by kernel_rfl, by rintro w h; obtain ⟨c1, c2, -⟩ := h.cells; go_simp⟩) s0 ?_
      go_simp
      refine wpAnyH_take (i := 4) (v := .int .u64 x) rfl (by kernel_rfl) (by kernel_rfl) (by kernel_rfl) (fun _ _ _ h => h) (Or.inl ⟨by kernel_rfl, by intro _ _; kernel_rfl⟩) s0 ?_
      go_simp
      refine wpAnyH_take (i := 5) (v := .pointer (some ⟨g2, 0, none⟩)) rfl (by kernel_rfl) (by kernel_rfl) (by kernel_rfl) (fun _ _ _ h => h) (Or.inl ⟨by kernel_rfl, by intro _ _; kernel_rfl⟩) s0 ?_
      go_simp
      refine wpAnyH_take (i := 6) (v := .pointer (some ⟨g2, 0, none⟩)) rfl (by kernel_rfl) (by kernel_rfl) (by kernel_rfl) (fun _ _ _ h => h) (Or.inl ⟨by kernel_rfl, by intro _ _; kernel_rfl⟩) s0 ?_
      go_simp
      refine wpAnyH_take (i := 7) (v := .pointer (some ⟨g2, 0, none⟩)) rfl (by kernel_rfl) (by kernel_rfl) (by kernel_rfl) (fun _ _ _ h => h) (Or.inl ⟨by kernel_rfl, by intro _ _; kernel_rfl⟩) s0 ?_
      go_simp
      refine wpAnyH_take (i := 8) (v := .int .u64 base) rfl (by kernel_rfl) (by kernel_rfl) (by kernel_rfl) (fun _ _ _ h => h) (Or.inl ⟨by kernel_rfl, by rintro w h; obtain ⟨c1, c2, -⟩ := h.cells; go_simp⟩) s0 ?_
      go_simp
      refine wpAnyH_take (i := 9) (v := .int .u64 (k : Int)) rfl (by kernel_rfl) (by kernel_rfl) (by kernel_rfl) (fun _ _ _ h => h) (Or.inl ⟨by kernel_rfl, by rintro w h; obtain ⟨c1, c2, -⟩ := h.cells; go_simp⟩) s0 ?_
      go_simp
      refine wpAnyH_take (i := 10) (v := .slice (some ⟨b1, o1 + k * 9, none⟩) (n - k) (lc - k)) rfl (by kernel_rfl) (by kernel_rfl) (by kernel_rfl) (fun _ _ _ h => h) (Or.inl ⟨by kernel_rfl, by rintro w h; obtain ⟨c1, c2, -⟩ := h.cells; first | (go_simp; done) | (go_simp; omega)⟩) s0 ?_
      go_simp
      refine wpAnyH_take (i := 11) (v := .slice (some ⟨b1, o1 + k * 9, none⟩) (n - k) (lc - k)) rfl (by kernel_rfl) (by kernel_rfl) (by kernel_rfl) (fun _ _ _ h => h) (Or.inl ⟨by kernel_rfl, by intro _ _; kernel_rfl⟩) s0 ?_
      go_simp
      refine wpAnyH_done (by kernel_rfl) ?_ _
      have hq2 : ReqsAt (some ⟨b1, o1 + k * 9, none⟩) (n - k) (lc - k) (ps.drop k) V0 := by
        have := rd_drop hSV.rf.rq.rd k hkn
        rw [← reqV_drop, ← List.map_drop] at this
        exact ⟨this, fun p hp => hSV.rf.rq.ops p (List.mem_of_mem_drop hp)⟩
      have hts := hSV.tw.drop k
      have hml : n - k ≤ 1000 := by omega
      clear s0 n0 n1 n2 n4 hkl hlc
      have hS0 := Lib.hid hSV
      have HKN := Lib.hid hkn
      clear hSV hkn HM
      generalize ps.drop k = ps2 at *
      generalize qs.drop k = qs2 at *
      generalize n - k = m at *
      generalize lc - k = c2 at *
      generalize o1 + k * 9 = o2 at *
      have LY := Lib.hid hq2.len
      have LX := Lib.hid hxV.len
      go_wp2_with fail
      go_loopw [21] (fun p wr => ∃ i : Nat, i ≤ m ∧ p = .int .i64 (i : Int) ∧ Below V0.heap.size V0 wr) (fun p _ => m - (intOf p).toNat)
      case atStart => exact ⟨0, Nat.zero_le _, rfl, Below.refl _ _⟩
      case round =>
        obtain ⟨i, hi, rfl, hbr⟩ := hrel
        by_cases him : i < m
        · obtain ⟨p, hp⟩ : ∃ p, ps2[i]? = some p := ⟨_, List.getElem?_eq_getElem (by rw [LY.out]; exact him)⟩
          obtain ⟨o, ho⟩ : ∃ o, out[i]? = some o := ⟨_, List.getElem?_eq_getElem (by rw [LX.out]; exact him)⟩
          obtain ⟨b3, o3, ea, hl3, hc3⟩ := hxV.rd.some (by have := hxV.rd.le; omega)
          subst ea
          obtain ⟨b4, o4, eb, hl4, hc4⟩ := hq2.rd.some (by have := hq2.rd.le; omega)
          cases eb
          have hX : ∀ W, Below V0.heap.size V0 W → _ := fun W hW => rcells (out.map Prod.fst) i o.1 (map_at out i o ho) (W := W) (b := b3) (o := o3) (fun j y hj => (hW.cell (p := ⟨b3, o3 + j, none⟩) hl3).trans (hc3 j y hj))
          have hY : ∀ W, Below V0.heap.size V0 W → _ := fun W hW => rcells (ps2.map Prod.fst) i p.1 (map_at ps2 i p hp) (W := W) (b := b1) (o := o2) (fun j y hj => (hW.cell (p := ⟨b1, o2 + j, none⟩) hl4).trans (hc4 j y hj))
          have hsm := fun W (hW : Below V0.heap.size V0 W) => rSameReq_any o.1 p.1 o.2 p.2 W ((hxV.ops o (List.mem_of_getElem? ho)).later hW) ((hq2.ops p (List.mem_of_getElem? hp)).later hW)
          rw [twins_same hts htw i p o hp ho] at hsm
          have i0 : (0 : Int) ≤ (i : Int) := by omega
          have i1 : (i : Int) < (m : Int) := by omega
          have hwi : IntKind.wrap .i64 ((i : Int) + 1) = (i : Int) + 1 := by rw [IntKind.wrap_i64]; omega
          clear hc3 hc4
          go_upto_region 34 with fail
          have t0 : Below V0.heap.size V0 wr.drew := hbr.drew
          refine wp_region_held (S := fun W => Below V0.heap.size V0 W) hmo ?_
          change wpAnyH _ _ _ _ _ _ _ _ (World.drew wr)
          generalize wr.drew = V1 at *
          refine wpAnyH_take (i := 0) (v := .slice (some ⟨b3, o3, none⟩) m cap) rfl (by kernel_rfl) (by kernel_rfl) (by kernel_rfl) (fun _ _ _ h => h) (Or.inl ⟨by kernel_rfl, by intro _ _; kernel_rfl⟩) t0 ?_
          go_simp
          refine wpAnyH_take (i := 1) (v := .int .i64 (i : Int)) rfl (by kernel_rfl) (by kernel_rfl) (by kernel_rfl) (fun _ _ _ h => h) (Or.inl ⟨by kernel_rfl, by intro _ _; kernel_rfl⟩) t0 ?_
          go_simp
          refine wpAnyH_take (i := 2) (v := .pointer (some ⟨b3, o3 + i * 9, none⟩)) rfl (by kernel_rfl) (by kernel_rfl) (by kernel_rfl) (fun _ _ _ h => h) (Or.inl ⟨by kernel_rfl, by rintro w h; obtain ⟨c0, c1, c2, c3, c4, c5, c6, c7, c8⟩ := hX w h; obtain ⟨d0, d1, d2, d3, d4, d5, d6, d7, d8⟩ := hY w h; go_simp⟩) t0 ?_
          go_simp
          refine wpAnyH_take (i := 3) (v := .agg #[.int .u64 o.1.cl, .int .u64 o.1.nu, .int .i64 o.1.op.k, .string o.1.op.name, .string o.1.op.to, .slice o.1.op.ao o.1.op.an o.1.op.ac, .slice o.1.op.bo o.1.op.bn o.1.op.bc, .slice o.1.op.co o.1.op.cn o.1.op.cc, .int .i64 o.1.op.n]) rfl (by kernel_rfl) (by kernel_rfl) (by kernel_rfl) (fun _ _ _ h => h) (Or.inl ⟨by kernel_rfl, by rintro w h; obtain ⟨c0, c1, c2, c3, c4, c5, c6, c7, c8⟩ := hX w h; obtain ⟨d0, d1, d2, d3, d4, d5, d6, d7, d8⟩ := hY w h; go_simp⟩) t0 ?_
          go_simp
          refine wpAnyH_take (i := 4) (v := .slice (some ⟨b1, o2, none⟩) m c2) rfl (by kernel_rfl) (by kernel_rfl) (by kernel_rfl) (fun _ _ _ h => h) (Or.inl ⟨by kernel_rfl, by intro _ _; kernel_rfl⟩) t0 ?_
          go_simp
          refine wpAnyH_take (i := 5) (v := .int .i64 (i : Int)) rfl (by kernel_rfl) (by kernel_rfl) (by kernel_rfl) (fun _ _ _ h => h) (Or.inl ⟨by kernel_rfl, by intro _ _; kernel_rfl⟩) t0 ?_
          go_simp
          refine wpAnyH_take (i := 6) (v := .pointer (some ⟨b1, o2 + i * 9, none⟩)) rfl (by kernel_rfl) (by kernel_rfl) (by kernel_rfl) (fun _ _ _ h => h) (Or.inl ⟨by kernel_rfl, by rintro w h; obtain ⟨c0, c1, c2, c3, c4, c5, c6, c7, c8⟩ := hX w h; obtain ⟨d0, d1, d2, d3, d4, d5, d6, d7, d8⟩ := hY w h; go_simp⟩) t0 ?_
          go_simp
          refine wpAnyH_take (i := 7) (v := .agg #[.int .u64 p.1.cl, .int .u64 p.1.nu, .int .i64 p.1.op.k, .string p.1.op.name, .string p.1.op.to, .slice p.1.op.ao p.1.op.an p.1.op.ac, .slice p.1.op.bo p.1.op.bn p.1.op.bc, .slice p.1.op.co p.1.op.cn p.1.op.cc, .int .i64 p.1.op.n]) rfl (by kernel_rfl) (by kernel_rfl) (by kernel_rfl) (fun _ _ _ h => h) (Or.inl ⟨by kernel_rfl, by rintro w h; obtain ⟨c0, c1, c2, c3, c4, c5, c6, c7, c8⟩ := hX w h; obtain ⟨d0, d1, d2, d3, d4, d5, d6, d7, d8⟩ := hY w h; go_simp⟩) t0 ?_
          go_simp
          refine wpAnyH_all (rs := [8]) (by kernel_rfl) (by simp) (fun j hj => ?_)
          rw [List.mem_singleton] at hj
          subst hj
          refine wpOp_step rfl (fun K hK => ?_)
          go_simp
          have hs2 := hsm V1 t0
          simp only [RV.val, RV.cells] at hs2
          refine hs2.mono ?_
          rintro e V2 ⟨rfl, hb2⟩
          have t1 : Below V0.heap.size V0 V2 := t0.trans (hb2.mono t0.size)
          go_simp
          refine hK _ _ ⟨t1, ?_⟩
          clear hK K
          refine wpAnyH_take (i := 9) (v := .bool false) rfl (by kernel_rfl) (by kernel_rfl) (by kernel_rfl) (fun _ _ _ h => h) (Or.inl ⟨by kernel_rfl, by rintro w h; obtain ⟨c0, c1, c2, c3, c4, c5, c6, c7, c8⟩ := hX w h; obtain ⟨d0, d1, d2, d3, d4, d5, d6, d7, d8⟩ := hY w h; go_simp⟩) t1 ?_
          go_simp
          refine wpAnyH_done (by kernel_rfl) ?_ _
          clear hX hY hsm
          go_wp2_with fail
          go_roundw
          case rel => exact ⟨i + 1, by omega, by go_num, t1⟩
          case measure => simp [intOf]; omega
        · have him2 : i = m := by omega
          subst him2
          have hS4 := hS0.out.later hbr
          have hbW4 := hbV.trans (hbr.mono hbV.size)
          go_wp2_with fail
          go_ret
          exact ⟨rfl, ⟨_, _, _, _, _, _, _, _, hS4, by omega, by omega, h.trans_id hbW4⟩, hbW4.mono hBw⟩
    · have e3 : lc = k := by omega
      have e4 : n = k := by omega
      subst e3
      subst e4
      have HM0 : n - n = 0 := Nat.sub_self n
      refine wp_region_held (S := RAtG g2 base (some b) n n) hmo ?_
      change wpAnyH _ _ _ _ _ _ _ _ (World.drew W3)
      generalize W3.drew = V0 at *
      refine wpAnyH_take (i := 0) (v := .pointer (some ⟨g2, 0, none⟩)) rfl (by kernel_rfl) (by kernel_rfl) (by kernel_rfl) (fun _ _ _ h => h) (Or.inl ⟨by kernel_rfl, by intro _ _; kernel_rfl⟩) s0 ?_
      go_simp
      refine wpAnyH_take (i := 1) (v := .pointer (some ⟨g2, 0, none⟩)) rfl (by kernel_rfl) (by kernel_rfl) (by kernel_rfl) (fun _ _ _ h => h) (Or.inl ⟨by kernel_rfl, by intro _ _; kernel_rfl⟩) s0 ?_
      go_simp
      refine wpAnyH_take (i := 2) (v := .pointer (some ⟨g2, 1, none⟩)) rfl (by kernel_rfl) (by kernel_rfl) (by kernel_rfl) (fun _ _ _ h => h) (Or.inl ⟨by kernel_rfl, by intro _ _; kernel_rfl⟩) s0 ?_
      go_simp
      refine wpAnyH_take (i := 3) (v := .slice (some b) n n) rfl (by kernel_rfl) (by kernel_rfl) (by kernel_rfl) (fun _ _ _ h => h) (Or.inl ⟨by kernel_rfl, by rintro w h; obtain ⟨c1, c2, -⟩ := h.cells; go_simp⟩) s0 ?_
      go_simp
      refine wpAnyH_take (i := 4) (v := .int .u64 x) rfl (by kernel_rfl) (by kernel_rfl) (by kernel_rfl) (fun _ _ _ h => h) (Or.inl ⟨by kernel_rfl, by intro _ _; kernel_rfl⟩) s0 ?_
      go_simp
      refine wpAnyH_take (i := 5) (v := .pointer (some ⟨g2, 0, none⟩)) rfl (by kernel_rfl) (by kernel_rfl) (by kernel_rfl) (fun _ _ _ h => h) (Or.inl ⟨by kernel_rfl, by intro _ _; kernel_rfl⟩) s0 ?_
      go_simp
      refine wpAnyH_take (i := 6) (v := .pointer (some ⟨g2, 0, none⟩)) rfl (by kernel_rfl) (by kernel_rfl) (by kernel_rfl) (fun _ _ _ h => h) (Or.inl ⟨by kernel_rfl, by intro _ _; kernel_rfl⟩) s0 ?_
      go_simp
      refine wpAnyH_take (i := 7) (v := .pointer (some ⟨g2, 0, none⟩)) rfl (by kernel_rfl) (by kernel_rfl) (by kernel_rfl) (fun _ _ _ h => h) (Or.inl ⟨by kernel_rfl, by intro _ _; kernel_rfl⟩) s0 ?_
      go_simp
      refine wpAnyH_take (i := 8) (v := .int .u64 base) rfl (by kernel_rfl) (by kernel_rfl) (by kernel_rfl) (fun _ _ _ h => h) (Or.inl ⟨by kernel_rfl, by rintro w h; obtain ⟨c1, c2, -⟩ := h.cells; go_simp⟩) s0 ?_
      go_simp
      refine wpAnyH_take (i := 9) (v := .int .u64 (n : Int)) rfl (by kernel_rfl) (by kernel_rfl) (by kernel_rfl) (fun _ _ _ h => h) (Or.inl ⟨by kernel_rfl, by rintro w h; obtain ⟨c1, c2, -⟩ := h.cells; go_simp⟩) s0 ?_
      go_simp
      refine wpAnyH_take (i := 10) (v := .slice (some b) 0 0) rfl (by kernel_rfl) (by kernel_rfl) (by kernel_rfl) (fun _ _ _ h => h) (Or.inl ⟨by kernel_rfl, by rintro w h; obtain ⟨c1, c2, -⟩ := h.cells; first | (go_simp; done) | (go_simp; omega)⟩) s0 ?_
      go_simp
      refine wpAnyH_take (i := 11) (v := .slice (some b) 0 0) rfl (by kernel_rfl) (by kernel_rfl) (by kernel_rfl) (fun _ _ _ h => h) (Or.inl ⟨by kernel_rfl, by intro _ _; kernel_rfl⟩) s0 ?_
      go_simp
      refine wpAnyH_done (by kernel_rfl) ?_ _
      clear s0
      rw [HM0] at hxV
      clear HM0
      go_wp2_with fail
      go_loopw [21] (fun p wr => p = .int .i64 0 ∧ wr = V0) (fun p _ => 0)
      case atStart => exact ⟨rfl, rfl⟩
      case round =>
        obtain ⟨rfl, rfl⟩ := hrel
        go_wp2_with fail
        go_ret
        exact ⟨rfl, ⟨_, _, _, _, _, _, _, _, hSV, by omega, by omega, h.trans_id hbV⟩, hbV.mono hBw⟩
end
end Go.Proofs.YtghjgajgjhbjpaaGreat.Msg
namespace Go.Proofs.YtghjgajgjhbjpaaGreat.Msg
open Go.RowKit Go.Lib Go.Proofs.YtghjgajgjhbjpaaGreat.Mem Go.Proofs.YtghjgajgjhbjpaaGreat.Tlv

section
variable {B g g2 : Nat} {base : Int} {l s : Value} {lo : Option Addr} {n lc : Nat} {qs ps : List RP} {W : World}
theorem St.logr (h : St B g g2 base l s lo n lc qs ps W) : ∃ lo' lc' so' sc', ∀ W', St B g g2 base l s lo n lc qs ps W' → LogR true g base n lo' lc' so' sc' (qs.map Prod.fst) (qs.map szP) W' := by
  obtain ⟨lo', lc', so', sc', e1, e2, -⟩ := h.pl.rd
  refine ⟨lo', lc', so', sc', fun W' h' => ?_⟩
  obtain ⟨a, b, c, d, f1, f2, hR⟩ := h'.pl.rd
  rw [e1] at f1
  rw [e2] at f2
  cases f1
  cases f2
  rw [h'.len.2] at hR
  exact hR

set_option maxRecDepth 100000 in
set_option maxHeartbeats 8000000 in
theorem same_any (w : World) (h : St B g g2 base l s lo n lc qs ps w) (hn : n ≤ 1000) (hb : base ≤ 6000000000000000000) :
    Calls Tryz.prog 12 #[.pointer (some ⟨g, 0, none⟩), .pointer (some ⟨g2, 0, none⟩)] w fun e w' => e = .returned (.bool true) ∧ St B g g2 base l s lo n lc qs ps w' ∧ Below w.heap.size w w' := by
  have hmo : Tryz.prog.follows .mixedOrders = true := by kernel_rfl
  obtain ⟨lo', lc', so', sc', hL⟩ := h.logr
  obtain ⟨hpl, hql⟩ := h.len
  have HPL := Lib.hid hpl
  have HQL := Lib.hid hql
  have hzs := h.tw.sizes
  have hzq := h.pl.sizes
  have hrs := fun W (hW : St B g g2 base l s lo n lc qs ps W) => rsize_log g2 base lo n lc ps W hW.rf (by omega) h.may h.fit
  rw [← hzs] at hrs
  have hb0 := h.b0
  generalize qs.map szP = zs at *
  clear hpl hql hzs
  go_enter Tryz.func12, Tryz.ntmps12
  go_upto_region 1 with fail
  refine wp_region_held (S := fun W => St B g g2 base l s lo n lc qs ps W ∧ Below w.heap.size w W) hmo ?_
  change wpAnyH _ _ _ _ _ _ _ _ (World.drew w)
  have s0 : St B g g2 base l s lo n lc qs ps w.drew ∧ Below w.heap.size w w.drew := ⟨h.later (Below.refl _ _).drew, (Below.refl _ _).drew⟩
  generalize w.drew = V0 at *
  refine wpAnyH_take (i := 0) (v := .pointer (some ⟨g, 0, none⟩)) rfl (by kernel_rfl) (by kernel_rfl) (by kernel_rfl) (fun _ _ _ h => h) (Or.inl ⟨by kernel_rfl, by intro _ _; kernel_rfl⟩) s0 ?_
  go_simp
  refine wpAnyH_take (i := 2) (v := .pointer (some ⟨g2, 0, none⟩)) rfl (by kernel_rfl) (by kernel_rfl) (by kernel_rfl) (fun _ _ _ h => h) (Or.inl ⟨by kernel_rfl, by intro _ _; kernel_rfl⟩) s0 ?_
  go_simp
  refine wpAnyH_take (i := 3) (v := .pointer (some ⟨g2, 0, none⟩)) rfl (by kernel_rfl) (by kernel_rfl) (by kernel_rfl) (fun _ _ _ h => h) (Or.inl ⟨by kernel_rfl, by intro _ _; kernel_rfl⟩) s0 ?_
  go_simp
  refine wpAnyH_take (i := 4) (v := .pointer (some ⟨g2, 0, none⟩)) rfl (by kernel_rfl) (by kernel_rfl) (by kernel_rfl) (fun _ _ _ h => h) (Or.inl ⟨by kernel_rfl, by intro _ _; kernel_rfl⟩) s0 ?_
  go_simp
  refine wpAnyH_take (i := 5) (v := .int .u64 base) rfl (by kernel_rfl) (by kernel_rfl) (by kernel_rfl) (fun _ _ _ h => h) (Or.inl ⟨by kernel_rfl, by rintro w h; obtain ⟨c1, c2, -⟩ := (show RAtG g2 base lo n lc w from h.1.rf.at_).cells; go_simp⟩) s0 ?_
  go_simp
  refine wpAnyH_all (rs := [1]) (by kernel_rfl) (by simp) (fun j hj => ?_)
  rw [List.mem_singleton] at hj
  subst hj
  refine wpOp_step rfl (fun K hK => ?_)
  go_simp
  refine (base_any true g base n lo' lc' so' sc' _ zs V0 (hL _ s0.1)).mono ?_
  rintro e V1 ⟨rfl, rfl⟩
  have s1 := s0
  go_simp
  refine hK _ _ ⟨s1, ?_⟩
  clear hK K
  refine wpAnyH_take (i := 6) (v := .bool false) rfl (by kernel_rfl) (by kernel_rfl) (by kernel_rfl) (fun _ _ _ h => h) (Or.inl ⟨by kernel_rfl, by rintro w h; obtain ⟨c1, c2, -⟩ := (show RAtG g2 base lo n lc w from h.1.rf.at_).cells; go_simp⟩) s1 ?_
  go_simp
  refine wpAnyH_take (i := 7) (v := .bool false) rfl (by kernel_rfl) (by kernel_rfl) (by kernel_rfl) (fun _ _ _ h => h) (Or.inl ⟨by kernel_rfl, by intro _ _; kernel_rfl⟩) s1 ?_
  go_simp
  refine wpAnyH_take (i := 8) (v := .pointer (some ⟨g, 0, none⟩)) rfl (by kernel_rfl) (by kernel_rfl) (by kernel_rfl) (fun _ _ _ h => h) (Or.inl ⟨by kernel_rfl, by intro _ _; kernel_rfl⟩) s1 ?_
  go_simp
  refine wpAnyH_take (i := 10) (v := .pointer (some ⟨g2, 0, none⟩)) rfl (by kernel_rfl) (by kernel_rfl) (by kernel_rfl) (fun _ _ _ h => h) (Or.inl ⟨by kernel_rfl, by intro _ _; kernel_rfl⟩) s1 ?_
  go_simp
  refine wpAnyH_all (rs := [9]) (by kernel_rfl) (by simp) (fun j hj => ?_)
  rw [List.mem_singleton] at hj
  subst hj
  refine wpOp_step rfl (fun K hK => ?_)
  go_simp
  refine (end_any true g base n lo' lc' so' sc' _ zs V1 (hL _ s1.1) (by omega) hb0 (by omega)).mono ?_
  rintro e w9 ⟨rfl, q9, rfl⟩
  have hb9 := below_drewN (Below.refl V1.heap.size V1) q9
  have s2 : St B g g2 base l s lo n lc qs ps (V1.drewN q9) ∧ Below w.heap.size w (V1.drewN q9) := ⟨s1.1.later hb9, s1.2.trans (hb9.mono s1.2.size)⟩
  clear hb9
  generalize V1.drewN q9 = V2 at *
  go_simp
  refine hK _ _ ⟨s2, ?_⟩
  clear hK K
  refine wpAnyH_all (rs := [11]) (by kernel_rfl) (by simp) (fun j hj => ?_)
  rw [List.mem_singleton] at hj
  subst hj
  refine wpOp_step rfl (fun K hK => ?_)
  go_simp
  refine (rend_log g2 base lo n lc ps V2 s2.1.rf (by omega) hb0 (by omega)).mono ?_
  rintro e w9 ⟨rfl, q9, rfl⟩
  have hb9 := below_drewN (Below.refl V2.heap.size V2) q9
  have s3 : St B g g2 base l s lo n lc qs ps (V2.drewN q9) ∧ Below w.heap.size w (V2.drewN q9) := ⟨s2.1.later hb9, s2.2.trans (hb9.mono s2.2.size)⟩
  clear hb9
  generalize V2.drewN q9 = V3 at *
  go_simp
  refine hK _ _ ⟨s3, ?_⟩
  clear hK K
  refine wpAnyH_take (i := 12) (v := .bool false) rfl (by kernel_rfl) (by kernel_rfl) (by kernel_rfl) (fun _ _ _ h => h) (Or.inl ⟨by kernel_rfl, by rintro w h; obtain ⟨c1, c2, -⟩ := (show RAtG g2 base lo n lc w from h.1.rf.at_).cells; go_simp⟩) s3 ?_
  go_simp
  refine wpAnyH_take (i := 13) (v := .bool false) rfl (by kernel_rfl) (by kernel_rfl) (by kernel_rfl) (fun _ _ _ h => h) (Or.inl ⟨by kernel_rfl, by intro _ _; kernel_rfl⟩) s3 ?_
  go_simp
  refine wpAnyH_take (i := 14) (v := .bool false) rfl (by kernel_rfl) (by kernel_rfl) (by kernel_rfl) (fun _ _ _ h => h) (Or.inl ⟨by kernel_rfl, by intro _ _; kernel_rfl⟩) s3 ?_
  go_simp
  refine wpAnyH_take (i := 15) (v := .pointer (some ⟨g, 0, none⟩)) rfl (by kernel_rfl) (by kernel_rfl) (by kernel_rfl) (fun _ _ _ h => h) (Or.inl ⟨by kernel_rfl, by intro _ _; kernel_rfl⟩) s3 ?_
  go_simp
  refine wpAnyH_take (i := 17) (v := .pointer (some ⟨g2, 0, none⟩)) rfl (by kernel_rfl) (by kernel_rfl) (by kernel_rfl) (fun _ _ _ h => h) (Or.inl ⟨by kernel_rfl, by intro _ _; kernel_rfl⟩) s3 ?_
  go_simp
  refine wpAnyH_take (i := 18) (v := .pointer (some ⟨g2, 0, none⟩)) rfl (by kernel_rfl) (by kernel_rfl) (by kernel_rfl) (fun _ _ _ h => h) (Or.inl ⟨by kernel_rfl, by intro _ _; kernel_rfl⟩) s3 ?_
  go_simp
  refine wpAnyH_take (i := 19) (v := .pointer (some ⟨g2, 1, none⟩)) rfl (by kernel_rfl) (by kernel_rfl) (by kernel_rfl) (fun _ _ _ h => h) (Or.inl ⟨by kernel_rfl, by intro _ _; kernel_rfl⟩) s3 ?_
  go_simp
  refine wpAnyH_take (i := 20) (v := .slice lo n lc) rfl (by kernel_rfl) (by kernel_rfl) (by kernel_rfl) (fun _ _ _ h => h) (Or.inl ⟨by kernel_rfl, by rintro w h; obtain ⟨c1, c2, -⟩ := (show RAtG g2 base lo n lc w from h.1.rf.at_).cells; go_simp⟩) s3 ?_
  go_simp
  refine wpAnyH_take (i := 21) (v := .int .i64 (n : Int)) rfl (by kernel_rfl) (by kernel_rfl) (by kernel_rfl) (fun _ _ _ h => h) (Or.inl ⟨by kernel_rfl, by rintro w h; obtain ⟨c1, c2, -⟩ := (show RAtG g2 base lo n lc w from h.1.rf.at_).cells; go_simp⟩) s3 ?_
  go_simp
  refine wpAnyH_all (rs := [16]) (by kernel_rfl) (by simp) (fun j hj => ?_)
  rw [List.mem_singleton] at hj
  subst hj
  refine wpOp_step rfl (fun K hK => ?_)
  go_simp
  refine (len_any true g base n lo' lc' so' sc' _ zs V3 (hL _ s3.1)).mono ?_
  rintro e V4 ⟨rfl, rfl⟩
  have s4 := s3
  go_simp
  refine hK _ _ ⟨s4, ?_⟩
  clear hK K
  refine wpAnyH_take (i := 22) (v := .bool false) rfl (by kernel_rfl) (by kernel_rfl) (by kernel_rfl) (fun _ _ _ h => h) (Or.inl ⟨by kernel_rfl, by rintro w h; obtain ⟨c1, c2, -⟩ := (show RAtG g2 base lo n lc w from h.1.rf.at_).cells; go_simp⟩) s4 ?_
  go_simp
  refine wpAnyH_take (i := 23) (v := .bool false) rfl (by kernel_rfl) (by kernel_rfl) (by kernel_rfl) (fun _ _ _ h => h) (Or.inl ⟨by kernel_rfl, by intro _ _; kernel_rfl⟩) s4 ?_
  go_simp
  refine wpAnyH_take (i := 24) (v := .bool false) rfl (by kernel_rfl) (by kernel_rfl) (by kernel_rfl) (fun _ _ _ h => h) (Or.inl ⟨by kernel_rfl, by intro _ _; kernel_rfl⟩) s4 ?_
  go_simp
  refine wpAnyH_take (i := 25) (v := .pointer (some ⟨g, 0, none⟩)) rfl (by kernel_rfl) (by kernel_rfl) (by kernel_rfl) (fun _ _ _ h => h) (Or.inl ⟨by kernel_rfl, by intro _ _; kernel_rfl⟩) s4 ?_
  go_simp
  refine wpAnyH_take (i := 27) (v := .pointer (some ⟨g2, 0, none⟩)) rfl (by kernel_rfl) (by kernel_rfl) (by kernel_rfl) (fun _ _ _ h => h) (Or.inl ⟨by kernel_rfl, by intro _ _; kernel_rfl⟩) s4 ?_
  go_simp
  refine wpAnyH_all (rs := [26]) (by kernel_rfl) (by simp) (fun j hj => ?_)
  rw [List.mem_singleton] at hj
  subst hj
  refine wpOp_step rfl (fun K hK => ?_)
  go_simp
  refine (size_any true g base n lo' lc' so' sc' _ zs V4 (hL _ s4.1) (by omega) hzq).mono ?_
  rintro e V5 ⟨rfl, rfl⟩
  have s5 := s4
  go_simp
  refine hK _ _ ⟨s5, ?_⟩
  clear hK K
  refine wpAnyH_all (rs := [28]) (by kernel_rfl) (by simp) (fun j hj => ?_)
  rw [List.mem_singleton] at hj
  subst hj
  refine wpOp_step rfl (fun K hK => ?_)
  go_simp
  refine (hrs V5 s5.1).mono ?_
  rintro e V6 ⟨rfl, hb9⟩
  have s6 : St B g g2 base l s lo n lc qs ps V6 ∧ Below w.heap.size w V6 := ⟨s5.1.later hb9, s5.2.trans (hb9.mono s5.2.size)⟩
  clear hb9
  go_simp
  refine hK _ _ ⟨s6, ?_⟩
  clear hK K
  refine wpAnyH_take (i := 29) (v := .bool false) rfl (by kernel_rfl) (by kernel_rfl) (by kernel_rfl) (fun _ _ _ h => h) (Or.inl ⟨by kernel_rfl, by rintro w h; obtain ⟨c1, c2, -⟩ := (show RAtG g2 base lo n lc w from h.1.rf.at_).cells; go_simp⟩) s6 ?_
  go_simp
  refine wpAnyH_take (i := 30) (v := .bool false) rfl (by kernel_rfl) (by kernel_rfl) (by kernel_rfl) (fun _ _ _ h => h) (Or.inl ⟨by kernel_rfl, by intro _ _; kernel_rfl⟩) s6 ?_
  go_simp
  refine wpAnyH_done (by kernel_rfl) ?_ _
  obtain ⟨hSv, hBv⟩ := s6
  go_wp2_with fail
  go_loopw [5] (fun p wr => ∃ i : Nat, i ≤ n ∧ p = .int .i64 (i : Int) ∧ St B g g2 base l s lo n lc qs ps wr ∧ Below w.heap.size w wr) (fun p _ => n - (intOf p).toNat)
  case atStart => exact ⟨0, Nat.zero_le _, rfl, hSv, hBv⟩
  case round =>
    obtain ⟨i, hi, rfl, hSr, hbr⟩ := hrel
    obtain ⟨d0, d1, -⟩ := (show RAtG g2 base lo n lc wr from hSr.rf.at_).cells
    by_cases hin : i < n
    · obtain ⟨p, hp⟩ : ∃ p, ps[i]? = some p := ⟨_, List.getElem?_eq_getElem (by rw [HPL.out]; exact hin)⟩
      obtain ⟨q, hq, htp⟩ := hSr.tw.at_ hp
      have hat := at_any (base + (i : Nat) + 1) i q hSr.pl (by rw [HQL.out]; omega) hb0 (by omega) rfl hq
      have hw1 : IntKind.wrap .u64 (i : Int) = (i : Int) := by rw [IntKind.wrap_u64]; omega
      have hw2 : IntKind.wrap .u64 (base + (i : Int)) = base + (i : Int) := by rw [IntKind.wrap_u64]; omega
      have hw3 : IntKind.wrap .u64 (base + (i : Int) + 1) = base + (i : Int) + 1 := by rw [IntKind.wrap_u64]; omega
      have hwi : IntKind.wrap .i64 ((i : Int) + 1) = (i : Int) + 1 := by rw [IntKind.wrap_i64]; omega
      have i0 : (0 : Int) ≤ (i : Int) := by omega
      have i1 : (i : Int) < (n : Int) := by omega
      go_wp2_with fail
      refine hat.mono ?_
      rintro e w2 ⟨o, rfl, hto, hoo, hb2⟩
      have hS2 := hSr.later hb2
      have hbW2 := hbr.trans (hb2.mono hbr.size)
      simp only [RV.val, RV.cells]
      clear d0 d1 hat hb2
      go_upto_region 7 with fail
      generalize hg1 : w2.alloc _ = W3
      have e1 : w2.alloc o.1.box = W3 := by simp only [RV.box, RV.cells]; exact hg1
      have hb3 : Below w2.heap.size w2 W3 := by rw [← e1]; exact (Below.refl _ _).alloc (Nat.le_refl _) _
      have k3 : W3.heap[w2.heap.size]? = some o.1.box := by rw [← e1]; show (w2.heap.push _)[w2.heap.size]? = some _; exact Array.getElem?_push_size
      clear hg1 e1
      have hd3 : Below W3.heap.size W3 W3.drew := (Below.refl _ _).drew
      have hS3 := (hS2.later hb3).later hd3
      have ho3 := (hoo.later hb3).later hd3
      have hbW3 := (hbW2.trans (hb3.mono hbW2.size)).trans (hd3.mono (hbW2.trans (hb3.mono hbW2.size)).size)
      have k4 : W3.drew.heap[w2.heap.size]? = some o.1.box := k3
      obtain ⟨b4, o4, eb, hl4, hc4⟩ := hS3.rf.rq.rd.some (by have := hS3.rf.rq.rd.le; omega)
      have hsame : sameReq o.1 o.2 p.1 p.2 = true := TwinP.is_same ⟨hto.cl.trans htp.cl, hto.nu.trans htp.nu, htp.op.trans hto.op, hto.c.trans htp.c⟩
      have hsm := rSameReq_any o.1 p.1 o.2 p.2 W3.drew ho3 (hS3.rf.rq.ops p (List.mem_of_getElem? hp))
      rw [hsame] at hsm
      have hXY : ∀ W, Below W3.drew.heap.size W3.drew W → W.heap[w2.heap.size]? = some o.1.box := fun W hW => (hW.block _ (Array.getElem?_eq_some_iff.1 k4).1).trans k4
      have hY : ∀ W, Below W3.drew.heap.size W3.drew W → _ := fun W hW => rcells (ps.map Prod.fst) i p.1 (map_at ps i p hp) (W := W) (b := b4) (o := o4) (fun j y hj => (hW.cell (p := ⟨b4, o4 + j, none⟩) hl4).trans (hc4 j y hj))
      have hG : ∀ W, Below W3.drew.heap.size W3.drew W → RAtG g2 base (some ⟨b4, o4, none⟩) n lc W := fun W hW => by have := (hS3.later hW).rf.at_; rw [eb] at this; exact this
      have Heb := Lib.hid eb
      clear hb3 k3 hd3 hc4 eb k4
      refine wp_region_held (S := fun W => Below W3.drew.heap.size W3.drew W) hmo ?_
      change wpAnyH _ _ _ _ _ _ _ _ (World.drew W3)
      generalize W3.drew = X1 at *
      have t0 : Below X1.heap.size X1 X1 := Below.refl _ _
      refine wpAnyH_take (i := 0) (v := .int .i64 0) rfl (by kernel_rfl) (by kernel_rfl) (by kernel_rfl) (fun _ _ _ h => h) (Or.inl ⟨by kernel_rfl, by intro _ _; kernel_rfl⟩) t0 ?_
      go_simp
      refine wpAnyH_take (i := 1) (v := .bool false) rfl (by kernel_rfl) (by kernel_rfl) (by kernel_rfl) (fun _ _ _ h => h) (Or.inl ⟨by kernel_rfl, by rintro w h; obtain ⟨c0, c1, c2, c3, c4, c5, c6, c7, c8, -⟩ := rbox_all (hXY w h); obtain ⟨d0, d1, d2, d3, d4, d5, d6, d7, d8⟩ := hY w h; obtain ⟨g0, g1, -⟩ := (hG w h).cells; go_simp⟩) t0 ?_
      go_simp
      refine wpAnyH_take (i := 2) (v := .bool false) rfl (by kernel_rfl) (by kernel_rfl) (by kernel_rfl) (fun _ _ _ h => h) (Or.inl ⟨by kernel_rfl, by intro _ _; kernel_rfl⟩) t0 ?_
      go_simp
      refine wpAnyH_take (i := 3) (v := .agg #[.int .u64 o.1.cl, .int .u64 o.1.nu, .int .i64 o.1.op.k, .string o.1.op.name, .string o.1.op.to, .slice o.1.op.ao o.1.op.an o.1.op.ac, .slice o.1.op.bo o.1.op.bn o.1.op.bc, .slice o.1.op.co o.1.op.cn o.1.op.cc, .int .i64 o.1.op.n]) rfl (by kernel_rfl) (by kernel_rfl) (by kernel_rfl) (fun _ _ _ h => h) (Or.inl ⟨by kernel_rfl, by rintro w h; obtain ⟨c0, c1, c2, c3, c4, c5, c6, c7, c8, -⟩ := rbox_all (hXY w h); obtain ⟨d0, d1, d2, d3, d4, d5, d6, d7, d8⟩ := hY w h; obtain ⟨g0, g1, -⟩ := (hG w h).cells; go_simp⟩) t0 ?_
      go_simp
      refine wpAnyH_take (i := 4) (v := .pointer (some ⟨g2, 0, none⟩)) rfl (by kernel_rfl) (by kernel_rfl) (by kernel_rfl) (fun _ _ _ h => h) (Or.inl ⟨by kernel_rfl, by intro _ _; kernel_rfl⟩) t0 ?_
      go_simp
      refine wpAnyH_take (i := 5) (v := .pointer (some ⟨g2, 0, none⟩)) rfl (by kernel_rfl) (by kernel_rfl) (by kernel_rfl) (fun _ _ _ h => h) (Or.inl ⟨by kernel_rfl, by intro _ _; kernel_rfl⟩) t0 ?_
      go_simp
      refine wpAnyH_take (i := 6) (v := .pointer (some ⟨g2, 1, none⟩)) rfl (by kernel_rfl) (by kernel_rfl) (by kernel_rfl) (fun _ _ _ h => h) (Or.inl ⟨by kernel_rfl, by intro _ _; kernel_rfl⟩) t0 ?_
      go_simp
      refine wpAnyH_take (i := 7) (v := .slice (some ⟨b4, o4, none⟩) n lc) rfl (by kernel_rfl) (by kernel_rfl) (by kernel_rfl) (fun _ _ _ h => h) (Or.inl ⟨by kernel_rfl, by rintro w h; obtain ⟨c0, c1, c2, c3, c4, c5, c6, c7, c8, -⟩ := rbox_all (hXY w h); obtain ⟨d0, d1, d2, d3, d4, d5, d6, d7, d8⟩ := hY w h; obtain ⟨g0, g1, -⟩ := (hG w h).cells; go_simp⟩) t0 ?_
      go_simp
      refine wpAnyH_take (i := 8) (v := .int .i64 (i : Int)) rfl (by kernel_rfl) (by kernel_rfl) (by kernel_rfl) (fun _ _ _ h => h) (Or.inl ⟨by kernel_rfl, by intro _ _; kernel_rfl⟩) t0 ?_
      go_simp
      refine wpAnyH_take (i := 9) (v := .pointer (some ⟨b4, o4 + i * 9, none⟩)) rfl (by kernel_rfl) (by kernel_rfl) (by kernel_rfl) (fun _ _ _ h => h) (Or.inl ⟨by kernel_rfl, by rintro w h; obtain ⟨c0, c1, c2, c3, c4, c5, c6, c7, c8, -⟩ := rbox_all (hXY w h); obtain ⟨d0, d1, d2, d3, d4, d5, d6, d7, d8⟩ := hY w h; obtain ⟨g0, g1, -⟩ := (hG w h).cells; go_simp⟩) t0 ?_
      go_simp
      refine wpAnyH_take (i := 10) (v := .agg #[.int .u64 p.1.cl, .int .u64 p.1.nu, .int .i64 p.1.op.k, .string p.1.op.name, .string p.1.op.to, .slice p.1.op.ao p.1.op.an p.1.op.ac, .slice p.1.op.bo p.1.op.bn p.1.op.bc, .slice p.1.op.co p.1.op.cn p.1.op.cc, .int .i64 p.1.op.n]) rfl (by kernel_rfl) (by kernel_rfl) (by kernel_rfl) (fun _ _ _ h => h) (Or.inl ⟨by kernel_rfl, by rintro w h; obtain ⟨c0, c1, c2, c3, c4, c5, c6, c7, c8, -⟩ := rbox_all (hXY w h); obtain ⟨d0, d1, d2, d3, d4, d5, d6, d7, d8⟩ := hY w h; obtain ⟨g0, g1, -⟩ := (hG w h).cells; go_simp⟩) t0 ?_
      go_simp
      refine wpAnyH_all (rs := [11]) (by kernel_rfl) (by simp) (fun j hj => ?_)
      rw [List.mem_singleton] at hj
      subst hj
      refine wpOp_step rfl (fun K hK => ?_)
      go_simp
      simp only [RV.val, RV.cells] at hsm
      refine hsm.mono ?_
      rintro e X2 ⟨rfl, hb2⟩
      have t1 : Below X1.heap.size X1 X2 := hb2
      go_simp
      refine hK _ _ ⟨t1, ?_⟩
      clear hK K
      refine wpAnyH_take (i := 12) (v := .bool false) rfl (by kernel_rfl) (by kernel_rfl) (by kernel_rfl) (fun _ _ _ h => h) (Or.inl ⟨by kernel_rfl, by rintro w h; obtain ⟨c0, c1, c2, c3, c4, c5, c6, c7, c8, -⟩ := rbox_all (hXY w h); obtain ⟨d0, d1, d2, d3, d4, d5, d6, d7, d8⟩ := hY w h; obtain ⟨g0, g1, -⟩ := (hG w h).cells; go_simp⟩) t1 ?_
      go_simp
      refine wpAnyH_take (i := 13) (v := .bool false) rfl (by kernel_rfl) (by kernel_rfl) (by kernel_rfl) (fun _ _ _ h => h) (Or.inl ⟨by kernel_rfl, by intro _ _; kernel_rfl⟩) t1 ?_
      go_simp
      refine wpAnyH_done (by kernel_rfl) ?_ _
      have hS4 := hS3.later hb2
      have hbW4 := hbW3.trans (hb2.mono hbW3.size)
      clear hXY hY hG hsm hS3 t0 t1 hb2 ho3
      go_wp2_with fail
      go_roundw
      case rel => exact ⟨i + 1, by omega, by go_num, hS4, hbW4⟩
      case measure => simp [intOf]; omega
    · have hin2 : i = n := by omega
      subst hin2
      go_wp2_with fail
      go_ret
      exact ⟨rfl, hSr, hbr⟩
end
end Go.Proofs.YtghjgajgjhbjpaaGreat.Msg
namespace Go.Proofs.YtghjgajgjhbjpaaGreat.Msg
open Go.RowKit Go.Lib Go.Proofs.YtghjgajgjhbjpaaGreat.Mem Go.Proofs.YtghjgajgjhbjpaaGreat.Tlv

/-- An operation's slices can be read. -/
structure OpRd (W : World) (v : OV) (c : OC) : Prop where
  a : Rd W 2 v.ao v.an v.ac (atV c.attrs)
  b : Rd W 1 v.bo v.bn v.bc (txV c.parts)
  c : Rd W 1 v.co v.cn v.cc (byV c.cursor)
theorem OpRd.later {W W' : World} {v : OV} {c : OC} (h : OpRd W v c) (hb : Below W.heap.size W W') : OpRd W' v c := ⟨h.a.later hb, h.b.later hb, h.c.later hb⟩
def smallR (r : RV) : Bool := decide ((r.op.name.size : Int) ≤ 1100) && decide ((r.op.to.size : Int) ≤ 1100) && decide ((r.op.an : Int) ≤ 60) && decide ((r.op.bn : Int) ≤ 10) && decide ((r.op.cn : Int) ≤ 4100)
theorem OpRd.small {W : World} {r : RV} {c : OC} (h : OpRd W r.op c) (hs : smallR r = true) : OpAt W r.op c := by
  unfold smallR at hs
  simp only [Bool.and_eq_true, decide_eq_true_eq] at hs
  exact ⟨h.a, h.b, h.c, by omega, by omega, by omega⟩

set_option maxRecDepth 100000 in
set_option maxHeartbeats 4000000 in
theorem smallR_any (r : RV) (w : World) : Calls Tryz.prog 35 #[r.val] w (GivesB (smallR r) w) := by
  have hb0 : Below w.heap.size w (w.alloc r.box) := (Below.refl _ _).alloc (Nat.le_refl _) _
  have HS : Hid (smallR r = (decide ((r.op.name.size : Int) ≤ 1100) && decide ((r.op.to.size : Int) ≤ 1100) && decide ((r.op.an : Int) ≤ 60) && decide ((r.op.bn : Int) ≤ 10) && decide ((r.op.cn : Int) ≤ 4100))) := Lib.hid rfl
  unfold RV.box RV.cells at hb0
  unfold RV.val RV.cells
  cases f1 : decide ((r.op.name.size : Int) ≤ 1100)
  case false =>
    have HV : Hid (smallR r = false) := Lib.hid (by rw [HS.out, f1]; simp)
    clear HS
    go_enter Tryz.func35, Tryz.ntmps35
    go_wp2_with fail
    go_ret
    exact ⟨by rw [HV.out]; rfl, hb0⟩
  cases f2 : decide ((r.op.to.size : Int) ≤ 1100)
  case false =>
    have HV : Hid (smallR r = false) := Lib.hid (by rw [HS.out, f1, f2]; simp)
    clear HS
    go_enter Tryz.func35, Tryz.ntmps35
    go_wp2_with fail
    go_ret
    exact ⟨by rw [HV.out]; rfl, hb0⟩
  cases f3 : decide ((r.op.an : Int) ≤ 60)
  case false =>
    have HV : Hid (smallR r = false) := Lib.hid (by rw [HS.out, f1, f2, f3]; simp)
    clear HS
    go_enter Tryz.func35, Tryz.ntmps35
    go_wp2_with fail
    go_ret
    exact ⟨by rw [HV.out]; rfl, hb0⟩
  cases f4 : decide ((r.op.bn : Int) ≤ 10)
  case false =>
    have HV : Hid (smallR r = false) := Lib.hid (by rw [HS.out, f1, f2, f3, f4]; simp)
    clear HS
    go_enter Tryz.func35, Tryz.ntmps35
    go_wp2_with fail
    go_ret
    exact ⟨by rw [HV.out]; rfl, hb0⟩
  cases f5 : decide ((r.op.cn : Int) ≤ 4100)
  case false =>
    have HV : Hid (smallR r = false) := Lib.hid (by rw [HS.out, f1, f2, f3, f4, f5]; simp)
    clear HS
    go_enter Tryz.func35, Tryz.ntmps35
    go_wp2_with fail
    go_ret
    exact ⟨by rw [HV.out]; rfl, hb0⟩
  have HV : Hid (smallR r = true) := Lib.hid (by rw [HS.out, f1, f2, f3, f4, f5]; rfl)
  clear HS
  go_enter Tryz.func35, Tryz.ntmps35
  go_wp2_with fail
  go_ret
  exact ⟨by rw [HV.out]; rfl, hb0⟩

/-- Acts, as cells. -/
abbrev AP := AV × OC
def actV (l : List AV) : List Value := l.flatMap fun a => a.cells.toList
theorem actV_len (l : List AV) : (actV l).length = l.length * 11 := by
  induction l with
  | nil => rfl
  | cons x l ih => simp only [actV, List.flatMap_cons, List.length_append, List.length_cons] at ih ⊢; rw [ih]; simp [AV.cells]; omega
theorem actV_at (l : List AV) (k : Nat) (y : AV) (h : l[k]? = some y) (i : Nat) (hi : i < 11) : (actV l)[k * 11 + i]? = y.cells[i]? := by
  induction l generalizing k with
  | nil => simp at h
  | cons z xs ih =>
    have hz : z.cells.toList.length = 11 := by simp [AV.cells]
    cases k with
    | zero =>
      rw [List.getElem?_cons_zero, Option.some.injEq] at h
      subst h
      simp only [actV, List.flatMap_cons]
      rw [List.getElem?_append_left (by omega)]
      simp
    | succ k =>
      rw [List.getElem?_cons_succ] at h
      have h1 := ih k h
      simp only [actV, List.flatMap_cons] at h1 ⊢
      rw [List.getElem?_append_right (by omega), hz, ← h1]
      congr 1
      omega
theorem acell (l : List AV) (k : Nat) (y : AV) (h : l[k]? = some y) (i : Nat) (hi : i < 11) {W : World} {b o : Nat} (hc : ∀ (j : Nat) (u : Value), (actV l)[j]? = some u → W.cell? ⟨b, o + j, none⟩ = some u) {x : Value} (hx : y.cells[i]? = some x) : W.cell? ⟨b, o + k * 11 + i, none⟩ = some x := by
  rw [Nat.add_assoc]
  exact hc (k * 11 + i) x (by rw [actV_at l k y h i hi, hx])
theorem acells (l : List AV) (k : Nat) (y : AV) (h : l[k]? = some y) {W : World} {b o : Nat} (hc : ∀ (j : Nat) (u : Value), (actV l)[j]? = some u → W.cell? ⟨b, o + j, none⟩ = some u) :
    W.cell? ⟨b, o + k * 11, none⟩ = some (.int .i64 y.k) ∧ W.cell? ⟨b, o + k * 11 + 1, none⟩ = some (.int .u64 y.n) ∧ W.cell? ⟨b, o + k * 11 + 2, none⟩ = some (.int .u64 y.r.cl) ∧ W.cell? ⟨b, o + k * 11 + 3, none⟩ = some (.int .u64 y.r.nu) ∧ W.cell? ⟨b, o + k * 11 + 4, none⟩ = some (.int .i64 y.r.op.k) ∧ W.cell? ⟨b, o + k * 11 + 5, none⟩ = some (.string y.r.op.name) ∧ W.cell? ⟨b, o + k * 11 + 6, none⟩ = some (.string y.r.op.to) ∧ W.cell? ⟨b, o + k * 11 + 7, none⟩ = some (.slice y.r.op.ao y.r.op.an y.r.op.ac) ∧ W.cell? ⟨b, o + k * 11 + 8, none⟩ = some (.slice y.r.op.bo y.r.op.bn y.r.op.bc) ∧ W.cell? ⟨b, o + k * 11 + 9, none⟩ = some (.slice y.r.op.co y.r.op.cn y.r.op.cc) ∧ W.cell? ⟨b, o + k * 11 + 10, none⟩ = some (.int .i64 y.r.op.n) :=
  ⟨acell l k y h 0 (by omega) hc rfl, acell l k y h 1 (by omega) hc rfl, acell l k y h 2 (by omega) hc rfl, acell l k y h 3 (by omega) hc rfl, acell l k y h 4 (by omega) hc rfl, acell l k y h 5 (by omega) hc rfl, acell l k y h 6 (by omega) hc rfl, acell l k y h 7 (by omega) hc rfl, acell l k y h 8 (by omega) hc rfl, acell l k y h 9 (by omega) hc rfl, acell l k y h 10 (by omega) hc rfl⟩
/-- Requests, acts as they come in. -/
structure ReqsRd (ao : Option Addr) (n cap : Nat) (ps : List RP) (W : World) : Prop where
  rd : Rd W 9 ao n cap (reqV (ps.map Prod.fst))
  ops : ∀ p ∈ ps, OpRd W p.1.op p.2
  fit : ∀ p ∈ ps, FitP p
structure ActsRd (ao : Option Addr) (n cap : Nat) (xs_ : List AP) (W : World) : Prop where
  rd : Rd W 11 ao n cap (actV (xs_.map Prod.fst))
  ops : ∀ p ∈ xs_, OpRd W p.1.r.op p.2
  fit : ∀ p ∈ xs_, FitP (p.1.r, p.2)
theorem ReqsRd.len {ao : Option Addr} {n cap : Nat} {ps : List RP} {W : World} (h : ReqsRd ao n cap ps W) : ps.length = n := by
  have := h.rd.1
  rw [reqV_len, List.length_map] at this
  omega
theorem ActsRd.len {ao : Option Addr} {n cap : Nat} {xs_ : List AP} {W : World} (h : ActsRd ao n cap xs_ W) : xs_.length = n := by
  have := h.rd.1
  rw [actV_len, List.length_map] at this
  omega
theorem amap_at (xs_ : List AP) (k : Nat) (p : AP) (h : xs_[k]? = some p) : (xs_.map Prod.fst)[k]? = some p.1 := by rw [List.getElem?_map, h]; rfl
def fewP (xs_ : List AP) (ps : List RP) (most : Int) : Bool := xs_.all (fun a => smallR a.1.r) && ps.all (fun p => smallR p.1) && decide ((xs_.length : Int) ≤ most) && decide ((ps.length : Int) ≤ most)
theorem all_next {α : Type} (f : α → Bool) (l : List α) (k : Nat) (a : α) (h : l[k]? = some a) : (l.take (k + 1)).all f = ((l.take k).all f && f a) := by
  obtain ⟨hl, e⟩ := List.getElem?_eq_some_iff.1 h
  rw [List.take_succ_eq_append_getElem hl, e, List.all_append]
  simp
theorem all_no {α : Type} (f : α → Bool) (l : List α) (k : Nat) (a : α) (h : l[k]? = some a) (hf : f a = false) : l.all f = false := by
  cases he : l.all f with
  | false => rfl
  | true => rw [List.all_eq_true.1 he a (List.mem_of_getElem? h)] at hf; cases hf

set_option maxRecDepth 100000 in
set_option maxHeartbeats 4000000 in
theorem few_any (bo : Option Addr) (m bcap : Nat) (xs_ : List AP) (ao : Option Addr) (n cap : Nat) (ps : List RP) (most : Int) (w : World) (hA : ActsRd bo m bcap xs_ w) (hQ : ReqsRd ao n cap ps w) :
    Calls Tryz.prog 7 #[.slice bo m bcap, .slice ao n cap, .int .i64 most] w (GivesB (fewP xs_ ps most) w) := by
  have LA := Lib.hid hA.len
  have LQ := Lib.hid hQ.len
  have hmc : m ≤ 9223372036854775807 := by have := hA.rd.2.1; have := hA.rd.2.2.1; unfold maxLen at this; omega
  have hnc : n ≤ 9223372036854775807 := by have := hQ.rd.2.1; have := hQ.rd.2.2.1; unfold maxLen at this; omega
  go_enter Tryz.func7, Tryz.ntmps7
  go_wp2_with fail
  go_loopw [7] (fun p wr => ∃ k : Nat, k ≤ m ∧ p = .int .i64 (k : Int) ∧ (xs_.take k).all (fun a => smallR a.1.r) = true ∧ Below w.heap.size w wr) (fun p _ => m - (intOf p).toNat)
  case atStart => exact ⟨0, Nat.zero_le _, rfl, rfl, Below.refl _ _⟩
  case round =>
    obtain ⟨k, hk, rfl, hall, hbr⟩ := hrel
    have HALL := Lib.hid hall
    clear hall
    by_cases hkm : k < m
    · obtain ⟨b1, o1, rfl, hl1, hc1⟩ := hA.rd.some (by have := hA.rd.le; omega)
      obtain ⟨a, hu⟩ : ∃ a, xs_[k]? = some a := ⟨_, List.getElem?_eq_getElem (by rw [LA.out]; exact hkm)⟩
      obtain ⟨c0, c1, c2, c3, c4, c5, c6, c7, c8, c9, c10⟩ := acells (xs_.map Prod.fst) k a.1 (amap_at xs_ k a hu) (W := wr) (b := b1) (o := o1) (fun j x hj => (hbr.cell (p := ⟨b1, o1 + j, none⟩) hl1).trans (hc1 j x hj))
      have i0 : (0 : Int) ≤ (k : Int) := by omega
      have i1 : (k : Int) < (m : Int) := by omega
      have hcall := smallR_any a.1.r wr
      unfold RV.val RV.cells at hcall
      cases hs : smallR a.1.r
      · have HF : Hid (fewP xs_ ps most = false) := Lib.hid (by unfold fewP; rw [all_no _ xs_ k a hu hs]; rfl)
        rw [hs] at hcall
        clear hs
        go_wp2_with fail
        refine hcall.mono ?_
        rintro e w1 ⟨rfl, hb1⟩
        have hb2 := hbr.trans (hb1.mono hbr.size)
        go_wp2_with fail
        go_ret
        exact ⟨by rw [HF.out]; rfl, hb2⟩
      · have HN : Hid ((xs_.take (k + 1)).all (fun a => smallR a.1.r) = true) := Lib.hid (by rw [all_next _ xs_ k a hu, HALL.out, hs]; rfl)
        rw [hs] at hcall
        clear hs
        go_wp2_with fail
        refine hcall.mono ?_
        rintro e w1 ⟨rfl, hb1⟩
        have hb2 := hbr.trans (hb1.mono hbr.size)
        go_wp2_with fail
        go_roundw
        case rel => exact ⟨k + 1, by omega, by go_num, HN.out, hb2⟩
        case measure => simp [intOf]; omega
    · have hkm2 : k = m := by omega
      subst hkm2
      have HA2 : Hid (xs_.all (fun a => smallR a.1.r) = true) := Lib.hid (by have := HALL.out; rw [List.take_of_length_le (by rw [LA.out]; omega)] at this; exact this)
      clear HALL
      generalize wr = w9 at *
      go_wp2_with fail
      go_loopw [8] (fun p wr => ∃ j : Nat, j ≤ n ∧ p = .int .i64 (j : Int) ∧ (ps.take j).all (fun p => smallR p.1) = true ∧ Below w.heap.size w wr) (fun p _ => n - (intOf p).toNat)
      case atStart => exact ⟨0, Nat.zero_le _, rfl, rfl, hbr⟩
      case round =>
        clear hbr
        obtain ⟨j, hj, rfl, hall, hbr⟩ := hrel
        have HALL := Lib.hid hall
        clear hall
        by_cases hjn : j < n
        · obtain ⟨b1, o1, rfl, hl1, hc1⟩ := hQ.rd.some (by have := hQ.rd.le; omega)
          obtain ⟨p, hu⟩ : ∃ p, ps[j]? = some p := ⟨_, List.getElem?_eq_getElem (by rw [LQ.out]; exact hjn)⟩
          obtain ⟨c0, c1, c2, c3, c4, c5, c6, c7, c8⟩ := rcells (ps.map Prod.fst) j p.1 (map_at ps j p hu) (W := wr) (b := b1) (o := o1) (fun j x hj => (hbr.cell (p := ⟨b1, o1 + j, none⟩) hl1).trans (hc1 j x hj))
          have i0 : (0 : Int) ≤ (j : Int) := by omega
          have i1 : (j : Int) < (n : Int) := by omega
          have hcall := smallR_any p.1 wr
          unfold RV.val RV.cells at hcall
          cases hs : smallR p.1
          · have HF : Hid (fewP xs_ ps most = false) := Lib.hid (by unfold fewP; rw [HA2.out, all_no _ ps j p hu hs]; rfl)
            rw [hs] at hcall
            clear hs
            go_wp2_with fail
            refine hcall.mono ?_
            rintro e w1 ⟨rfl, hb1⟩
            have hb2 := hbr.trans (hb1.mono hbr.size)
            go_wp2_with fail
            go_ret
            exact ⟨by rw [HF.out]; rfl, hb2⟩
          · have HN : Hid ((ps.take (j + 1)).all (fun p => smallR p.1) = true) := Lib.hid (by rw [all_next _ ps j p hu, HALL.out, hs]; rfl)
            rw [hs] at hcall
            clear hs
            go_wp2_with fail
            refine hcall.mono ?_
            rintro e w1 ⟨rfl, hb1⟩
            have hb2 := hbr.trans (hb1.mono hbr.size)
            go_wp2_with fail
            go_roundw
            case rel => exact ⟨j + 1, by omega, by go_num, HN.out, hb2⟩
            case measure => simp [intOf]; omega
        · have hjn2 : j = n := by omega
          subst hjn2
          have HQ2 : Hid (ps.all (fun p => smallR p.1) = true) := Lib.hid (by have := HALL.out; rw [List.take_of_length_le (by rw [LQ.out]; omega)] at this; exact this)
          have HV : Hid (fewP xs_ ps most = (decide ((k : Int) ≤ most) && decide ((j : Int) ≤ most))) := Lib.hid (by unfold fewP; rw [HA2.out, HQ2.out, LA.out, LQ.out]; rfl)
          clear HALL
          cases f1 : decide ((k : Int) ≤ most)
          · go_wp2_with fail
            go_ret
            exact ⟨by rw [HV.out, f1]; rfl, hbr⟩
          · go_wp2_with fail
            go_ret
            exact ⟨by rw [HV.out, f1]; rfl, hbr⟩

section
variable {B g g2 : Nat} {t : Int} {mx : Nat}
theorem do_turn {base : Int} {l s : Value} {lo : Option Addr} {n lc : Nat} {qs ps : List RP} (a : AV) (c : OC) (w : World) (hS : St B g g2 base l s lo n lc qs ps w) (ho : OpAt w a.r.op c) (hf : FitP (a.r, c)) (hin : OpIn B a.r.op) (hn : n ≤ 1000) (hb : base ≤ 5000000000000000000) :
    Calls Tryz.prog 11 #[.pointer (some ⟨g, 0, none⟩), .pointer (some ⟨g2, 0, none⟩), a.val] w (GivesDo B g g2 (base + n + 1) (n + 1) l s n w) := by
  obtain ⟨k, an, r⟩ := a
  dsimp only at ho hf hin
  by_cases k1 : k = 1
  · subst k1; exact do_append an r c w hS ho hf hin hn hb
  by_cases k2 : k = 2
  · subst k2; exact do_cut an r c w hS ho hn hb
  by_cases k3 : k = 3
  · subst k3; exact do_drop an r c w hS ho hn hb
  by_cases k4 : k = 4
  · subst k4; exact do_at an r c w hS ho hn hb
  by_cases k5 : k = 5
  · subst k5; exact do_from an r c w hS ho hn hb
  exact do_other k an r c w hS ho k1 k2 k3 k4 k5
theorem do_any (a : AV) (c : OC) (w : World) (h : StE B g g2 t mx w) (ho : OpAt w a.r.op c) (hf : FitP (a.r, c)) (hin : OpIn B a.r.op) (hm : mx ≤ 1000) (ht : t ≤ 5000000000000000000) :
    Calls Tryz.prog 11 #[.pointer (some ⟨g, 0, none⟩), .pointer (some ⟨g2, 0, none⟩), a.val] w fun e w' => e = .returned (.bool true) ∧ StE B g g2 (t + 1) (mx + 1) w' ∧ Below B w w' := by
  obtain ⟨base, l, s, lo, n, lc, qs, ps, hS, hn, hb⟩ := h
  have hb0 := hS.b0
  refine (do_turn a c w hS ho hf hin (by omega) (by omega)).mono ?_
  rintro e w' ⟨h1, h2, h3⟩
  exact ⟨h1, h2.state.mono (by omega) (by omega), h3⟩
end
end Go.Proofs.YtghjgajgjhbjpaaGreat.Msg
