/-
  do: an act by both logs: Append; acts that do nothing.
  do: Cut and Drop by both logs.
  do: At by both logs.
-/
import Derived.BigQuiet
import Derived.Test.YtghjgajgjhbjpaaGreatPu
namespace Go.Proofs.YtghjgajgjhbjpaaGreat.Msg
open Go.RowKit Go.Lib Go.Proofs.YtghjgajgjhbjpaaGreat.Mem Go.Proofs.YtghjgajgjhbjpaaGreat.Tlv

def GivesDo (B g g2 : Nat) (t : Int) (m : Nat) (l s : Value) (n : Nat) (w : World) (e : Ending) (w' : World) : Prop := e = .returned (.bool true) ∧ StT B g g2 t m l s n w w' ∧ Below B w w'
theorem apErr_twins {ps qs : List RP} (h : Twins ps qs) (p : RP) : apErr ps p = apErr qs p := by unfold apErr; rw [h.1, h.sizes]
section
variable {B g g2 : Nat} {base : Int} {l s : Value} {lo : Option Addr} {n lc : Nat} {qs ps : List RP}
set_option maxRecDepth 100000 in
set_option maxHeartbeats 8000000 in
theorem do_other (k an : Int) (r : RV) (c : OC) (w : World) (h : St B g g2 base l s lo n lc qs ps w) (ho : OpAt w r.op c) (k1 : k ≠ 1) (k2 : k ≠ 2) (k3 : k ≠ 3) (k4 : k ≠ 4) (k5 : k ≠ 5) :
    Calls Tryz.prog 11 #[.pointer (some ⟨g, 0, none⟩), .pointer (some ⟨g2, 0, none⟩), AV.val ⟨k, an, r⟩] w (GivesDo B g g2 (base + n + 1) (n + 1) l s n w) := by
  have hgl := h.pl.log.lt
  have hBw : B ≤ w.heap.size := by have := h.pl.log.le; omega
  obtain ⟨x, hxx⟩ : ∃ x, IntKind.wrap .u64 (base + an) = x := ⟨_, rfl⟩
  simp only [AV.val, AV.cells]
  go_enter Tryz.func11, Tryz.ntmps11
  go_upto_region 1 with fail
  generalize hg0 : w.alloc _ = W0
  have e0 : w.alloc (AV.box ⟨k, an, r⟩) = W0 := by simp only [AV.box, AV.cells]; exact hg0
  have hb0 : Below w.heap.size w W0 := by rw [← e0]; exact (Below.refl _ _).alloc (Nat.le_refl _) _
  have k0 : W0.heap[w.heap.size]? = some (AV.box ⟨k, an, r⟩) := by rw [← e0]; show (w.heap.push _)[w.heap.size]? = some _; exact Array.getElem?_push_size
  clear hg0 e0
  have h0 := h.later hb0
  obtain ⟨d0, d1, -⟩ := (show RAtG g2 base lo n lc W0 from h0.rf.at_).cells
  obtain ⟨a0, a1, -⟩ := abox_all k0
  dsimp only at a0 a1
  go_quiet (fail)
  have hbq := below_drewN (Below.refl W0.heap.size W0) nq
  have kk1 : (W0.drewN nq).heap[w.heap.size]? = some (AV.box ⟨k, an, r⟩) := k0
  have hS := h0.later hbq
  have hbW := hb0.trans (hbq.mono hb0.size)
  have hoW := ho.later hbW
  clear d0 d1 a0 a1 k0 hbq h0 hb0
  generalize W0.drewN nq = W1 at *
  obtain ⟨a0, a1, a2, a3, a4, a5, a6, a7, a8, a9, a10, -⟩ := abox_all kk1
  dsimp only at a0 a1 a2 a3 a4 a5 a6 a7 a8 a9 a10
  have f1 : (k == 1) = false := by simp [k1]
  have f2 : (k == 2) = false := by simp [k2]
  have f3 : (k == 3) = false := by simp [k3]
  have f4 : (k == 4) = false := by simp [k4]
  have f5 : (k == 5) = false := by simp [k5]
  clear k1 k2 k3 k4 k5
  go_wp2_with fail
  go_ret
  exact ⟨rfl, ⟨_, _, _, _, _, _, _, _, hS, by omega, by omega, h.trans_id hbW⟩, hbW.mono hBw⟩

set_option maxRecDepth 100000 in
set_option maxHeartbeats 8000000 in
theorem do_append (an : Int) (r : RV) (c : OC) (w : World) (h : St B g g2 base l s lo n lc qs ps w) (ho : OpAt w r.op c) (hf : FitP (r, c)) (hin : OpIn B r.op) (hn : n ≤ 1000) (hb : base ≤ 5000000000000000000) :
    Calls Tryz.prog 11 #[.pointer (some ⟨g, 0, none⟩), .pointer (some ⟨g2, 0, none⟩), AV.val ⟨1, an, r⟩] w (GivesDo B g g2 (base + n + 1) (n + 1) l s n w) := by
  have hgl := h.pl.log.lt
  have hBw : B ≤ w.heap.size := by have := h.pl.log.le; omega
  obtain ⟨x, hxx⟩ : ∃ x, IntKind.wrap .u64 (base + an) = x := ⟨_, rfl⟩
  simp only [AV.val, AV.cells]
  go_enter Tryz.func11, Tryz.ntmps11
  go_upto_region 1 with fail
  generalize hg0 : w.alloc _ = W0
  have e0 : w.alloc (AV.box ⟨1, an, r⟩) = W0 := by simp only [AV.box, AV.cells]; exact hg0
  have hb0 : Below w.heap.size w W0 := by rw [← e0]; exact (Below.refl _ _).alloc (Nat.le_refl _) _
  have k0 : W0.heap[w.heap.size]? = some (AV.box ⟨1, an, r⟩) := by rw [← e0]; show (w.heap.push _)[w.heap.size]? = some _; exact Array.getElem?_push_size
  clear hg0 e0
  have h0 := h.later hb0
  obtain ⟨d0, d1, -⟩ := (show RAtG g2 base lo n lc W0 from h0.rf.at_).cells
  obtain ⟨a0, a1, -⟩ := abox_all k0
  dsimp only at a0 a1
  go_quiet (fail)
  have hbq := below_drewN (Below.refl W0.heap.size W0) nq
  have kk1 : (W0.drewN nq).heap[w.heap.size]? = some (AV.box ⟨1, an, r⟩) := k0
  have hS := h0.later hbq
  have hbW := hb0.trans (hbq.mono hb0.size)
  have hoW := ho.later hbW
  clear d0 d1 a0 a1 k0 hbq h0 hb0
  generalize W0.drewN nq = W1 at *
  obtain ⟨a0, a1, a2, a3, a4, a5, a6, a7, a8, a9, a10, -⟩ := abox_all kk1
  dsimp only at a0 a1 a2 a3 a4 a5 a6 a7 a8 a9 a10
  obtain ⟨hpl, hql⟩ := hS.len
  have hcall := append_any (p := (r, c)) hS.pl hoW hf hin (by omega) hS.b0 (by omega)
  simp only [RV.val, RV.cells] at hcall
  have HQL := Lib.hid hql
  have HPL := Lib.hid hpl
  clear hpl hql
  go_wp2_with fail
  refine hcall.mono ?_
  have hpm : apErr ps (r, c) = 0 → mayP (r, c) = true := by
    intro he
    unfold apErr at he
    cases hm : mayP (r, c) with
    | true => rfl
    | false => rw [if_pos hm] at he; cases he
  have hA := apErr_twins hS.tw (r, c)
  clear hcall
  rintro e w2 (⟨hne, rfl, hb2⟩ | ⟨heq, rfl, hB2, hbut, q, l', s', htw, hP, f1, f2, kr1, kr2, rn1, rn2⟩)
  · rw [← hA] at hne ⊢
    have hS2 := hS.later hb2
    have hra := rAppend_any B g2 base lo n lc ps r c w2 hS2.rf hS2.B2 (hoW.later hb2) hf (by omega) hS2.may hS2.fit hS2.b0 (by omega)
    unfold GivesAp at hra
    simp only [if_neg hne, RV.val, RV.cells] at hra
    have HA := Lib.hid hA
    clear hA
    generalize apErr ps (r, c) = E at *
    have kk2 := (hb2.block _ (Array.getElem?_eq_some_iff.1 kk1).1).trans kk1
    have hb2' := hbW.trans (hb2.mono hbW.size)
    clear a0 a1 a2 a3 a4 a5 a6 a7 a8 a9 a10
    obtain ⟨a0, a1, a2, a3, a4, a5, a6, a7, a8, a9, a10, -⟩ := abox_all kk2
    dsimp only at a0 a1 a2 a3 a4 a5 a6 a7 a8 a9 a10
    clear hne hpm
    go_wp2_with fail
    refine hra.mono ?_
    rintro e w3 ⟨rfl, hb3⟩
    have hS3 := hS2.later hb3
    have hb3' := hb2'.trans (hb3.mono hb2'.size)
    go_wp2_with fail
    go_ret
    exact ⟨rfl, ⟨_, _, _, _, _, _, _, _, hS3, by omega, by omega, h.trans_id hb3'⟩, hb3'.mono hBw⟩
  · rw [HQL.out] at kr1 kr2 rn1 rn2 ⊢
    have heq' : apErr ps (r, c) = 0 := hA.trans heq
    have hm := hpm heq'
    have hr2 := hS.ref_but hB2 hbut
    have ho2 : OpAt w2 r.op c := hoW.low hin hB2
    have hra := rAppend_any B g2 base lo n lc ps r c w2 hr2 hS.B2 ho2 hf (by omega) hS.may hS.fit hS.b0 (by omega)
    unfold GivesAp at hra
    simp only [if_pos heq', RV.val, RV.cells] at hra
    have hlt := (Array.getElem?_eq_some_iff.1 kk1).1
    have kk2 : w2.heap[w.heap.size]? = some (AV.box ⟨1, an, r⟩) := (hbut.2 _ hlt (by omega) (fun e => by have := (h.pl.log.own.low _ e.symm).2; omega) (fun e => by have := (h.pl.log.owz.low _ e.symm).2; omega)).trans kk1
    have HEQ := Lib.hid heq'
    clear heq heq' hA hpm
    clear a0 a1 a2 a3 a4 a5 a6 a7 a8 a9 a10
    obtain ⟨a0, a1, a2, a3, a4, a5, a6, a7, a8, a9, a10, -⟩ := abox_all kk2
    dsimp only at a0 a1 a2 a3 a4 a5 a6 a7 a8 a9 a10
    go_wp2_with fail
    refine hra.mono ?_
    rintro e w3 ⟨rfl, a, lc', hr3, hbg, ha⟩
    have hS3 := hS.appended hP htw hm hf hin hr2 hr3 hbg ha
    have hb3' : Below B w w3 := ((hbW.mono hBw).trans hB2).trans hbg.bel
    have HT := Lib.hid (h.trans_app hbW hbut kr1 kr2 rn1 rn2 f1 f2 hbg.oth hbg.bel.size)
    clear a0 a1 a2 a3 a4 a5 a6 a7 a8 a9 a10
    go_wp2_with fail
    go_ret
    exact ⟨rfl, ⟨_, _, _, _, _, _, _, _, hS3, by omega, by omega, HT.out⟩, hb3'⟩
end
end Go.Proofs.YtghjgajgjhbjpaaGreat.Msg
namespace Go.Proofs.YtghjgajgjhbjpaaGreat.Msg
open Go.RowKit Go.Lib Go.Proofs.YtghjgajgjhbjpaaGreat.Mem Go.Proofs.YtghjgajgjhbjpaaGreat.Tlv

section
variable {B g g2 : Nat} {base : Int} {l s : Value} {lo : Option Addr} {n lc : Nat} {qs ps : List RP}
theorem OnlyG.but {w W : World} (h : OnlyG B g w W) : But g l s w W := ⟨h.bel.size, fun k _ hk _ _ => h.oth k hk⟩
theorem set_other {W : World} {a : Addr} {x : Value} (k : Nat) (hk : k ≠ a.block) : (W.setCell a x).heap[k]? = W.heap[k]? := Below.heap_setCell W a x k hk
theorem ratg_set1 {W : World} (h : RAtG g2 base lo n lc W) (lo' : Option Addr) (n' lc' : Nat) : RAtG g2 base lo' n' lc' (W.setCell ⟨g2, 1, none⟩ (.slice lo' n' lc')) := (at_set (i := 1) (x := .slice lo' n' lc') h).trans (by kernel_rfl)
theorem ratg_set0 {W : World} (h : RAtG g2 base lo n lc W) (x : Int) : RAtG g2 x lo n lc (W.setCell ⟨g2, 0, none⟩ (.int .u64 x)) := (at_set (i := 0) (x := .int .u64 x) h).trans (by kernel_rfl)
theorem take_rd {W : World} {size : Nat} {ao : Option Addr} {n cap : Nat} {xs : List Value} (h : Rd W size ao n cap xs) (k : Nat) (hk : k ≤ n) : Rd W size ao k cap (xs.take (k * size)) := by
  obtain ⟨h1, h2, h3, h4, h5⟩ := h
  have hks : k * size ≤ n * size := Nat.mul_le_mul_right _ hk
  refine ⟨by rw [List.length_take, h1]; omega, by omega, h3, h4, fun h0 a ha => ?_⟩
  obtain ⟨e, lt, c⟩ := h5 h0 a ha
  refine ⟨e, lt, fun j u hu => c j u ?_⟩
  rw [List.getElem?_take] at hu
  split at hu
  · exact hu
  · cases hu
theorem rd_end {W : World} {size : Nat} {a : Option Addr} {n cap : Nat} {xs : List Value} (h : Rd W size a n cap xs) (k : Nat) (hk : k = n) : Rd W size a 0 0 (xs.drop (k * size)) := by
  rw [List.drop_eq_nil_of_le (by rw [h.1, hk]; exact Nat.le_refl _)]
  refine ⟨by simp, Nat.le_refl _, Nat.zero_le _, fun _ => rfl, fun h => by omega⟩


set_option maxRecDepth 100000 in
set_option maxHeartbeats 8000000 in
theorem do_cut (an : Int) (r : RV) (c : OC) (w : World) (h : St B g g2 base l s lo n lc qs ps w) (ho : OpAt w r.op c) (hn : n ≤ 1000) (hb : base ≤ 5000000000000000000) :
    Calls Tryz.prog 11 #[.pointer (some ⟨g, 0, none⟩), .pointer (some ⟨g2, 0, none⟩), AV.val ⟨2, an, r⟩] w (GivesDo B g g2 (base + n + 1) (n + 1) l s n w) := by
  have hmo : Tryz.prog.follows .mixedOrders = true := by kernel_rfl
  have hgl := h.pl.log.lt
  have hBw : B ≤ w.heap.size := by have := h.pl.log.le; omega
  obtain ⟨x, hxx⟩ : ∃ x, IntKind.wrap .u64 (base + an) = x := ⟨_, rfl⟩
  simp only [AV.val, AV.cells]
  go_enter Tryz.func11, Tryz.ntmps11
  go_upto_region 1 with fail
  generalize hg0 : w.alloc _ = W0
  have e0 : w.alloc (AV.box ⟨2, an, r⟩) = W0 := by simp only [AV.box, AV.cells]; exact hg0
  have hb0 : Below w.heap.size w W0 := by rw [← e0]; exact (Below.refl _ _).alloc (Nat.le_refl _) _
  have k0 : W0.heap[w.heap.size]? = some (AV.box ⟨2, an, r⟩) := by rw [← e0]; show (w.heap.push _)[w.heap.size]? = some _; exact Array.getElem?_push_size
  clear hg0 e0
  have h0 := h.later hb0
  obtain ⟨d0, d1, -⟩ := (show RAtG g2 base lo n lc W0 from h0.rf.at_).cells
  obtain ⟨a0, a1, -⟩ := abox_all k0
  dsimp only at a0 a1
  go_quiet (fail)
  have hbq := below_drewN (Below.refl W0.heap.size W0) nq
  have kk1 : (W0.drewN nq).heap[w.heap.size]? = some (AV.box ⟨2, an, r⟩) := k0
  have hS := h0.later hbq
  have hbW := hb0.trans (hbq.mono hb0.size)
  have hoW := ho.later hbW
  clear d0 d1 a0 a1 k0 hbq h0 hb0
  generalize W0.drewN nq = W1 at *
  obtain ⟨a0, a1, a2, a3, a4, a5, a6, a7, a8, a9, a10, -⟩ := abox_all kk1
  dsimp only at a0 a1 a2 a3 a4 a5 a6 a7 a8 a9 a10
  have hoA : w.heap.size ≠ g := by omega
  have hoA2 : w.heap.size ≠ g2 := by have := h.g2_lt; omega
  have HX := Lib.hid hxx
  have hwx : 0 ≤ x := by rw [← hxx, IntKind.wrap_u64]; omega
  obtain ⟨hpl, hql⟩ := hS.len
  obtain ⟨lo', lc', so', sc', e1, e2, hR⟩ := hS.pl.rd
  rw [hql] at e1 e2 hR
  have HQL := Lib.hid hql
  have HPL := Lib.hid hpl
  have HE1 := Lib.hid e1
  have HE2 := Lib.hid e2
  clear hpl hql e1 e2 hxx hoW ho
  by_cases hin : base ≤ x ∧ x ≤ base + n
  case neg =>
    have hno := cut_no g base n lo' lc' so' sc' _ _ x W1 hR (by omega) hS.b0 (by omega) hin
    have hfal : (decide (base ≤ x) && decide (x ≤ base + n)) = false := by
      rw [Bool.and_eq_false_iff, decide_eq_false_iff_not, decide_eq_false_iff_not]; omega
    clear hin
    go_wp2_with fail
    refine hno.mono ?_
    rintro e w2 ⟨rfl, q, rfl⟩
    have hbq := below_drewN (Below.refl W1.heap.size W1) q
    have kk2 : (W1.drewN q).heap[w.heap.size]? = some (AV.box ⟨2, an, r⟩) := kk1
    have hS2 := hS.later hbq
    have hbW2 := hbW.trans (hbq.mono hbW.size)
    clear hbq a0 a1 a2 a3 a4 a5 a6 a7 a8 a9 a10
    generalize W1.drewN q = W2 at *
    have hri := rin_log g2 base lo n lc ps x W2 hS2.rf (by omega) hS2.b0 (by omega)
    rw [hfal] at hri
    go_wp2_with fail
    refine hri.mono ?_
    rintro e w3 ⟨rfl, q3, rfl⟩
    have hbq := below_drewN (Below.refl W2.heap.size W2) q3
    have hS3 := hS2.later hbq
    have hbW3 := hbW2.trans (hbq.mono hbW2.size)
    clear hbq
    generalize W2.drewN q3 = W3 at *
    go_wp2_with fail
    go_ret
    exact ⟨rfl, ⟨_, _, _, _, _, _, _, _, hS3, by omega, by omega, h.trans_id hbW3⟩, hbW3.mono hBw⟩
  obtain ⟨k, hk⟩ : ∃ k : Nat, x = base + (k : Nat) := ⟨(x - base).toNat, by omega⟩
  have hkn : k ≤ n := by omega
  have hcd := cut_any x k hS.pl (by rw [HQL.out]; omega) hS.b0 (by omega) hk (by rw [HQL.out]; exact hkn)
  have hsub : IntKind.wrap .u64 (x - base) = (k : Nat) := by rw [hk, IntKind.wrap_u64]; omega
  have htru : (decide (base ≤ x) && decide (x ≤ base + n)) = true := by
    rw [Bool.and_eq_true, decide_eq_true_eq, decide_eq_true_eq]; exact hin
  have HK := Lib.hid hk
  clear hin hk
  go_wp2_with fail
  refine hcd.mono ?_
  rintro e w2 ⟨rfl, l', s', hP, el, es, hon, rn1, rn2⟩
  rw [HQL.out] at rn1 rn2
  have hog1 := hS.pl.g_ne.1
  have hog2 := hS.pl.g_ne.2
  have hr2 := hS.ref_but hon.bel hon.but
  have kk2 : w2.heap[w.heap.size]? = some (AV.box ⟨2, an, r⟩) := (hon.oth _ hoA).trans kk1
  have hri := rin_log g2 base lo n lc ps x w2 hr2 (by omega) hS.b0 (by omega)
  rw [htru] at hri
  clear a0 a1 a2 a3 a4 a5 a6 a7 a8 a9 a10
  go_wp2_with fail
  refine hri.mono ?_
  rintro e w3 ⟨rfl, q3, rfl⟩
  have hbq := below_drewN (Below.refl B w2) q3
  have hoq : ∀ j : Nat, (w2.drewN q3).heap[j]? = w2.heap[j]? := fun _ => rfl
  have kk3 : (w2.drewN q3).heap[w.heap.size]? = some (AV.box ⟨2, an, r⟩) := kk2
  have hr3 : RAtG g2 base lo n lc (w2.drewN q3) := hr2.at_
  generalize w2.drewN q3 = W3 at *
  obtain ⟨a0, a1, a2, a3, a4, a5, a6, a7, a8, a9, a10, -⟩ := abox_all kk3
  dsimp only at a0 a1 a2 a3 a4 a5 a6 a7 a8 a9 a10
  obtain ⟨d0, d1, -⟩ := hr3.cells
  go_upto_region 16 with fail
  clear a0 a1 a2 a3 a4 a5 a6 a7 a8 a9 a10 d0 d1
  have s0 : RAtG g2 base lo n lc W3.drew := hr3
  have hb3 : Below B w2 W3.drew := hbq.drew
  have ho3 : ∀ j : Nat, W3.drew.heap[j]? = w2.heap[j]? := fun j => hoq j
  cases lo with
  | none =>
    have hl0 : lc = 0 := hS.rf.rq.rd.2.2.2.1 rfl
    have hn0 : n = 0 := by have := hS.rf.rq.rd.le; omega
    subst hl0
    subst hn0
    have hk0 : k = 0 := by omega
    subst hk0
    have hps : ps.take 0 = [] := List.take_zero
    refine wp_region_T (k := 14) (S := RAtG g2 base none 0 0) hmo ?_
    change wpAnyT _ _ _ _ _ _ _ _ _ (World.drew W3)
    generalize W3.drew = V0 at *
    obtain ⟨d1, d2, dF⟩ := s0.cells
    refine wpAnyT_take (i := 0) (v := .pointer (some ⟨g2, 0, none⟩)) rfl (by kernel_rfl) (by kernel_rfl) (by kernel_rfl) (by kernel_rfl) (by decide) (by kernel_rfl) (by kernel_rfl) (fun _ _ _ h => h) (Or.inl ⟨by kernel_rfl, by intro _ _; kernel_rfl⟩) s0 ?_
    go_simp
    refine wpAnyT_take (i := 1) (v := .pointer (some ⟨g2, 0, none⟩)) rfl (by kernel_rfl) (by kernel_rfl) (by kernel_rfl) (by kernel_rfl) (by decide) (by kernel_rfl) (by kernel_rfl) (fun _ _ _ h => h) (Or.inl ⟨by kernel_rfl, by intro _ _; kernel_rfl⟩) s0 ?_
    go_simp
    refine wpAnyT_take (i := 2) (v := .pointer (some ⟨g2, 0, none⟩)) rfl (by kernel_rfl) (by kernel_rfl) (by kernel_rfl) (by kernel_rfl) (by decide) (by kernel_rfl) (by kernel_rfl) (fun _ _ _ h => h) (Or.inl ⟨by kernel_rfl, by intro _ _; kernel_rfl⟩) s0 ?_
    go_simp
    refine wpAnyT_take (i := 3) (v := .pointer (some ⟨g2, 1, none⟩)) rfl (by kernel_rfl) (by kernel_rfl) (by kernel_rfl) (by kernel_rfl) (by decide) (by kernel_rfl) (by kernel_rfl) (fun _ _ _ h => h) (Or.inl ⟨by kernel_rfl, by intro _ _; kernel_rfl⟩) s0 ?_
    go_simp
    refine wpAnyT_take (i := 4) (v := .slice none 0 0) rfl (by kernel_rfl) (by kernel_rfl) (by kernel_rfl) (by kernel_rfl) (by decide) (by kernel_rfl) (by kernel_rfl) (fun _ _ _ h => h) (Or.inl ⟨by kernel_rfl, by rintro w h; obtain ⟨c1, c2, -⟩ := h.cells; go_simp⟩) s0 ?_
    go_simp
    refine wpAnyT_take (i := 5) (v := .int .u64 x) rfl (by kernel_rfl) (by kernel_rfl) (by kernel_rfl) (by kernel_rfl) (by decide) (by kernel_rfl) (by kernel_rfl) (fun _ _ _ h => h) (Or.inl ⟨by kernel_rfl, by intro _ _; kernel_rfl⟩) s0 ?_
    go_simp
    refine wpAnyT_take (i := 6) (v := .pointer (some ⟨g2, 0, none⟩)) rfl (by kernel_rfl) (by kernel_rfl) (by kernel_rfl) (by kernel_rfl) (by decide) (by kernel_rfl) (by kernel_rfl) (fun _ _ _ h => h) (Or.inl ⟨by kernel_rfl, by intro _ _; kernel_rfl⟩) s0 ?_
    go_simp
    refine wpAnyT_take (i := 7) (v := .pointer (some ⟨g2, 0, none⟩)) rfl (by kernel_rfl) (by kernel_rfl) (by kernel_rfl) (by kernel_rfl) (by decide) (by kernel_rfl) (by kernel_rfl) (fun _ _ _ h => h) (Or.inl ⟨by kernel_rfl, by intro _ _; kernel_rfl⟩) s0 ?_
    go_simp
    refine wpAnyT_take (i := 8) (v := .pointer (some ⟨g2, 0, none⟩)) rfl (by kernel_rfl) (by kernel_rfl) (by kernel_rfl) (by kernel_rfl) (by decide) (by kernel_rfl) (by kernel_rfl) (fun _ _ _ h => h) (Or.inl ⟨by kernel_rfl, by intro _ _; kernel_rfl⟩) s0 ?_
    go_simp
    refine wpAnyT_take (i := 9) (v := .int .u64 base) rfl (by kernel_rfl) (by kernel_rfl) (by kernel_rfl) (by kernel_rfl) (by decide) (by kernel_rfl) (by kernel_rfl) (fun _ _ _ h => h) (Or.inl ⟨by kernel_rfl, by rintro w h; obtain ⟨c1, c2, -⟩ := h.cells; go_simp⟩) s0 ?_
    go_simp
    refine wpAnyT_take (i := 10) (v := .int .u64 0) rfl (by kernel_rfl) (by kernel_rfl) (by kernel_rfl) (by kernel_rfl) (by decide) (by kernel_rfl) (by kernel_rfl) (fun _ _ _ h => h) (Or.inl ⟨by kernel_rfl, by rintro w h; obtain ⟨c1, c2, -⟩ := h.cells; go_simp⟩) s0 ?_
    go_simp
    refine wpAnyT_take (i := 11) (v := .slice none 0 0) rfl (by kernel_rfl) (by kernel_rfl) (by kernel_rfl) (by kernel_rfl) (by decide) (by kernel_rfl) (by kernel_rfl) (fun _ _ _ h => h) (Or.inl ⟨by kernel_rfl, by rintro w h; obtain ⟨c1, c2, -⟩ := h.cells; first | (go_simp; done) | (go_simp; omega)⟩) s0 ?_
    go_simp
    refine wpAnyT_take (i := 12) (v := .pointer (some ⟨g2, 0, none⟩)) rfl (by kernel_rfl) (by kernel_rfl) (by kernel_rfl) (by kernel_rfl) (by decide) (by kernel_rfl) (by kernel_rfl) (fun _ _ _ h => h) (Or.inl ⟨by kernel_rfl, by intro _ _; kernel_rfl⟩) s0 ?_
    go_simp
    refine wpAnyT_take (i := 13) (v := .pointer (some ⟨g2, 1, none⟩)) rfl (by kernel_rfl) (by kernel_rfl) (by kernel_rfl) (by kernel_rfl) (by decide) (by kernel_rfl) (by kernel_rfl) (fun _ _ _ h => h) (Or.inl ⟨by kernel_rfl, by intro _ _; kernel_rfl⟩) s0 ?_
    go_simp
    refine wpAnyT_last (by kernel_rfl) (by kernel_rfl) ?_
    refine wpAny_all (rs := [14]) (by kernel_rfl) (by simp) (fun j hj => ?_)
    rw [List.mem_singleton] at hj
    subst hj
    refine wpOp_step rfl (fun K hK => ?_)
    go_simp
    refine hK _ _ ?_
    clear hK K
    refine wpAny_done (by kernel_rfl) ?_ _
    have hfin : St B g g2 base l' s' none 0 0 (qs.take 0) (ps.take 0) (V0.setCell ⟨g2, 1, none⟩ (.slice none 0 0)) := hS.turned hP el es hon (hb3.setCell (p := ⟨g2, 1, none⟩) hS.B2 (.slice none 0 0)) (fun j hj => (set_other j hj).trans (ho3 j)) (ratg_set1 s0 none 0 0) (hS.tw.take 0) (fun p hp => List.mem_of_mem_take hp) hS.b0 (fun b' hb' => by cases hb') (by omega) (by rw [hps]; exact Rd.nil _ _)
    have hbfin : Below B w (V0.setCell ⟨g2, 1, none⟩ (.slice none 0 0)) := ((hbW.mono hBw).trans hon.bel).trans (hb3.setCell (p := ⟨g2, 1, none⟩) hS.B2 (.slice none 0 0))
    have hlen' : (qs.take 0).length = 0 := hfin.len.2
    rw [hlen'] at rn1 rn2
    have HT : Hid (Trans g g2 l s 0 l' s' 0 w (V0.setCell ⟨g2, 1, none⟩ (.slice none 0 0))) := Lib.hid (h.trans_app hbW hon.but (KeepsRow.same (fun j hj => hon.oth j (fun e => hog1 (by rw [hj, e])))) (KeepsRow.same (fun j hj => hon.oth j (fun e => hog2 (by rw [hj, e])))) (rn1 _) (rn2 _) (fun j hj => .inl (by rw [← el]; exact hj)) (fun j hj => .inl (by rw [← es]; exact hj)) (fun j _ hj => (set_other j hj).trans (ho3 j)) ((hb3.setCell (p := ⟨g2, 1, none⟩) hS.B2 (.slice none 0 0))).size)
    clear hlen' rn1 rn2 hog1 hog2
    clear d1 d2 dF s0
    generalize (V0.setCell ⟨g2, 1, none⟩ (.slice none 0 0)) = V4 at *
    go_wp2_with fail
    go_ret
    exact ⟨rfl, ⟨_, _, _, _, _, _, _, _, hfin, by omega, by have := HK.out; omega, HT.out⟩, hbfin⟩
  | some b =>
    have hlc := hS.rf.rq.rd.le
    have n0 : (0 : Int) ≤ (k : Int) := by omega
    have n1 : (k : Int) ≤ (n : Int) := by omega
    have n2 : (n : Int) ≤ (lc : Int) := by omega
    have n4 : (k : Int) ≤ (lc : Int) := by omega
    refine wp_region_T (k := 14) (S := RAtG g2 base (some b) n lc) hmo ?_
    change wpAnyT _ _ _ _ _ _ _ _ _ (World.drew W3)
    generalize W3.drew = V0 at *
    obtain ⟨d1, d2, dF⟩ := s0.cells
    refine wpAnyT_take (i := 0) (v := .pointer (some ⟨g2, 0, none⟩)) rfl (by kernel_rfl) (by kernel_rfl) (by kernel_rfl) (by kernel_rfl) (by decide) (by kernel_rfl) (by kernel_rfl) (fun _ _ _ h => h) (Or.inl ⟨by kernel_rfl, by intro _ _; kernel_rfl⟩) s0 ?_
    go_simp
    refine wpAnyT_take (i := 1) (v := .pointer (some ⟨g2, 0, none⟩)) rfl (by kernel_rfl) (by kernel_rfl) (by kernel_rfl) (by kernel_rfl) (by decide) (by kernel_rfl) (by kernel_rfl) (fun _ _ _ h => h) (Or.inl ⟨by kernel_rfl, by intro _ _; kernel_rfl⟩) s0 ?_
    go_simp
    refine wpAnyT_take (i := 2) (v := .pointer (some ⟨g2, 0, none⟩)) rfl (by kernel_rfl) (by kernel_rfl) (by kernel_rfl) (by kernel_rfl) (by decide) (by kernel_rfl) (by kernel_rfl) (fun _ _ _ h => h) (Or.inl ⟨by kernel_rfl, by intro _ _; kernel_rfl⟩) s0 ?_
    go_simp
    refine wpAnyT_take (i := 3) (v := .pointer (some ⟨g2, 1, none⟩)) rfl (by kernel_rfl) (by kernel_rfl) (by kernel_rfl) (by kernel_rfl) (by decide) (by kernel_rfl) (by kernel_rfl) (fun _ _ _ h => h) (Or.inl ⟨by kernel_rfl, by intro _ _; kernel_rfl⟩) s0 ?_
    go_simp
    refine wpAnyT_take (i := 4) (v := .slice (some b) n lc) rfl (by kernel_rfl) (by kernel_rfl) (by kernel_rfl) (by kernel_rfl) (by decide) (by kernel_rfl) (by kernel_rfl) (fun _ _ _ h => h) (Or.inl ⟨by kernel_rfl, by rintro w h; obtain ⟨c1, c2, -⟩ := h.cells; go_simp⟩) s0 ?_
    go_simp
    refine wpAnyT_take (i := 5) (v := .int .u64 x) rfl (by kernel_rfl) (by kernel_rfl) (by kernel_rfl) (by kernel_rfl) (by decide) (by kernel_rfl) (by kernel_rfl) (fun _ _ _ h => h) (Or.inl ⟨by kernel_rfl, by intro _ _; kernel_rfl⟩) s0 ?_
    go_simp
    refine wpAnyT_take (i := 6) (v := .pointer (some ⟨g2, 0, none⟩)) rfl (by kernel_rfl) (by kernel_rfl) (by kernel_rfl) (by kernel_rfl) (by decide) (by kernel_rfl) (by kernel_rfl) (fun _ _ _ h => h) (Or.inl ⟨by kernel_rfl, by intro _ _; kernel_rfl⟩) s0 ?_
    go_simp
    refine wpAnyT_take (i := 7) (v := .pointer (some ⟨g2, 0, none⟩)) rfl (by kernel_rfl) (by kernel_rfl) (by kernel_rfl) (by kernel_rfl) (by decide) (by kernel_rfl) (by kernel_rfl) (fun _ _ _ h => h) (Or.inl ⟨by kernel_rfl, by intro _ _; kernel_rfl⟩) s0 ?_
    go_simp
    refine wpAnyT_take (i := 8) (v := .pointer (some ⟨g2, 0, none⟩)) rfl (by kernel_rfl) (by kernel_rfl) (by kernel_rfl) (by kernel_rfl) (by decide) (by kernel_rfl) (by kernel_rfl) (fun _ _ _ h => h) (Or.inl ⟨by kernel_rfl, by intro _ _; kernel_rfl⟩) s0 ?_
    go_simp
    refine wpAnyT_take (i := 9) (v := .int .u64 base) rfl (by kernel_rfl) (by kernel_rfl) (by kernel_rfl) (by kernel_rfl) (by decide) (by kernel_rfl) (by kernel_rfl) (fun _ _ _ h => h) (Or.inl ⟨by kernel_rfl, by rintro w h; obtain ⟨c1, c2, -⟩ := h.cells; go_simp⟩) s0 ?_
    go_simp
    refine wpAnyT_take (i := 10) (v := .int .u64 (k : Int)) rfl (by kernel_rfl) (by kernel_rfl) (by kernel_rfl) (by kernel_rfl) (by decide) (by kernel_rfl) (by kernel_rfl) (fun _ _ _ h => h) (Or.inl ⟨by kernel_rfl, by rintro w h; obtain ⟨c1, c2, -⟩ := h.cells; go_simp⟩) s0 ?_
    go_simp
    refine wpAnyT_take (i := 11) (v := .slice (some b) k lc) rfl (by kernel_rfl) (by kernel_rfl) (by kernel_rfl) (by kernel_rfl) (by decide) (by kernel_rfl) (by kernel_rfl) (fun _ _ _ h => h) (Or.inl ⟨by kernel_rfl, by rintro w h; obtain ⟨c1, c2, -⟩ := h.cells; first | (go_simp; done) | (go_simp; omega)⟩) s0 ?_
    go_simp
    refine wpAnyT_take (i := 12) (v := .pointer (some ⟨g2, 0, none⟩)) rfl (by kernel_rfl) (by kernel_rfl) (by kernel_rfl) (by kernel_rfl) (by decide) (by kernel_rfl) (by kernel_rfl) (fun _ _ _ h => h) (Or.inl ⟨by kernel_rfl, by intro _ _; kernel_rfl⟩) s0 ?_
    go_simp
    refine wpAnyT_take (i := 13) (v := .pointer (some ⟨g2, 1, none⟩)) rfl (by kernel_rfl) (by kernel_rfl) (by kernel_rfl) (by kernel_rfl) (by decide) (by kernel_rfl) (by kernel_rfl) (fun _ _ _ h => h) (Or.inl ⟨by kernel_rfl, by intro _ _; kernel_rfl⟩) s0 ?_
    go_simp
    refine wpAnyT_last (by kernel_rfl) (by kernel_rfl) ?_
    refine wpAny_all (rs := [14]) (by kernel_rfl) (by simp) (fun j hj => ?_)
    rw [List.mem_singleton] at hj
    subst hj
    refine wpOp_step rfl (fun K hK => ?_)
    go_simp
    refine hK _ _ ?_
    clear hK K
    refine wpAny_done (by kernel_rfl) ?_ _
    have hfin : St B g g2 base l' s' (some b) k lc (qs.take k) (ps.take k) (V0.setCell ⟨g2, 1, none⟩ (.slice (some b) k lc)) := hS.turned hP el es hon (hb3.setCell (p := ⟨g2, 1, none⟩) hS.B2 (.slice (some b) k lc)) (fun j hj => (set_other j hj).trans (ho3 j)) (ratg_set1 s0 (some b) k lc) (hS.tw.take k) (fun p hp => List.mem_of_mem_take hp) hS.b0 (fun b' hb' => ⟨b', hb', rfl⟩) (by omega) (by have := take_rd hS.rf.rq.rd k hkn; rw [← reqV_take, ← List.map_take] at this; exact this)
    have hbfin : Below B w (V0.setCell ⟨g2, 1, none⟩ (.slice (some b) k lc)) := ((hbW.mono hBw).trans hon.bel).trans (hb3.setCell (p := ⟨g2, 1, none⟩) hS.B2 (.slice (some b) k lc))
    have hlen' : (qs.take k).length = k := hfin.len.2
    rw [hlen'] at rn1 rn2
    have HT : Hid (Trans g g2 l s n l' s' k w (V0.setCell ⟨g2, 1, none⟩ (.slice (some b) k lc))) := Lib.hid (h.trans_app hbW hon.but (KeepsRow.same (fun j hj => hon.oth j (fun e => hog1 (by rw [hj, e])))) (KeepsRow.same (fun j hj => hon.oth j (fun e => hog2 (by rw [hj, e])))) (rn1 _) (rn2 _) (fun j hj => .inl (by rw [← el]; exact hj)) (fun j hj => .inl (by rw [← es]; exact hj)) (fun j _ hj => (set_other j hj).trans (ho3 j)) ((hb3.setCell (p := ⟨g2, 1, none⟩) hS.B2 (.slice (some b) k lc))).size)
    clear hlen' rn1 rn2 hog1 hog2
    clear d1 d2 dF s0
    generalize (V0.setCell ⟨g2, 1, none⟩ (.slice (some b) k lc)) = V4 at *
    go_wp2_with fail
    go_ret
    exact ⟨rfl, ⟨_, _, _, _, _, _, _, _, hfin, by omega, by have := HK.out; omega, HT.out⟩, hbfin⟩

set_option maxRecDepth 100000 in
set_option maxHeartbeats 8000000 in
theorem do_drop (an : Int) (r : RV) (c : OC) (w : World) (h : St B g g2 base l s lo n lc qs ps w) (ho : OpAt w r.op c) (hn : n ≤ 1000) (hb : base ≤ 5000000000000000000) :
    Calls Tryz.prog 11 #[.pointer (some ⟨g, 0, none⟩), .pointer (some ⟨g2, 0, none⟩), AV.val ⟨3, an, r⟩] w (GivesDo B g g2 (base + n + 1) (n + 1) l s n w) := by
  have hmo : Tryz.prog.follows .mixedOrders = true := by kernel_rfl
  have hgl := h.pl.log.lt
  have hBw : B ≤ w.heap.size := by have := h.pl.log.le; omega
  obtain ⟨x, hxx⟩ : ∃ x, IntKind.wrap .u64 (base + an) = x := ⟨_, rfl⟩
  simp only [AV.val, AV.cells]
  go_enter Tryz.func11, Tryz.ntmps11
  go_upto_region 1 with fail
  generalize hg0 : w.alloc _ = W0
  have e0 : w.alloc (AV.box ⟨3, an, r⟩) = W0 := by simp only [AV.box, AV.cells]; exact hg0
  have hb0 : Below w.heap.size w W0 := by rw [← e0]; exact (Below.refl _ _).alloc (Nat.le_refl _) _
  have k0 : W0.heap[w.heap.size]? = some (AV.box ⟨3, an, r⟩) := by rw [← e0]; show (w.heap.push _)[w.heap.size]? = some _; exact Array.getElem?_push_size
  clear hg0 e0
  have h0 := h.later hb0
  obtain ⟨d0, d1, -⟩ := (show RAtG g2 base lo n lc W0 from h0.rf.at_).cells
  obtain ⟨a0, a1, -⟩ := abox_all k0
  dsimp only at a0 a1
  go_quiet (fail)
  have hbq := below_drewN (Below.refl W0.heap.size W0) nq
  have kk1 : (W0.drewN nq).heap[w.heap.size]? = some (AV.box ⟨3, an, r⟩) := k0
  have hS := h0.later hbq
  have hbW := hb0.trans (hbq.mono hb0.size)
  have hoW := ho.later hbW
  clear d0 d1 a0 a1 k0 hbq h0 hb0
  generalize W0.drewN nq = W1 at *
  obtain ⟨a0, a1, a2, a3, a4, a5, a6, a7, a8, a9, a10, -⟩ := abox_all kk1
  dsimp only at a0 a1 a2 a3 a4 a5 a6 a7 a8 a9 a10
  have hoA : w.heap.size ≠ g := by omega
  have hoA2 : w.heap.size ≠ g2 := by have := h.g2_lt; omega
  have HX := Lib.hid hxx
  have hwx : 0 ≤ x := by rw [← hxx, IntKind.wrap_u64]; omega
  obtain ⟨hpl, hql⟩ := hS.len
  obtain ⟨lo', lc', so', sc', e1, e2, hR⟩ := hS.pl.rd
  rw [hql] at e1 e2 hR
  have HQL := Lib.hid hql
  have HPL := Lib.hid hpl
  have HE1 := Lib.hid e1
  have HE2 := Lib.hid e2
  clear hpl hql e1 e2 hxx hoW ho
  by_cases hin : base ≤ x ∧ x ≤ base + n
  case neg =>
    have hno := drop_no g base n lo' lc' so' sc' _ _ x W1 hR (by omega) hS.b0 (by omega) hin
    have hfal : (decide (base ≤ x) && decide (x ≤ base + n)) = false := by
      rw [Bool.and_eq_false_iff, decide_eq_false_iff_not, decide_eq_false_iff_not]; omega
    clear hin
    go_wp2_with fail
    refine hno.mono ?_
    rintro e w2 ⟨rfl, q, rfl⟩
    have hbq := below_drewN (Below.refl W1.heap.size W1) q
    have kk2 : (W1.drewN q).heap[w.heap.size]? = some (AV.box ⟨3, an, r⟩) := kk1
    have hS2 := hS.later hbq
    have hbW2 := hbW.trans (hbq.mono hbW.size)
    clear hbq a0 a1 a2 a3 a4 a5 a6 a7 a8 a9 a10
    generalize W1.drewN q = W2 at *
    have hri := rin_log g2 base lo n lc ps x W2 hS2.rf (by omega) hS2.b0 (by omega)
    rw [hfal] at hri
    go_wp2_with fail
    refine hri.mono ?_
    rintro e w3 ⟨rfl, q3, rfl⟩
    have hbq := below_drewN (Below.refl W2.heap.size W2) q3
    have hS3 := hS2.later hbq
    have hbW3 := hbW2.trans (hbq.mono hbW2.size)
    clear hbq
    generalize W2.drewN q3 = W3 at *
    go_wp2_with fail
    go_ret
    exact ⟨rfl, ⟨_, _, _, _, _, _, _, _, hS3, by omega, by omega, h.trans_id hbW3⟩, hbW3.mono hBw⟩
  obtain ⟨k, hk⟩ : ∃ k : Nat, x = base + (k : Nat) := ⟨(x - base).toNat, by omega⟩
  have hkn : k ≤ n := by omega
  have hcd := drop_any x k hS.pl (by rw [HQL.out]; omega) hS.b0 (by omega) hk (by rw [HQL.out]; exact hkn)
  have hsub : IntKind.wrap .u64 (x - base) = (k : Nat) := by rw [hk, IntKind.wrap_u64]; omega
  have htru : (decide (base ≤ x) && decide (x ≤ base + n)) = true := by
    rw [Bool.and_eq_true, decide_eq_true_eq, decide_eq_true_eq]; exact hin
  have HK := Lib.hid hk
  clear hin hk
  go_wp2_with fail
  refine hcd.mono ?_
  rintro e w2 ⟨rfl, l', s', hP, el, es, hon, rn1, rn2⟩
  rw [HQL.out] at rn1 rn2
  have hog1 := hS.pl.g_ne.1
  have hog2 := hS.pl.g_ne.2
  have hr2 := hS.ref_but hon.bel hon.but
  have kk2 : w2.heap[w.heap.size]? = some (AV.box ⟨3, an, r⟩) := (hon.oth _ hoA).trans kk1
  have hri := rin_log g2 base lo n lc ps x w2 hr2 (by omega) hS.b0 (by omega)
  rw [htru] at hri
  clear a0 a1 a2 a3 a4 a5 a6 a7 a8 a9 a10
  go_wp2_with fail
  refine hri.mono ?_
  rintro e w3 ⟨rfl, q3, rfl⟩
  have hbq := below_drewN (Below.refl B w2) q3
  have hoq : ∀ j : Nat, (w2.drewN q3).heap[j]? = w2.heap[j]? := fun _ => rfl
  have kk3 : (w2.drewN q3).heap[w.heap.size]? = some (AV.box ⟨3, an, r⟩) := kk2
  have hr3 : RAtG g2 base lo n lc (w2.drewN q3) := hr2.at_
  generalize w2.drewN q3 = W3 at *
  obtain ⟨a0, a1, a2, a3, a4, a5, a6, a7, a8, a9, a10, -⟩ := abox_all kk3
  dsimp only at a0 a1 a2 a3 a4 a5 a6 a7 a8 a9 a10
  obtain ⟨d0, d1, -⟩ := hr3.cells
  go_upto_region 17 with fail
  clear a0 a1 a2 a3 a4 a5 a6 a7 a8 a9 a10 d0 d1
  have s0 : RAtG g2 base lo n lc W3.drew := hr3
  have hb3 : Below B w2 W3.drew := hbq.drew
  have ho3 : ∀ j : Nat, W3.drew.heap[j]? = w2.heap[j]? := fun j => hoq j
  have hdp : (W1.heap.size ≤ W1.heap.size) := Nat.le_refl _
  cases lo with
  | none =>
    have hl0 : lc = 0 := hS.rf.rq.rd.2.2.2.1 rfl
    have hn0 : n = 0 := by have := hS.rf.rq.rd.le; omega
    subst hl0
    subst hn0
    have hk0 : k = 0 := by omega
    subst hk0
    have hps : ps.drop 0 = [] := by rw [List.drop_zero]; exact List.eq_nil_of_length_eq_zero HPL.out
    refine wp_region_T (k := 14) (S := RAtG g2 base none 0 0) hmo ?_
    change wpAnyT _ _ _ _ _ _ _ _ _ (World.drew W3)
    generalize W3.drew = V0 at *
    obtain ⟨d1, d2, dF⟩ := s0.cells
    refine wpAnyT_take (i := 0) (v := .pointer (some ⟨g2, 0, none⟩)) rfl (by kernel_rfl) (by kernel_rfl) (by kernel_rfl) (by kernel_rfl) (by decide) (by kernel_rfl) (by kernel_rfl) (fun _ _ _ h => h) (Or.inl ⟨by kernel_rfl, by intro _ _; kernel_rfl⟩) s0 ?_
    go_simp
    refine wpAnyT_take (i := 1) (v := .pointer (some ⟨g2, 0, none⟩)) rfl (by kernel_rfl) (by kernel_rfl) (by kernel_rfl) (by kernel_rfl) (by decide) (by kernel_rfl) (by kernel_rfl) (fun _ _ _ h => h) (Or.inl ⟨by kernel_rfl, by intro _ _; kernel_rfl⟩) s0 ?_
    go_simp
    refine wpAnyT_take (i := 2) (v := .pointer (some ⟨g2, 0, none⟩)) rfl (by kernel_rfl) (by kernel_rfl) (by kernel_rfl) (by kernel_rfl) (by decide) (by kernel_rfl) (by kernel_rfl) (fun _ _ _ h => h) (Or.inl ⟨by kernel_rfl, by intro _ _; kernel_rfl⟩) s0 ?_
    go_simp
    refine wpAnyT_take (i := 3) (v := .pointer (some ⟨g2, 1, none⟩)) rfl (by kernel_rfl) (by kernel_rfl) (by kernel_rfl) (by kernel_rfl) (by decide) (by kernel_rfl) (by kernel_rfl) (fun _ _ _ h => h) (Or.inl ⟨by kernel_rfl, by intro _ _; kernel_rfl⟩) s0 ?_
    go_simp
    refine wpAnyT_take (i := 4) (v := .slice none 0 0) rfl (by kernel_rfl) (by kernel_rfl) (by kernel_rfl) (by kernel_rfl) (by decide) (by kernel_rfl) (by kernel_rfl) (fun _ _ _ h => h) (Or.inl ⟨by kernel_rfl, by rintro w h; obtain ⟨c1, c2, -⟩ := h.cells; go_simp⟩) s0 ?_
    go_simp
    refine wpAnyT_take (i := 5) (v := .int .u64 x) rfl (by kernel_rfl) (by kernel_rfl) (by kernel_rfl) (by kernel_rfl) (by decide) (by kernel_rfl) (by kernel_rfl) (fun _ _ _ h => h) (Or.inl ⟨by kernel_rfl, by intro _ _; kernel_rfl⟩) s0 ?_
    go_simp
    refine wpAnyT_take (i := 6) (v := .pointer (some ⟨g2, 0, none⟩)) rfl (by kernel_rfl) (by kernel_rfl) (by kernel_rfl) (by kernel_rfl) (by decide) (by kernel_rfl) (by kernel_rfl) (fun _ _ _ h => h) (Or.inl ⟨by kernel_rfl, by intro _ _; kernel_rfl⟩) s0 ?_
    go_simp
    refine wpAnyT_take (i := 7) (v := .pointer (some ⟨g2, 0, none⟩)) rfl (by kernel_rfl) (by kernel_rfl) (by kernel_rfl) (by kernel_rfl) (by decide) (by kernel_rfl) (by kernel_rfl) (fun _ _ _ h => h) (Or.inl ⟨by kernel_rfl, by intro _ _; kernel_rfl⟩) s0 ?_
    go_simp
    refine wpAnyT_take (i := 8) (v := .pointer (some ⟨g2, 0, none⟩)) rfl (by kernel_rfl) (by kernel_rfl) (by kernel_rfl) (by kernel_rfl) (by decide) (by kernel_rfl) (by kernel_rfl) (fun _ _ _ h => h) (Or.inl ⟨by kernel_rfl, by intro _ _; kernel_rfl⟩) s0 ?_
    go_simp
    refine wpAnyT_take (i := 9) (v := .int .u64 base) rfl (by kernel_rfl) (by kernel_rfl) (by kernel_rfl) (by kernel_rfl) (by decide) (by kernel_rfl) (by kernel_rfl) (fun _ _ _ h => h) (Or.inl ⟨by kernel_rfl, by rintro w h; obtain ⟨c1, c2, -⟩ := h.cells; go_simp⟩) s0 ?_
    go_simp
    refine wpAnyT_take (i := 10) (v := .int .u64 0) rfl (by kernel_rfl) (by kernel_rfl) (by kernel_rfl) (by kernel_rfl) (by decide) (by kernel_rfl) (by kernel_rfl) (fun _ _ _ h => h) (Or.inl ⟨by kernel_rfl, by rintro w h; obtain ⟨c1, c2, -⟩ := h.cells; go_simp⟩) s0 ?_
    go_simp
    refine wpAnyT_take (i := 11) (v := .slice none 0 0) rfl (by kernel_rfl) (by kernel_rfl) (by kernel_rfl) (by kernel_rfl) (by decide) (by kernel_rfl) (by kernel_rfl) (fun _ _ _ h => h) (Or.inl ⟨by kernel_rfl, by rintro w h; obtain ⟨c1, c2, -⟩ := h.cells; first | (go_simp; done) | (go_simp; omega)⟩) s0 ?_
    go_simp
    refine wpAnyT_take (i := 12) (v := .pointer (some ⟨g2, 0, none⟩)) rfl (by kernel_rfl) (by kernel_rfl) (by kernel_rfl) (by kernel_rfl) (by decide) (by kernel_rfl) (by kernel_rfl) (fun _ _ _ h => h) (Or.inl ⟨by kernel_rfl, by intro _ _; kernel_rfl⟩) s0 ?_
    go_simp
    refine wpAnyT_take (i := 13) (v := .pointer (some ⟨g2, 1, none⟩)) rfl (by kernel_rfl) (by kernel_rfl) (by kernel_rfl) (by kernel_rfl) (by decide) (by kernel_rfl) (by kernel_rfl) (fun _ _ _ h => h) (Or.inl ⟨by kernel_rfl, by intro _ _; kernel_rfl⟩) s0 ?_
    go_simp
    refine wpAnyT_last (by kernel_rfl) (by kernel_rfl) ?_
    refine wpAny_all (rs := [14]) (by kernel_rfl) (by simp) (fun j hj => ?_)
    rw [List.mem_singleton] at hj
    subst hj
    refine wpOp_step rfl (fun K hK => ?_)
    go_simp
    refine hK _ _ ?_
    clear hK K
    refine wpAny_done (by kernel_rfl) ?_ _
    have q0 := ratg_set1 s0 none 0 0
    obtain ⟨d3, d4, dF2⟩ := q0.cells
    have hfin : St B g g2 x l' s' none 0 0 (qs.drop 0) (ps.drop 0) ((V0.setCell ⟨g2, 1, none⟩ (.slice none 0 0)).setCell ⟨g2, 0, none⟩ (.int .u64 x)) := hS.turned hP el es hon ((hb3.setCell (p := ⟨g2, 1, none⟩) hS.B2 (.slice none 0 0)).setCell (p := ⟨g2, 0, none⟩) hS.B2 (.int .u64 x)) (fun j hj => (set_other j hj).trans ((set_other j hj).trans (ho3 j))) (ratg_set0 (ratg_set1 s0 none 0 0) x) (hS.tw.drop 0) (fun p hp => List.mem_of_mem_drop hp) hwx (fun b' hb' => by cases hb') (by omega) (by rw [hps]; exact Rd.nil _ _)
    have hbfin : Below B w ((V0.setCell ⟨g2, 1, none⟩ (.slice none 0 0)).setCell ⟨g2, 0, none⟩ (.int .u64 x)) := ((hbW.mono hBw).trans hon.bel).trans ((hb3.setCell (p := ⟨g2, 1, none⟩) hS.B2 (.slice none 0 0)).setCell (p := ⟨g2, 0, none⟩) hS.B2 (.int .u64 x))
    have hlen' : (qs.drop 0).length = 0 := hfin.len.2
    rw [hlen'] at rn1 rn2
    have HT : Hid (Trans g g2 l s 0 l' s' 0 w ((V0.setCell ⟨g2, 1, none⟩ (.slice none 0 0)).setCell ⟨g2, 0, none⟩ (.int .u64 x))) := Lib.hid (h.trans_app hbW hon.but (KeepsRow.same (fun j hj => hon.oth j (fun e => hog1 (by rw [hj, e])))) (KeepsRow.same (fun j hj => hon.oth j (fun e => hog2 (by rw [hj, e])))) (rn1 _) (rn2 _) (fun j hj => .inl (by rw [← el]; exact hj)) (fun j hj => .inl (by rw [← es]; exact hj)) (fun j _ hj => (set_other j hj).trans ((set_other j hj).trans (ho3 j))) (((hb3.setCell (p := ⟨g2, 1, none⟩) hS.B2 (.slice none 0 0)).setCell (p := ⟨g2, 0, none⟩) hS.B2 (.int .u64 x))).size)
    clear hlen' rn1 rn2 hog1 hog2
    have HF := Lib.hid hfin
    have HB := Lib.hid hbfin
    clear hfin hbfin d1 d2 dF s0 q0 hb3 ho3
    generalize V0.setCell ⟨g2, 1, none⟩ (.slice none 0 0) = V3 at *
    go_wp2_with fail
    go_ret
    exact ⟨rfl, ⟨_, _, _, _, _, _, _, _, HF.out, by omega, by have := HK.out; omega, HT.out⟩, HB.out⟩
  | some b =>
    have hlc := hS.rf.rq.rd.le
    have n0 : (0 : Int) ≤ (k : Int) := by omega
    have n1 : (k : Int) ≤ (n : Int) := by omega
    have n2 : (n : Int) ≤ (lc : Int) := by omega
    have n4 : (k : Int) ≤ (lc : Int) := by omega
    by_cases hkl : k < lc
    · obtain ⟨b1, o1, sp⟩ := b
      have hspn : sp = none := (hS.rf.rq.rd.2.2.2.2 (by omega) _ rfl).1
      subst hspn
      refine wp_region_T (k := 14) (S := RAtG g2 base (some ⟨b1, o1, none⟩) n lc) hmo ?_
      change wpAnyT _ _ _ _ _ _ _ _ _ (World.drew W3)
      generalize W3.drew = V0 at *
      obtain ⟨d1, d2, dF⟩ := s0.cells
      refine wpAnyT_take (i := 0) (v := .pointer (some ⟨g2, 0, none⟩)) rfl (by kernel_rfl) (by kernel_rfl) (by kernel_rfl) (by kernel_rfl) (by decide) (by kernel_rfl) (by kernel_rfl) (fun _ _ _ h => h) (Or.inl ⟨by kernel_rfl, by intro _ _; kernel_rfl⟩) s0 ?_
      go_simp
      refine wpAnyT_take (i := 1) (v := .pointer (some ⟨g2, 0, none⟩)) rfl (by kernel_rfl) (by kernel_rfl) (by kernel_rfl) (by kernel_rfl) (by decide) (by kernel_rfl) (by kernel_rfl) (fun _ _ _ h => h) (Or.inl ⟨by kernel_rfl, by intro _ _; kernel_rfl⟩) s0 ?_
      go_simp
      refine wpAnyT_take (i := 2) (v := .pointer (some ⟨g2, 0, none⟩)) rfl (by kernel_rfl) (by kernel_rfl) (by kernel_rfl) (by kernel_rfl) (by decide) (by kernel_rfl) (by kernel_rfl) (fun _ _ _ h => h) (Or.inl ⟨by kernel_rfl, by intro _ _; kernel_rfl⟩) s0 ?_
      go_simp
      refine wpAnyT_take (i := 3) (v := .pointer (some ⟨g2, 1, none⟩)) rfl (by kernel_rfl) (by kernel_rfl) (by kernel_rfl) (by kernel_rfl) (by decide) (by kernel_rfl) (by kernel_rfl) (fun _ _ _ h => h) (Or.inl ⟨by kernel_rfl, by intro _ _; kernel_rfl⟩) s0 ?_
      go_simp
      refine wpAnyT_take (i := 4) (v := .slice (some ⟨b1, o1, none⟩) n lc) rfl (by kernel_rfl) (by kernel_rfl) (by kernel_rfl) (by kernel_rfl) (by decide) (by kernel_rfl) (by kernel_rfl) (fun _ _ _ h => h) (Or.inl ⟨by kernel_rfl, by rintro w h; obtain ⟨c1, c2, -⟩ := h.cells; go_simp⟩) s0 ?_
      go_simp
      refine wpAnyT_take (i := 5) (v := .int .u64 x) rfl (by kernel_rfl) (by kernel_rfl) (by kernel_rfl) (by kernel_rfl) (by decide) (by kernel_rfl) (by kernel_rfl) (fun _ _ _ h => h) (Or.inl ⟨by kernel_rfl, by intro _ _; kernel_rfl⟩) s0 ?_
      go_simp
      refine wpAnyT_take (i := 6) (v := .pointer (some ⟨g2, 0, none⟩)) rfl (by kernel_rfl) (by kernel_rfl) (by kernel_rfl) (by kernel_rfl) (by decide) (by kernel_rfl) (by kernel_rfl) (fun _ _ _ h => h) (Or.inl ⟨by kernel_rfl, by intro _ _; kernel_rfl⟩) s0 ?_
      go_simp
      refine wpAnyT_take (i := 7) (v := .pointer (some ⟨g2, 0, none⟩)) rfl (by kernel_rfl) (by kernel_rfl) (by kernel_rfl) (by kernel_rfl) (by decide) (by kernel_rfl) (by kernel_rfl) (fun _ _ _ h => h) (Or.inl ⟨by kernel_rfl, by intro _ _; kernel_rfl⟩) s0 ?_
      go_simp
      refine wpAnyT_take (i := 8) (v := .pointer (some ⟨g2, 0, none⟩)) rfl (by kernel_rfl) (by kernel_rfl) (by kernel_rfl) (by kernel_rfl) (by decide) (by kernel_rfl) (by kernel_rfl) (fun _ _ _ h => h) (Or.inl ⟨by kernel_rfl, by intro _ _; kernel_rfl⟩) s0 ?_
      go_simp
      refine wpAnyT_take (i := 9) (v := .int .u64 base) rfl (by kernel_rfl) (by kernel_rfl) (by kernel_rfl) (by kernel_rfl) (by decide) (by kernel_rfl) (by kernel_rfl) (fun _ _ _ h => h) (Or.inl ⟨by kernel_rfl, by rintro w h; obtain ⟨c1, c2, -⟩ := h.cells; go_simp⟩) s0 ?_
      go_simp
      refine wpAnyT_take (i := 10) (v := .int .u64 (k : Int)) rfl (by kernel_rfl) (by kernel_rfl) (by kernel_rfl) (by kernel_rfl) (by decide) (by kernel_rfl) (by kernel_rfl) (fun _ _ _ h => h) (Or.inl ⟨by kernel_rfl, by rintro w h; obtain ⟨c1, c2, -⟩ := h.cells; go_simp⟩) s0 ?_
      go_simp
      refine wpAnyT_take (i := 11) (v := .slice (some ⟨b1, o1 + k * 9, none⟩) (n - k) (lc - k)) rfl (by kernel_rfl) (by kernel_rfl) (by kernel_rfl) (by kernel_rfl) (by decide) (by kernel_rfl) (by kernel_rfl) (fun _ _ _ h => h) (Or.inl ⟨by kernel_rfl, by rintro w h; obtain ⟨c1, c2, -⟩ := h.cells; first | (go_simp; done) | (go_simp; omega)⟩) s0 ?_
      go_simp
      refine wpAnyT_take (i := 12) (v := .pointer (some ⟨g2, 0, none⟩)) rfl (by kernel_rfl) (by kernel_rfl) (by kernel_rfl) (by kernel_rfl) (by decide) (by kernel_rfl) (by kernel_rfl) (fun _ _ _ h => h) (Or.inl ⟨by kernel_rfl, by intro _ _; kernel_rfl⟩) s0 ?_
      go_simp
      refine wpAnyT_take (i := 13) (v := .pointer (some ⟨g2, 1, none⟩)) rfl (by kernel_rfl) (by kernel_rfl) (by kernel_rfl) (by kernel_rfl) (by decide) (by kernel_rfl) (by kernel_rfl) (fun _ _ _ h => h) (Or.inl ⟨by kernel_rfl, by intro _ _; kernel_rfl⟩) s0 ?_
      go_simp
      refine wpAnyT_last (by kernel_rfl) (by kernel_rfl) ?_
      refine wpAny_all (rs := [14]) (by kernel_rfl) (by simp) (fun j hj => ?_)
      rw [List.mem_singleton] at hj
      subst hj
      refine wpOp_step rfl (fun K hK => ?_)
      go_simp
      refine hK _ _ ?_
      clear hK K
      refine wpAny_done (by kernel_rfl) ?_ _
      have q0 := ratg_set1 s0 (some ⟨b1, o1 + k * 9, none⟩) (n - k) (lc - k)
      obtain ⟨d3, d4, dF2⟩ := q0.cells
      have hfin : St B g g2 x l' s' (some ⟨b1, o1 + k * 9, none⟩) (n - k) (lc - k) (qs.drop k) (ps.drop k) ((V0.setCell ⟨g2, 1, none⟩ (.slice (some ⟨b1, o1 + k * 9, none⟩) (n - k) (lc - k))).setCell ⟨g2, 0, none⟩ (.int .u64 x)) := hS.turned hP el es hon ((hb3.setCell (p := ⟨g2, 1, none⟩) hS.B2 (.slice (some ⟨b1, o1 + k * 9, none⟩) (n - k) (lc - k))).setCell (p := ⟨g2, 0, none⟩) hS.B2 (.int .u64 x)) (fun j hj => (set_other j hj).trans ((set_other j hj).trans (ho3 j))) (ratg_set0 (ratg_set1 s0 (some ⟨b1, o1 + k * 9, none⟩) (n - k) (lc - k)) x) (hS.tw.drop k) (fun p hp => List.mem_of_mem_drop hp) hwx (fun b' hb' => by cases hb'; exact ⟨_, rfl, rfl⟩) (by omega) (by have := rd_drop hS.rf.rq.rd k hkn; rw [← reqV_drop, ← List.map_drop] at this; exact this)
      have hbfin : Below B w ((V0.setCell ⟨g2, 1, none⟩ (.slice (some ⟨b1, o1 + k * 9, none⟩) (n - k) (lc - k))).setCell ⟨g2, 0, none⟩ (.int .u64 x)) := ((hbW.mono hBw).trans hon.bel).trans ((hb3.setCell (p := ⟨g2, 1, none⟩) hS.B2 (.slice (some ⟨b1, o1 + k * 9, none⟩) (n - k) (lc - k))).setCell (p := ⟨g2, 0, none⟩) hS.B2 (.int .u64 x))
      have hlen' : (qs.drop k).length = (n - k) := hfin.len.2
      rw [hlen'] at rn1 rn2
      have HT : Hid (Trans g g2 l s n l' s' (n - k) w ((V0.setCell ⟨g2, 1, none⟩ (.slice (some ⟨b1, o1 + k * 9, none⟩) (n - k) (lc - k))).setCell ⟨g2, 0, none⟩ (.int .u64 x))) := Lib.hid (h.trans_app hbW hon.but (KeepsRow.same (fun j hj => hon.oth j (fun e => hog1 (by rw [hj, e])))) (KeepsRow.same (fun j hj => hon.oth j (fun e => hog2 (by rw [hj, e])))) (rn1 _) (rn2 _) (fun j hj => .inl (by rw [← el]; exact hj)) (fun j hj => .inl (by rw [← es]; exact hj)) (fun j _ hj => (set_other j hj).trans ((set_other j hj).trans (ho3 j))) (((hb3.setCell (p := ⟨g2, 1, none⟩) hS.B2 (.slice (some ⟨b1, o1 + k * 9, none⟩) (n - k) (lc - k))).setCell (p := ⟨g2, 0, none⟩) hS.B2 (.int .u64 x))).size)
      clear hlen' rn1 rn2 hog1 hog2
      have HF := Lib.hid hfin
      have HB := Lib.hid hbfin
      clear hfin hbfin d1 d2 dF s0 q0 hb3 ho3
      generalize V0.setCell ⟨g2, 1, none⟩ (.slice (some ⟨b1, o1 + k * 9, none⟩) (n - k) (lc - k)) = V3 at *
      go_wp2_with fail
      go_ret
      exact ⟨rfl, ⟨_, _, _, _, _, _, _, _, HF.out, by omega, by have := HK.out; omega, HT.out⟩, HB.out⟩
    · have e3 : lc = k := by omega
      have e4 : n = k := by omega
      subst e3
      subst e4
      refine wp_region_T (k := 14) (S := RAtG g2 base (some b) n n) hmo ?_
      change wpAnyT _ _ _ _ _ _ _ _ _ (World.drew W3)
      generalize W3.drew = V0 at *
      obtain ⟨d1, d2, dF⟩ := s0.cells
      refine wpAnyT_take (i := 0) (v := .pointer (some ⟨g2, 0, none⟩)) rfl (by kernel_rfl) (by kernel_rfl) (by kernel_rfl) (by kernel_rfl) (by decide) (by kernel_rfl) (by kernel_rfl) (fun _ _ _ h => h) (Or.inl ⟨by kernel_rfl, by intro _ _; kernel_rfl⟩) s0 ?_
      go_simp
      refine wpAnyT_take (i := 1) (v := .pointer (some ⟨g2, 0, none⟩)) rfl (by kernel_rfl) (by kernel_rfl) (by kernel_rfl) (by kernel_rfl) (by decide) (by kernel_rfl) (by kernel_rfl) (fun _ _ _ h => h) (Or.inl ⟨by kernel_rfl, by intro _ _; kernel_rfl⟩) s0 ?_
      go_simp
      refine wpAnyT_take (i := 2) (v := .pointer (some ⟨g2, 0, none⟩)) rfl (by kernel_rfl) (by kernel_rfl) (by kernel_rfl) (by kernel_rfl) (by decide) (by kernel_rfl) (by kernel_rfl) (fun _ _ _ h => h) (Or.inl ⟨by kernel_rfl, by intro _ _; kernel_rfl⟩) s0 ?_
      go_simp
      refine wpAnyT_take (i := 3) (v := .pointer (some ⟨g2, 1, none⟩)) rfl (by kernel_rfl) (by kernel_rfl) (by kernel_rfl) (by kernel_rfl) (by decide) (by kernel_rfl) (by kernel_rfl) (fun _ _ _ h => h) (Or.inl ⟨by kernel_rfl, by intro _ _; kernel_rfl⟩) s0 ?_
      go_simp
      refine wpAnyT_take (i := 4) (v := .slice (some b) n n) rfl (by kernel_rfl) (by kernel_rfl) (by kernel_rfl) (by kernel_rfl) (by decide) (by kernel_rfl) (by kernel_rfl) (fun _ _ _ h => h) (Or.inl ⟨by kernel_rfl, by rintro w h; obtain ⟨c1, c2, -⟩ := h.cells; go_simp⟩) s0 ?_
      go_simp
      refine wpAnyT_take (i := 5) (v := .int .u64 x) rfl (by kernel_rfl) (by kernel_rfl) (by kernel_rfl) (by kernel_rfl) (by decide) (by kernel_rfl) (by kernel_rfl) (fun _ _ _ h => h) (Or.inl ⟨by kernel_rfl, by intro _ _; kernel_rfl⟩) s0 ?_
      go_simp
      refine wpAnyT_take (i := 6) (v := .pointer (some ⟨g2, 0, none⟩)) rfl (by kernel_rfl) (by kernel_rfl) (by kernel_rfl) (by kernel_rfl) (by decide) (by kernel_rfl) (by kernel_rfl) (fun _ _ _ h => h) (Or.inl ⟨by kernel_rfl, by intro _ _; kernel_rfl⟩) s0 ?_
      go_simp
      refine wpAnyT_take (i := 7) (v := .pointer (some ⟨g2, 0, none⟩)) rfl (by kernel_rfl) (by kernel_rfl) (by kernel_rfl) (by kernel_rfl) (by decide) (by kernel_rfl) (by kernel_rfl) (fun _ _ _ h => h) (Or.inl ⟨by kernel_rfl, by intro _ _; kernel_rfl⟩) s0 ?_
      go_simp
      refine wpAnyT_take (i := 8) (v := .pointer (some ⟨g2, 0, none⟩)) rfl (by kernel_rfl) (by kernel_rfl) (by kernel_rfl) (by kernel_rfl) (by decide) (by kernel_rfl) (by kernel_rfl) (fun _ _ _ h => h) (Or.inl ⟨by kernel_rfl, by intro _ _; kernel_rfl⟩) s0 ?_
      go_simp
      refine wpAnyT_take (i := 9) (v := .int .u64 base) rfl (by kernel_rfl) (by kernel_rfl) (by kernel_rfl) (by kernel_rfl) (by decide) (by kernel_rfl) (by kernel_rfl) (fun _ _ _ h => h) (Or.inl ⟨by kernel_rfl, by rintro w h; obtain ⟨c1, c2, -⟩ := h.cells; go_simp⟩) s0 ?_
      go_simp
      refine wpAnyT_take (i := 10) (v := .int .u64 (n : Int)) rfl (by kernel_rfl) (by kernel_rfl) (by kernel_rfl) (by kernel_rfl) (by decide) (by kernel_rfl) (by kernel_rfl) (fun _ _ _ h => h) (Or.inl ⟨by kernel_rfl, by rintro w h; obtain ⟨c1, c2, -⟩ := h.cells; go_simp⟩) s0 ?_
      go_simp
      refine wpAnyT_take (i := 11) (v := .slice (some b) 0 0) rfl (by kernel_rfl) (by kernel_rfl) (by kernel_rfl) (by kernel_rfl) (by decide) (by kernel_rfl) (by kernel_rfl) (fun _ _ _ h => h) (Or.inl ⟨by kernel_rfl, by rintro w h; obtain ⟨c1, c2, -⟩ := h.cells; first | (go_simp; done) | (go_simp; omega)⟩) s0 ?_
      go_simp
      refine wpAnyT_take (i := 12) (v := .pointer (some ⟨g2, 0, none⟩)) rfl (by kernel_rfl) (by kernel_rfl) (by kernel_rfl) (by kernel_rfl) (by decide) (by kernel_rfl) (by kernel_rfl) (fun _ _ _ h => h) (Or.inl ⟨by kernel_rfl, by intro _ _; kernel_rfl⟩) s0 ?_
      go_simp
      refine wpAnyT_take (i := 13) (v := .pointer (some ⟨g2, 1, none⟩)) rfl (by kernel_rfl) (by kernel_rfl) (by kernel_rfl) (by kernel_rfl) (by decide) (by kernel_rfl) (by kernel_rfl) (fun _ _ _ h => h) (Or.inl ⟨by kernel_rfl, by intro _ _; kernel_rfl⟩) s0 ?_
      go_simp
      refine wpAnyT_last (by kernel_rfl) (by kernel_rfl) ?_
      refine wpAny_all (rs := [14]) (by kernel_rfl) (by simp) (fun j hj => ?_)
      rw [List.mem_singleton] at hj
      subst hj
      refine wpOp_step rfl (fun K hK => ?_)
      go_simp
      refine hK _ _ ?_
      clear hK K
      refine wpAny_done (by kernel_rfl) ?_ _
      have q0 := ratg_set1 s0 (some b) 0 0
      obtain ⟨d3, d4, dF2⟩ := q0.cells
      have hfin : St B g g2 x l' s' (some b) 0 0 (qs.drop n) (ps.drop n) ((V0.setCell ⟨g2, 1, none⟩ (.slice (some b) 0 0)).setCell ⟨g2, 0, none⟩ (.int .u64 x)) := hS.turned hP el es hon ((hb3.setCell (p := ⟨g2, 1, none⟩) hS.B2 (.slice (some b) 0 0)).setCell (p := ⟨g2, 0, none⟩) hS.B2 (.int .u64 x)) (fun j hj => (set_other j hj).trans ((set_other j hj).trans (ho3 j))) (ratg_set0 (ratg_set1 s0 (some b) 0 0) x) (hS.tw.drop n) (fun p hp => List.mem_of_mem_drop hp) hwx (fun b' hb' => ⟨b', hb', rfl⟩) (by omega) (by have := rd_end hS.rf.rq.rd n rfl; rw [← reqV_drop, ← List.map_drop] at this; exact this)
      have hbfin : Below B w ((V0.setCell ⟨g2, 1, none⟩ (.slice (some b) 0 0)).setCell ⟨g2, 0, none⟩ (.int .u64 x)) := ((hbW.mono hBw).trans hon.bel).trans ((hb3.setCell (p := ⟨g2, 1, none⟩) hS.B2 (.slice (some b) 0 0)).setCell (p := ⟨g2, 0, none⟩) hS.B2 (.int .u64 x))
      have hlen' : (qs.drop n).length = 0 := hfin.len.2
      rw [hlen'] at rn1 rn2
      have HT : Hid (Trans g g2 l s n l' s' 0 w ((V0.setCell ⟨g2, 1, none⟩ (.slice (some b) 0 0)).setCell ⟨g2, 0, none⟩ (.int .u64 x))) := Lib.hid (h.trans_app hbW hon.but (KeepsRow.same (fun j hj => hon.oth j (fun e => hog1 (by rw [hj, e])))) (KeepsRow.same (fun j hj => hon.oth j (fun e => hog2 (by rw [hj, e])))) (rn1 _) (rn2 _) (fun j hj => .inl (by rw [← el]; exact hj)) (fun j hj => .inl (by rw [← es]; exact hj)) (fun j _ hj => (set_other j hj).trans ((set_other j hj).trans (ho3 j))) (((hb3.setCell (p := ⟨g2, 1, none⟩) hS.B2 (.slice (some b) 0 0)).setCell (p := ⟨g2, 0, none⟩) hS.B2 (.int .u64 x))).size)
      clear hlen' rn1 rn2 hog1 hog2
      have HF := Lib.hid hfin
      have HB := Lib.hid hbfin
      clear hfin hbfin d1 d2 dF s0 q0 hb3 ho3
      generalize V0.setCell ⟨g2, 1, none⟩ (.slice (some b) 0 0) = V3 at *
      go_wp2_with fail
      go_ret
      exact ⟨rfl, ⟨_, _, _, _, _, _, _, _, HF.out, by omega, by have := HK.out; omega, HT.out⟩, HB.out⟩
end
end Go.Proofs.YtghjgajgjhbjpaaGreat.Msg
namespace Go.Proofs.YtghjgajgjhbjpaaGreat.Msg
open Go.RowKit Go.Lib Go.Proofs.YtghjgajgjhbjpaaGreat.Mem Go.Proofs.YtghjgajgjhbjpaaGreat.Tlv

theorem zero_op (W : World) : OpAt W zeroR.op noC := ⟨Rd.nil _ _, Rd.nil _ _, Rd.nil _ _, by decide, by decide, by decide⟩
/-- What both logs answer to At, alike. -/
def GivesAtE (p : RP) (E : Int) (w : World) (e : Ending) (w' : World) : Prop := ∃ q : RP, e = .returned (.tuple #[q.1.val, .int .i64 E]) ∧ TwinP p q ∧ OpAt w' q.1.op q.2 ∧ Below w.heap.size w w'
section
variable {B g g2 : Nat} {base : Int} {l s : Value} {lo : Option Addr} {n lc : Nat} {qs ps : List RP}
theorem both_at (x : Int) (w : World) (h : St B g g2 base l s lo n lc qs ps w) (hn : n ≤ 1000) (hb : base ≤ 5000000000000000000) : ∃ (p : RP) (E : Int),
    Calls Tryz.prog 39 #[.pointer (some ⟨g, 0, none⟩), .int .u64 x] w (GivesAtE p E w) ∧
    ∀ w', St B g g2 base l s lo n lc qs ps w' → Calls Tryz.prog 49 #[.pointer (some ⟨g2, 0, none⟩), .int .u64 x] w' (GivesAtE p E w') := by
  obtain ⟨hpl, hql⟩ := h.len
  by_cases hin : base < x ∧ x ≤ base + n
  · obtain ⟨i, hi⟩ : ∃ i : Nat, x = base + (i : Nat) + 1 := ⟨(x - base - 1).toNat, by omega⟩
    obtain ⟨p, hp⟩ : ∃ p, ps[i]? = some p := ⟨_, List.getElem?_eq_getElem (by omega)⟩
    obtain ⟨q, hq, ht⟩ := h.tw.at_ hp
    refine ⟨p, 0, (at_any x i q h.pl (by omega) h.b0 (by omega) hi hq).mono ?_, fun w' h' => (rAt_yes g2 base lo n lc ps x w' h'.rf (by omega) h.b0 (by omega) i p hi hp).mono ?_⟩
    · rintro e w1 ⟨q', rfl, ht', ho', hb'⟩
      exact ⟨q', rfl, ⟨ht'.cl.trans ht.cl, ht'.nu.trans ht.nu, ht.op.trans ht'.op, ht'.c.trans ht.c⟩, ho', hb'⟩
    · rintro e w1 ⟨rfl, hb'⟩
      exact ⟨p, rfl, TwinP.refl p, (h'.rf.rq.ops p (List.mem_of_getElem? hp)).later hb', hb'⟩
  · obtain ⟨lo', lc', so', sc', e1, e2, hR⟩ := h.pl.rd
    rw [hql] at hR
    refine ⟨(zeroR, noC), 8, (at_no g base n _ _ _ _ _ _ x w hR (by omega) h.b0 (by omega) hin).mono ?_, fun w' h' => (rAt_no g2 base lo n lc ps x w' h'.rf (by omega) h.b0 (by omega) hin).mono ?_⟩
    · rintro e w1 ⟨rfl, hb'⟩
      exact ⟨(zeroR, noC), rfl, TwinP.refl _, zero_op _, hb'⟩
    · rintro e w1 ⟨rfl, hb'⟩
      exact ⟨(zeroR, noC), rfl, TwinP.refl _, zero_op _, hb'⟩
theorem twin_same {p q q' : RP} (h : TwinP p q) (h' : TwinP p q') : sameReq q.1 q.2 q'.1 q'.2 = true := (h.same h').trans (sameReq_refl p)
set_option maxRecDepth 100000 in
set_option maxHeartbeats 8000000 in
theorem do_at (an : Int) (r : RV) (c : OC) (w : World) (h : St B g g2 base l s lo n lc qs ps w) (ho : OpAt w r.op c) (hn : n ≤ 1000) (hb : base ≤ 5000000000000000000) :
    Calls Tryz.prog 11 #[.pointer (some ⟨g, 0, none⟩), .pointer (some ⟨g2, 0, none⟩), AV.val ⟨4, an, r⟩] w (GivesDo B g g2 (base + n + 1) (n + 1) l s n w) := by
  have hgl := h.pl.log.lt
  have hBw : B ≤ w.heap.size := by have := h.pl.log.le; omega
  obtain ⟨x, hxx⟩ : ∃ x, IntKind.wrap .u64 (base + an) = x := ⟨_, rfl⟩
  simp only [AV.val, AV.cells]
  go_enter Tryz.func11, Tryz.ntmps11
  go_upto_region 1 with fail
  generalize hg0 : w.alloc _ = W0
  have e0 : w.alloc (AV.box ⟨4, an, r⟩) = W0 := by simp only [AV.box, AV.cells]; exact hg0
  have hb0 : Below w.heap.size w W0 := by rw [← e0]; exact (Below.refl _ _).alloc (Nat.le_refl _) _
  have k0 : W0.heap[w.heap.size]? = some (AV.box ⟨4, an, r⟩) := by rw [← e0]; show (w.heap.push _)[w.heap.size]? = some _; exact Array.getElem?_push_size
  clear hg0 e0
  have h0 := h.later hb0
  obtain ⟨d0, d1, -⟩ := (show RAtG g2 base lo n lc W0 from h0.rf.at_).cells
  obtain ⟨a0, a1, -⟩ := abox_all k0
  dsimp only at a0 a1
  go_quiet (fail)
  have hbq := below_drewN (Below.refl W0.heap.size W0) nq
  have kk1 : (W0.drewN nq).heap[w.heap.size]? = some (AV.box ⟨4, an, r⟩) := k0
  have hS := h0.later hbq
  have hbW := hb0.trans (hbq.mono hb0.size)
  have hoW := ho.later hbW
  clear d0 d1 a0 a1 k0 hbq h0 hb0
  generalize W0.drewN nq = W1 at *
  obtain ⟨a0, a1, a2, a3, a4, a5, a6, a7, a8, a9, a10, -⟩ := abox_all kk1
  dsimp only at a0 a1 a2 a3 a4 a5 a6 a7 a8 a9 a10
  obtain ⟨p, E, hc1, hc2⟩ := both_at x W1 hS hn hb
  go_wp2_with fail
  refine hc1.mono ?_
  rintro e w2 ⟨q, rfl, ht, hoq, hb2⟩
  have hS2 := hS.later hb2
  have hbW2 := hbW.trans (hb2.mono hbW.size)
  simp only [RV.val, RV.cells]
  clear a0 a1 a2 a3 a4 a5 a6 a7 a8 a9 a10 kk1 hc1
  go_upto_region 22 with fail
  generalize hg1 : w2.alloc _ = W3
  have e1 : w2.alloc q.1.box = W3 := by simp only [RV.box, RV.cells]; exact hg1
  have hb3 : Below w2.heap.size w2 W3 := by rw [← e1]; exact (Below.refl _ _).alloc (Nat.le_refl _) _
  have k3 : W3.heap[w2.heap.size]? = some q.1.box := by rw [← e1]; show (w2.heap.push _)[w2.heap.size]? = some _; exact Array.getElem?_push_size
  clear hg1 e1
  have hS3 := hS2.later hb3
  have hoq3 := hoq.later hb3
  have hbW3 := hbW2.trans (hb3.mono hbW2.size)
  have hc3 := hc2 W3 hS3
  clear hc2 hb2 hb3
  go_wp2_with fail
  refine hc3.mono ?_
  rintro e w4 ⟨q', rfl, ht', hoq', hb4⟩
  have k4 := (hb4.block _ (Array.getElem?_eq_some_iff.1 k3).1).trans k3
  have hS4 := hS3.later hb4
  have hoq4 := hoq3.later hb4
  have hbW4 := hbW3.trans (hb4.mono hbW3.size)
  simp only [RV.val, RV.cells]
  clear hc3 hb4 k3
  go_upto_region 23 with fail
  generalize hg1 : w4.alloc _ = W5
  have e1 : w4.alloc q'.1.box = W5 := by simp only [RV.box, RV.cells]; exact hg1
  have hb5 : Below w4.heap.size w4 W5 := by rw [← e1]; exact (Below.refl _ _).alloc (Nat.le_refl _) _
  have k5 : W5.heap[w4.heap.size]? = some q'.1.box := by rw [← e1]; show (w4.heap.push _)[w4.heap.size]? = some _; exact Array.getElem?_push_size
  have k6 := (hb5.block _ (Array.getElem?_eq_some_iff.1 k4).1).trans k4
  clear hg1 e1 k4
  have hS5 := hS4.later hb5
  have hoq5 := hoq4.later hb5
  have hoq5' := hoq'.later hb5
  have hbW5 := hbW4.trans (hb5.mono hbW4.size)
  obtain ⟨c0, c1, c2, c3, c4, c5, c6, c7, c8, -⟩ := rbox_all k5
  obtain ⟨d0, d1, d2, d3, d4, d5, d6, d7, d8, -⟩ := rbox_all k6
  have hsm := rSameReq_any q.1 q'.1 q.2 q'.2 W5 hoq5 hoq5'
  rw [twin_same ht ht'] at hsm
  simp only [RV.val, RV.cells] at hsm
  clear hb5 k5 k6
  go_wp2_with fail
  refine hsm.mono ?_
  rintro e w6 ⟨rfl, hb6⟩
  have hS6 := hS5.later hb6
  have hbW6 := hbW5.trans (hb6.mono hbW5.size)
  clear c0 c1 c2 c3 c4 c5 c6 c7 c8 d0 d1 d2 d3 d4 d5 d6 d7 d8
  go_wp2_with fail
  go_ret
  exact ⟨rfl, ⟨_, _, _, _, _, _, _, _, hS6, by omega, by omega, h.trans_id hbW6⟩, hbW6.mono hBw⟩
end
end Go.Proofs.YtghjgajgjhbjpaaGreat.Msg
