/-
  The document's log: Size, Of. The program's ContainsFunc over requests.
-/
import Derived.Test.YtghjgajgjhbjpaaGreatPi
namespace Go.Proofs.YtghjgajgjhbjpaaGreat.Msg
open Go.RowKit Go.Lib Go.Proofs.YtghjgajgjhbjpaaGreat.Mem Go.Proofs.YtghjgajgjhbjpaaGreat.Utf Go.Proofs.YtghjgajgjhbjpaaGreat.Tlv

theorem map_at (ps : List RP) (k : Nat) (p : RP) (h : ps[k]? = some p) : (ps.map Prod.fst)[k]? = some p.1 := by rw [List.getElem?_map, h]; rfl
theorem szP_at (ps : List RP) (k : Nat) (p : RP) (h : ps[k]? = some p) : (ps.map szP)[k]? = some (szP p) := by rw [List.getElem?_map, h]; rfl

set_option maxRecDepth 100000 in
set_option maxHeartbeats 4000000 in
theorem rsize_log (g : Nat) (base : Int) (lo : Option Addr) (n lc : Nat) (ps : List RP) (w : World) (h : RefAt g base lo n lc ps w) (hn : n ≤ 1000000) (hm : ∀ p ∈ ps, mayP p = true) (hf : ∀ p ∈ ps, FitP p) :
    Calls Tryz.prog 45 #[.pointer (some ⟨g, 0, none⟩)] w fun e w' => e = .returned (.int .i64 (ps.map szP).sum) ∧ Below w.heap.size w w' := by
  have LX := Lib.hid h.rq.len
  have HZ := Lib.hid h.rq.sizes
  have HM := Lib.hid hm
  have HF := Lib.hid hf
  clear hm hf
  go_enter Tryz.func45, Tryz.ntmps45
  go_wp2_with fail
  go_loopw [3, 4] (fun s p wr => ∃ k : Nat, k ≤ n ∧ s = .int .i64 ((ps.map szP).take k).sum ∧ p = .int .i64 (k : Int) ∧ Below w.heap.size w wr) (fun _ p _ => n - (intOf p).toNat)
  case atStart => exact ⟨0, Nat.zero_le _, rfl, rfl, Below.refl _ _⟩
  case round =>
    obtain ⟨k, hk, rfl, rfl, hbr⟩ := hrel
    have hr := h.later hbr
    obtain ⟨e0, e1, -⟩ := hr.cells
    by_cases hkn : k < n
    · obtain ⟨b1, o1, ea, hl1, hc1⟩ := hr.rq.rd.some (by have := hr.rq.rd.le; omega)
      rw [ea] at e1
      clear ea
      obtain ⟨p, hu⟩ : ∃ p, ps[k]? = some p := ⟨_, List.getElem?_eq_getElem (by rw [LX.out]; exact hkn)⟩
      have hpm := List.mem_of_getElem? hu
      obtain ⟨c0, c1, c2, c3, c4, c5, c6, c7, c8⟩ := rcells (ps.map Prod.fst) k p.1 (map_at ps k p hu) (W := wr) (b := b1) (o := o1) hc1
      have hfit := HF.out p hpm
      have hcall := rReqBytes_any p.1 p.2 wr (hr.rq.ops p hpm) (HM.out p hpm) hfit.c0 hfit.c1 hfit.n0 hfit.n1
      unfold RV.val RV.cells at hcall
      have i0 : (0 : Int) ≤ (k : Int) := by omega
      have i1 : (k : Int) < (n : Int) := by omega
      have Hn := Lib.hid (sum_next (ps.map szP) k (szP p) (szP_at ps k p hu))
      have hs1 := sum_le ((ps.map szP).take (k + 1)) (fun z h => HZ.out z (List.mem_of_mem_take h))
      rw [Hn.out] at hs1
      have hle : ((ps.map szP).take (k + 1)).length ≤ 1000000 := by rw [List.length_take]; omega
      have hwr : IntKind.wrap .i64 (((ps.map szP).take k).sum + szP p) = ((ps.map szP).take k).sum + szP p := by rw [IntKind.wrap_i64]; omega
      obtain ⟨Z, hZ⟩ : ∃ Z, reqL p.1 (opBy p.1.op p.2) = Z := ⟨_, rfl⟩
      have HZl : Hid ((Z.length : Int) = szP p) := Lib.hid (by rw [← hZ, reqL_len]; rfl)
      rw [hZ] at hcall
      generalize hS : ((ps.map szP).take k).sum = S at *
      clear hs1 hle hfit hc1 hZ
      go_wp2_with fail
      refine hcall.mono ?_
      rintro e w1 ⟨v, rfl, own, hb1⟩
      obtain ⟨ya, yk, e2, -⟩ := Rd.of_own own
      subst e2
      have hb2 := hbr.trans (hb1.mono hbr.size)
      have hwz : IntKind.wrap .i64 (S + (Z.length : Int)) = S + szP p := by rw [HZl.out]; exact hwr
      clear e0 e1 c0 c1 c2 c3 c4 c5 c6 c7 c8 hcall hwr own
      go_wp2_with fail
      go_roundw
      case rel => exact ⟨k + 1, by omega, congrArg (Value.int .i64) Hn.out.symm, by go_num, hb2⟩
      case measure => simp [intOf]; omega
    · have hkn2 : k = n := by omega
      have Hs : Hid (((ps.map szP).take k).sum = (ps.map szP).sum) := Lib.hid (by rw [List.take_of_length_le (by rw [List.length_map, LX.out]; omega)])
      rw [Hs.out]
      clear hkn2
      go_wp2_with fail
      go_ret
      exact ⟨rfl, hbr⟩

set_option maxRecDepth 100000 in
set_option maxHeartbeats 4000000 in
/-- IndexFunc with 'may it not be?': none, or some place. -/
theorem indexReq_any (ao : Option Addr) (n cap : Nat) (ps : List RP) (w : World) (h : ReqsAt ao n cap ps w) :
    Calls Tryz.prog 103 #[.slice ao n cap, .func (.func 41) #[] #[]] w fun e w' => (∃ k : Int, e = .returned (.int .i64 k) ∧ decide (0 ≤ k) = !ps.all mayP) ∧ Below w.heap.size w w' := by
  have LX := Lib.hid h.len
  have hcap : n ≤ 9223372036854775807 := by have := h.rd.2.1; have := h.rd.2.2.1; unfold maxLen at this; omega
  go_enter Tryz.func103, Tryz.ntmps103
  go_wp2_with fail
  go_loopw [8] (fun p wr => ∃ k : Nat, k ≤ n ∧ p = .int .i64 (k : Int) ∧ Hid ((ps.take k).all mayP = true) ∧ Below w.heap.size w wr) (fun p _ => n - (intOf p).toNat)
  case atStart => exact ⟨0, Nat.zero_le _, rfl, Lib.hid rfl, Below.refl _ _⟩
  case round =>
    obtain ⟨k, hk, rfl, Ha, hbr⟩ := hrel
    have hr := h.later hbr
    by_cases hkn : k < n
    · obtain ⟨b1, o1, rfl, hl1, hc1⟩ := hr.rd.some (by have := hr.rd.le; omega)
      obtain ⟨u, hu⟩ : ∃ u, ps[k]? = some u := ⟨_, List.getElem?_eq_getElem (by rw [LX.out]; exact hkn)⟩
      have hum := List.mem_of_getElem? hu
      obtain ⟨c0, c1, c2, c3, c4, c5, c6, c7, c8⟩ := rcells (ps.map Prod.fst) k u.1 (map_at ps k u hu) (W := wr) (b := b1) (o := o1) hc1
      have i0 : (0 : Int) ≤ (k : Int) := by omega
      have i1 : (k : Int) < (n : Int) := by omega
      have hcall := of1_any u.1 u.2 (mayP u) (opBy u.1.op u.2) wr (hr.ops u hum) (opC_all wr u.1.op u.2 (hr.ops u hum))
      unfold RV.val RV.cells at hcall
      clear hc1
      go_wp2_with fail
      refine hcall.mono ?_
      rintro e w1 ⟨rfl, hb1⟩
      have hb2 := hbr.trans (hb1.mono hbr.size)
      clear hcall c0 c1 c2 c3 c4 c5 c6 c7 c8
      cases hm : mayP u
      · have HA : Hid (ps.all mayP = false) := Lib.hid (by rw [List.all_eq_false]; exact ⟨u, hum, by simp [hm]⟩)
        clear hm
        go_wp2_with fail
        go_ret
        exact ⟨⟨(k : Int), rfl, by rw [HA.out]; simp⟩, hb2⟩
      · have HT : Hid ((ps.take (k + 1)).all mayP = true) := Lib.hid (by obtain ⟨hl, e⟩ := List.getElem?_eq_some_iff.1 hu; rw [List.take_succ_eq_append_getElem hl, e, List.all_append, Ha.out]; simp [hm])
        clear hm
        go_wp2_with fail
        go_roundw
        case rel => exact ⟨k + 1, by omega, by go_num, HT, hb2⟩
        case measure => simp [intOf]; omega
    · have HA : Hid (ps.all mayP = true) := Lib.hid (by
        have h := Ha.out
        rw [List.take_of_length_le (by rw [LX.out]; omega)] at h
        exact h)
      go_wp2_with fail
      go_ret
      exact ⟨⟨-1, rfl, by rw [HA.out]; rfl⟩, hbr⟩
set_option maxRecDepth 100000 in
theorem containsReq_any (ao : Option Addr) (n cap : Nat) (ps : List RP) (w : World) (h : ReqsAt ao n cap ps w) :
    Calls Tryz.prog 40 #[.slice ao n cap, .func (.func 41) #[] #[]] w (GivesB (!ps.all mayP) w) := by
  go_enter Tryz.func40, Tryz.ntmps40
  go_wp2_with fail
  refine (indexReq_any ao n cap ps w h).mono ?_
  rintro e w1 ⟨⟨k, rfl, hk⟩, hb1⟩
  cases hq : ps.all mayP
  · rw [hq] at hk
    have hk2 : decide (0 ≤ k) = true := hk
    have HQ := Lib.hid hq
    clear hk hq
    go_wp2_with fail
    go_ret
    exact ⟨by rw [HQ.out]; rfl, hb1⟩
  · rw [hq] at hk
    have hk2 : decide (0 ≤ k) = false := hk
    have HQ := Lib.hid hq
    clear hk hq
    go_wp2_with fail
    go_ret
    exact ⟨by rw [HQ.out]; rfl, hb1⟩

/-- What the document's Of answers. -/
def ofErr (base : Int) (ps : List RP) : Int := if ps.all mayP = false ∨ 4611686018427387904 < base then 2 else if 4096 < ps.length ∨ 2097152 < (ps.map szP).sum then 10 else 0
def GivesOf (base : Int) (ao : Option Addr) (n cap : Nat) (ps : List RP) (w : World) (e : Ending) (w' : World) : Prop :=
  Below w.heap.size w w' ∧ (if ofErr base ps = 0 then ∃ g, e = .returned (.tuple #[.pointer (some ⟨g, 0, none⟩), .int .i64 0]) ∧ RefAt g base ao n cap ps w' ∧ w.heap.size ≤ g
    else e = .returned (.tuple #[.pointer none, .int .i64 (ofErr base ps)]))

set_option maxRecDepth 100000 in
set_option maxHeartbeats 4000000 in
theorem rOf_any (base : Int) (ao : Option Addr) (n cap : Nat) (ps : List RP) (w : World) (h : ReqsAt ao n cap ps w) (hn : n ≤ 1000000) (hf : ∀ p ∈ ps, FitP p) :
    Calls Tryz.prog 10 #[.int .u64 base, .slice ao n cap] w (GivesOf base ao n cap ps w) := by
  have LX := Lib.hid h.len
  go_enter Tryz.func10, Tryz.ntmps10
  go_wp2_with fail
  go_loopw [6] (fun p wr => ∃ k : Nat, k ≤ n ∧ p = .int .i64 (k : Int) ∧ Hid ((ps.take k).all mayP = true) ∧ Below w.heap.size w wr) (fun p _ => n - (intOf p).toNat)
  case atStart => exact ⟨0, Nat.zero_le _, rfl, Lib.hid rfl, Below.refl _ _⟩
  case round =>
    obtain ⟨k, hk, rfl, Ha, hbr⟩ := hrel
    have hr := h.later hbr
    by_cases hkn : k < n
    · obtain ⟨b1, o1, rfl, hl1, hc1⟩ := hr.rd.some (by have := hr.rd.le; omega)
      obtain ⟨u, hu⟩ : ∃ u, ps[k]? = some u := ⟨_, List.getElem?_eq_getElem (by rw [LX.out]; exact hkn)⟩
      have hum := List.mem_of_getElem? hu
      obtain ⟨c0, c1, c2, c3, c4, c5, c6, c7, c8⟩ := rcells (ps.map Prod.fst) k u.1 (map_at ps k u hu) (W := wr) (b := b1) (o := o1) hc1
      have i0 : (0 : Int) ≤ (k : Int) := by omega
      have i1 : (k : Int) < (n : Int) := by omega
      have hcall := rmay_any u.1 u.2 wr (hr.ops u hum)
      unfold RV.val RV.cells at hcall
      clear hc1
      go_wp2_with fail
      refine hcall.mono ?_
      rintro e w1 ⟨rfl, hb1⟩
      have hb2 := hbr.trans (hb1.mono hbr.size)
      clear hcall c0 c1 c2 c3 c4 c5 c6 c7 c8
      cases hm : mayOp u.1.op u.2
      · have HE : Hid (ofErr base ps = 2) := Lib.hid (by
          have : ps.all mayP = false := by rw [List.all_eq_false]; exact ⟨u, hum, by simp [mayP, hm]⟩
          unfold ofErr; rw [if_pos (.inl this)])
        clear hm
        go_wp2_with fail
        go_ret2
        refine ⟨hb2, ?_⟩
        rw [HE.out, if_neg (by decide)]
        rfl
      · have HT : Hid ((ps.take (k + 1)).all mayP = true) := Lib.hid (by obtain ⟨hl, e⟩ := List.getElem?_eq_some_iff.1 hu; rw [List.take_succ_eq_append_getElem hl, e, List.all_append, Ha.out]; simp [mayP, hm])
        clear hm
        go_wp2_with fail
        go_roundw
        case rel => exact ⟨k + 1, by omega, by go_num, HT, hb2⟩
        case measure => simp [intOf]; omega
    · have hall : ps.all mayP = true := by
        have h := Ha.out
        rw [List.take_of_length_le (by rw [LX.out]; omega)] at h
        exact h
      have HM := Lib.hid (List.all_eq_true.1 hall)
      by_cases hbig : 4611686018427387904 < base
      · have f1 : decide (4611686018427387904 < base) = true := decide_eq_true hbig
        have HE : Hid (ofErr base ps = 2) := Lib.hid (by unfold ofErr; rw [if_pos (.inr hbig)])
        clear hbig hall
        go_wp2_with fail
        go_ret2
        refine ⟨hbr, ?_⟩
        rw [HE.out, if_neg (by decide)]
        rfl
      have f1 : decide (4611686018427387904 < base) = false := decide_eq_false hbig
      have HE0 : Hid (ofErr base ps = if 4096 < ps.length ∨ 2097152 < (ps.map szP).sum then 10 else 0) := Lib.hid (by unfold ofErr; rw [if_neg (by rw [hall]; simp; omega)])
      clear hbig hall
      by_cases hlong : 4096 < n
      · have f2 : decide ((4096 : Int) < (n : Int)) = true := decide_eq_true (by omega)
        have HE : Hid (ofErr base ps = 10) := Lib.hid (by rw [HE0.out, if_pos (.inl (by rw [LX.out]; exact hlong))])
        have hbb : Below w.heap.size w (wr.alloc (.cells #[.int .u64 base, .slice ao n cap] 49)) := hbr.alloc hbr.size _
        clear hlong
        go_wp2_with fail
        go_ret2
        refine ⟨hbb, ?_⟩
        rw [HE.out, if_neg (by decide)]
        rfl
      have f2 : decide ((4096 : Int) < (n : Int)) = false := decide_eq_false (by omega)
      go_upto_region 9 with fail
      generalize hg : wr.alloc _ = W1
      have hb1 : Below wr.heap.size wr W1 := by rw [← hg]; exact (Below.refl _ _).alloc (Nat.le_refl _) _
      have hR : RefAt wr.heap.size base ao n cap ps W1 := ⟨by rw [← hg]; show (wr.heap.push _)[wr.heap.size]? = some _; exact Array.getElem?_push_size, hr.later hb1⟩
      have hbb := hbr.trans (hb1.mono hbr.size)
      have hgw := hbr.size
      clear hg hb1
      generalize wr.heap.size = g at *
      have hsize := rsize_log g base ao n cap ps W1 hR hn HM.out hf
      clear hlong
      go_wp2_with fail
      refine hsize.mono ?_
      rintro e W2 ⟨rfl, hb2⟩
      have hbz := hbb.trans (hb2.mono hbb.size)
      by_cases hs : 2097152 < (ps.map szP).sum
      · have f3 : decide (2097152 < (ps.map szP).sum) = true := decide_eq_true hs
        have HE : Hid (ofErr base ps = 10) := Lib.hid (by rw [HE0.out, if_pos (.inr hs)])
        clear hs hsize
        go_wp2_with fail
        go_ret2
        refine ⟨hbz, ?_⟩
        rw [HE.out, if_neg (by decide)]
        rfl
      · have f3 : decide (2097152 < (ps.map szP).sum) = false := decide_eq_false hs
        have hno : ¬ (4096 < ps.length ∨ 2097152 < (ps.map szP).sum) := by
          rw [LX.out]
          have := of_decide_eq_false f2
          omega
        have HE : Hid (ofErr base ps = 0) := Lib.hid (by rw [HE0.out, if_neg hno])
        clear hno
        clear hs hsize
        go_wp2_with fail
        go_ret2
        refine ⟨hbz, ?_⟩
        rw [HE.out, if_pos rfl]
        exact ⟨g, rfl, hR.later hb2, hgw⟩
end Go.Proofs.YtghjgajgjhbjpaaGreat.Msg
