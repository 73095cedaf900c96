/-
  LogPlays, walked.
-/
import Derived.Test.YtghjgajgjhbjpaaGreatQa
import Derived.Test.YtghjgajgjhbjpaaGreatLs
namespace Go.Proofs.YtghjgajgjhbjpaaGreat.Msg
open Go.RowKit Go.Lib Go.Proofs.YtghjgajgjhbjpaaGreat.Mem Go.Proofs.YtghjgajgjhbjpaaGreat.Tlv

theorem few_facts {xs_ : List AP} {ps : List RP} {most : Int} (h : fewP xs_ ps most = true) : (∀ a ∈ xs_, smallR a.1.r = true) ∧ (∀ p ∈ ps, smallR p.1 = true) ∧ (xs_.length : Int) ≤ most ∧ (ps.length : Int) ≤ most := by
  unfold fewP at h
  simp only [Bool.and_eq_true, decide_eq_true_eq, List.all_eq_true] at h
  exact ⟨h.1.1.1, h.1.1.2, h.1.2, h.2⟩

/-- Both logs at their beginning. -/
theorem St.start {B g g2 : Nat} {base : Int} {l s : Value} {lo : Option Addr} {n lc : Nat} {qs ps : List RP} {W1 W2 : World} (hP : PLog B g base l s qs W1) (htw : Twins ps qs) (he : ofErr base ps = 0) (hf : ∀ p ∈ ps, FitP p) (hin : ∀ p ∈ ps, OpIn B p.1.op) (hb : Below W1.heap.size W1 W2) (hR : RefAt g2 base lo n lc ps W2) (hg : W1.heap.size ≤ g2) (h0 : 0 ≤ base) (hlo : 0 < lc → ∀ a, lo = some a → W1.heap.size ≤ a.block ∧ a.block < g2) : St B g g2 base l s lo n lc qs ps W2 := by
  have hgl := hP.log.lt
  have hBg := hP.log.le
  refine ⟨hP.later hb, hR, htw, ?_, hf, hin, by omega, by omega, fun h a ha => ?_, h0⟩
  · intro p hp
    unfold ofErr at he
    split at he
    · cases he
    · rename_i hno
      have : ps.all mayP = true := by
        cases h : ps.all mayP with
        | true => rfl
        | false => exact absurd (.inl h) hno
      exact List.all_eq_true.1 this p hp
  · obtain ⟨h1, h2⟩ := hlo h a ha
    refine ⟨fun e => ?_, fun e => ?_, by omega, by omega⟩
    · have := (hP.log.own.low _ e.symm).2; omega
    · have := (hP.log.owz.low _ e.symm).2; omega
theorem ofErr_base {base : Int} {ps : List RP} (he : ofErr base ps = 0) : base ≤ 4611686018427387904 := by
  unfold ofErr at he
  split at he
  · cases he
  · rename_i hno
    have := fun h => hno (.inr h)
    omega

set_option maxRecDepth 100000 in
set_option maxHeartbeats 8000000 in
theorem logPlays_any (base : Int) (ao : Option Addr) (n cap : Nat) (ps : List RP) (bo : Option Addr) (m bcap : Nat) (xs_ : List AP) (w : World) (h0 : 0 ≤ base) (hQ : ReqsRd ao n cap ps w) (hA : ActsRd bo m bcap xs_ w) :
    Calls Tryz.prog 3 #[.int .u64 base, .slice ao n cap, .slice bo m bcap] w (GivesB true w) := by
  have hfew := few_any bo m bcap xs_ ao n cap ps 40 w hA hQ
  cases hF : fewP xs_ ps 40 with
  | false =>
    rw [hF] at hfew
    clear hF
    go_enter Tryz.func3, Tryz.ntmps3
    go_wp2_with fail
    refine hfew.mono ?_
    rintro e w1 ⟨rfl, hb1⟩
    go_wp2_with fail
    refine (known_any w1).mono ?_
    rintro e w2 ⟨rfl, hb2⟩
    go_wp2_with fail
    go_ret
    exact ⟨rfl, hb1.trans (hb2.mono hb1.size)⟩
  | true =>
    rw [hF] at hfew
    obtain ⟨hsa, hsq, hla, hlq⟩ := few_facts hF
    have hxl := hA.len
    have hpl := hQ.len
    have hm : m ≤ 40 := by omega
    have hn : n ≤ 40 := by omega
    have hQ' : ReqsAt ao n cap ps w := ⟨hQ.rd, fun p hp => (hQ.ops p hp).small (hsq p hp)⟩
    have hA' : ∀ a ∈ xs_, OpAt w a.1.r.op a.2 := fun a ha => (hA.ops a ha).small (hsa a ha)
    have hof := fun W (hb : Below w.heap.size w W) => of_any base ao n cap ps W (hQ'.later hb) hQ.fit (by omega) h0
    have LX := Lib.hid hxl
    have HPin : Hid (∀ p ∈ ps, OpIn w.heap.size p.1.op) := Lib.hid fun p hp => (hQ'.ops p hp).in_
    have HAin : Hid (∀ a ∈ xs_, OpIn w.heap.size a.1.r.op) := Lib.hid fun a ha => (hA' a ha).in_
    have HE : Hid (ofErr base ps = 0 → base ≤ 4611686018427387904) := Lib.hid ofErr_base
    clear hF hsa hsq hla hlq hxl hpl
    go_enter Tryz.func3, Tryz.ntmps3
    go_wp2_with fail
    refine hfew.mono ?_
    rintro e w0 ⟨rfl, hb0⟩
    go_wp2_with fail
    refine (hof w0 hb0).mono ?_
    clear hof hfew
    intro e w1 hG
    obtain ⟨hb1, hG⟩ := hG
    have hb1' := hb0.trans (hb1.mono hb0.size)
    have hQ1 := (hQ'.later hb1')
    have hr1 := hQ1.rd
    have k63 : 0 + n ≤ maxLen := by unfold maxLen; omega
    have kby : (0 + n) * 136 ≤ 140737488355328 := by omega
    rcases hG with ⟨he, g, l, s, qs, rfl, hP, htw⟩ | ⟨hne, rfl⟩
    · have HP0 := Lib.hid he
      clear he
      go_wp2_with (at_builtin; refine wpList_app _ rfl (.const (.slice none 0 0)) (.tmp 25) 23 rfl w1.heap.size 42 zeroR.val 9 136 sliceT_req _ 0 [] rfl (World.ownsRow_nil _ _ _ _) ao n cap (reqV (ps.map Prod.fst)) rfl hr1 (reqV_one _) k63 kby (Nat.le_refl _) ?_; intro ao2 cap2 w2 own2 gr2 bel2 _; rw [Nat.zero_add, List.nil_append] at own2)
      have hr2 : Rd w2 9 ao2 n cap2 (reqV (ps.map Prod.fst)) := Rd.of_own_slice own2
      have hlow : 0 < cap2 → ∀ a, ao2 = some a → w1.heap.size ≤ a.block ∧ a.block < w2.heap.size := fun h0 a ha => ⟨own_fresh own2 a ha, hr2.lt h0 a ha⟩
      have hQ2 : ReqsAt ao2 n cap2 ps w2 := ⟨hr2, fun p hp => (hQ1.ops p hp).later bel2⟩
      have hrof := rOf_any base ao2 n cap2 ps w2 hQ2 (by omega) hQ.fit
      have q0 := hb0.size
      have q1 := hb1.size
      have q2 := bel2.size
      clear own2 gr2
      refine hrof.mono ?_
      clear hrof
      intro e w3 hG2
      obtain ⟨hb3, hG2⟩ := hG2
      rw [if_pos HP0.out] at hG2
      obtain ⟨g2, rfl, hR, hg2⟩ := hG2
      have hS := St.start hP htw HP0.out hQ.fit (fun p hp => (HPin.out p hp).mono q0) (bel2.trans (hb3.mono q2)) hR (by omega) h0 (fun h a ha => ⟨(hlow h a ha).1, by have := (hlow h a ha).2; omega⟩)
      have hb3' : Below w0.heap.size w0 w3 := hb1.trans ((bel2.trans (hb3.mono q2)).mono q1)
      have hbase := HE.out HP0.out
      have hS3 : StE w0.heap.size g g2 (base + 40 + (0 : Nat)) (40 + 0) w3 := ⟨_, _, _, _, _, _, _, _, hS, by omega, by omega⟩
      clear hP htw hR hS hb3 bel2 hr2 hQ2 hlow hr1 hQ1 hb1 hb1' q1 q2 hg2
      go_wp2_with fail
      go_loopw [11] (fun p wr => ∃ i : Nat, i ≤ m ∧ p = .int .i64 (i : Int) ∧ StE w0.heap.size g g2 (base + 40 + i) (40 + i) wr ∧ Below w0.heap.size w0 wr) (fun p _ => m - (intOf p).toNat)
      case atStart => exact ⟨0, Nat.zero_le _, rfl, hS3, hb3'⟩
      case round =>
        clear hS3 hb3'
        obtain ⟨i, hi, rfl, hS, hbr⟩ := hrel
        have hbw := hb0.trans (hbr.mono hb0.size)
        by_cases him : i < m
        · obtain ⟨b1, o1, rfl, hl1, hc1⟩ := hA.rd.some (by have := hA.rd.le; omega)
          obtain ⟨a, hu⟩ : ∃ a, xs_[i]? = some a := ⟨_, List.getElem?_eq_getElem (by rw [LX.out]; exact him)⟩
          have ham := List.mem_of_getElem? hu
          obtain ⟨c0, c1, c2, c3, c4, c5, c6, c7, c8, c9, c10⟩ := acells (xs_.map Prod.fst) i a.1 (amap_at xs_ i a hu) (W := wr) (b := b1) (o := o1) (fun j x hj => (hbw.cell (p := ⟨b1, o1 + j, none⟩) hl1).trans (hc1 j x hj))
          have i0 : (0 : Int) ≤ (i : Int) := by omega
          have i1 : (i : Int) < (m : Int) := by omega
          have hwi : IntKind.wrap .i64 ((i : Int) + 1) = (i : Int) + 1 := by rw [IntKind.wrap_i64]; omega
          have hdo := do_any a.1 a.2 wr hS ((hA' a ham).later hbw) (hA.fit a ham) ((HAin.out a ham).mono q0) (by omega) (by omega)
          unfold AV.val AV.cells at hdo
          go_wp2_with fail
          refine hdo.mono ?_
          rintro e w4 ⟨rfl, hS4, hb4⟩
          have hbr4 := hbr.trans hb4
          clear c0 c1 c2 c3 c4 c5 c6 c7 c8 c9 c10 hdo
          go_wp2_with fail
          go_roundw
          case rel => exact ⟨i + 1, by omega, by go_num, hS4.mono (by omega) (by omega), hbr4⟩
          case measure => simp [intOf]; omega
        · have him2 : i = m := by omega
          subst him2
          obtain ⟨base9, l9, s9, lo9, n9, lc9, qs9, ps9, hS9, hn9, hb9⟩ := hS
          have hsame := same_any wr hS9 (by omega) (by omega)
          clear hS9
          go_wp2_with fail
          refine hsame.mono ?_
          rintro e w4 ⟨rfl, -, hb4⟩
          have hbw4 := hbw.trans (hb4.mono hbw.size)
          go_wp2_with fail
          refine (known_any w4).mono ?_
          rintro e w5 ⟨rfl, hb5⟩
          go_wp2_with fail
          go_ret
          exact ⟨rfl, hbw4.trans (hb5.mono hbw4.size)⟩
    · have HNE := Lib.hid hne
      have hE1 : ofErr base ps = 2 ∨ ofErr base ps = 10 := by
        unfold ofErr at hne ⊢
        split
        · exact .inl rfl
        · rename_i h1
          rw [if_neg h1] at hne
          split
          · exact .inr rfl
          · rename_i h2
            exact absurd (if_neg h2) hne
      clear hne
      have hp : Sem.run Tryz.prog (binOp BinOp.eql 27 (.pointer none) (.pointer none)) w1 = .ok (.bool true) w1 := eql_none w1
      go_wp2_with (at_builtin; refine wpList_app _ rfl (.const (.slice none 0 0)) (.tmp 25) 23 rfl w1.heap.size 42 zeroR.val 9 136 sliceT_req _ 0 [] rfl (World.ownsRow_nil _ _ _ _) ao n cap (reqV (ps.map Prod.fst)) rfl hr1 (reqV_one _) k63 kby (Nat.le_refl _) ?_; intro ao2 cap2 w2 own2 gr2 bel2 _; rw [Nat.zero_add, List.nil_append] at own2)
      have hr2 : Rd w2 9 ao2 n cap2 (reqV (ps.map Prod.fst)) := Rd.of_own_slice own2
      have hQ2 : ReqsAt ao2 n cap2 ps w2 := ⟨hr2, fun p hp => (hQ1.ops p hp).later bel2⟩
      have hrof := rOf_any base ao2 n cap2 ps w2 hQ2 (by omega) hQ.fit
      clear own2 gr2 hp
      refine hrof.mono ?_
      clear hrof
      intro e w3 hG2
      obtain ⟨hb3, hG2⟩ := hG2
      rw [if_neg HNE.out] at hG2
      subst hG2
      have hb3' := hb1'.trans ((bel2.trans (hb3.mono bel2.size)).mono hb1'.size)
      clear hr2 hQ2 hr1 hQ1 bel2 hb3
      have hp3 := eql_none w3
      generalize ofErr base ps = E at *
      rcases hE1 with rfl | rfl
      · go_wp2_with fail
        refine (known_any w3).mono ?_
        rintro e w4 ⟨rfl, hb4⟩
        go_wp2_with fail
        go_ret
        exact ⟨rfl, hb3'.trans (hb4.mono hb3'.size)⟩
      · go_wp2_with fail
        refine (known_any w3).mono ?_
        rintro e w4 ⟨rfl, hb4⟩
        go_wp2_with fail
        go_ret
        exact ⟨rfl, hb3'.trans (hb4.mono hb3'.size)⟩
end Go.Proofs.YtghjgajgjhbjpaaGreat.Msg
