/-
  LogPlays, walked.
  Two pairs of logs: what a turn of one leaves of the other.
  The program's SameRequest, Copy, Begins.
  The document's Begins.
  Two pairs of logs: their beginning; a turn of one pair; beginnings of one another.
-/
import Derived.Test.YtghjgajgjhbjpaaGreatQa
import Derived.Test.YtghjgajgjhbjpaaGreatLs
namespace Go.Proofs.YtghjgajgjhbjpaaGreat.Msg
open Go.RowKit Go.Lib Go.Proofs.YtghjgajgjhbjpaaGreat.Mem Go.Proofs.YtghjgajgjhbjpaaGreat.Tlv

theorem few_facts {xs_ : List AP} {ps : List RP} {most : Int} (h : fewP xs_ ps most = true) : (∀ a ∈ xs_, smallR a.1.r = true) ∧ (∀ p ∈ ps, smallR p.1 = true) ∧ (xs_.length : Int) ≤ most ∧ (ps.length : Int) ≤ most := by
  unfold fewP at h
  simp only [Bool.and_eq_true, decide_eq_true_eq, List.all_eq_true] at h
  exact ⟨h.1.1.1, h.1.1.2, h.1.2, h.2⟩

/-- Both logs at their beginning. -/
theorem St.start {B g g2 : Nat} {base : Int} {l s : Value} {lo : Option Addr} {n lc : Nat} {qs ps : List RP} {W1 W2 : World} (hP : PLog B g base l s qs W1) (htw : Twins ps qs) (he : ofErr base ps = 0) (hf : ∀ p ∈ ps, FitP p) (hin : ∀ p ∈ ps, OpIn B p.1.op) (hb : Below W1.heap.size W1 W2) (hR : RefAt g2 base lo n lc ps W2) (hg : W1.heap.size ≤ g2) (h0 : 0 ≤ base) (hlo : 0 < lc → ∀ a, lo = some a → W1.heap.size ≤ a.block ∧ a.block < g2) : St B g g2 base l s lo n lc qs ps W2 := by
  have hgl := hP.log.lt
  have hBg := hP.log.le
  refine ⟨hP.later hb, hR, htw, ?_, hf, hin, by omega, by omega, fun h a ha => ?_, h0⟩
  · intro p hp
    unfold ofErr at he
    split at he
    · cases he
    · rename_i hno
      have : ps.all mayP = true := by
        cases h : ps.all mayP with
        | true => rfl
        | false => exact absurd (.inl h) hno
      exact List.all_eq_true.1 this p hp
  · obtain ⟨h1, h2⟩ := hlo h a ha
    refine ⟨fun e => ?_, fun e => ?_, by omega, by omega⟩
    · have := (hP.log.own.low _ e.symm).2; omega
    · have := (hP.log.owz.low _ e.symm).2; omega
theorem ofErr_base {base : Int} {ps : List RP} (he : ofErr base ps = 0) : base ≤ 4611686018427387904 := by
  unfold ofErr at he
  split at he
  · cases he
  · rename_i hno
    have := fun h => hno (.inr h)
    omega

set_option maxRecDepth 100000 in
set_option maxHeartbeats 8000000 in
theorem logPlays_any (base : Int) (ao : Option Addr) (n cap : Nat) (ps : List RP) (bo : Option Addr) (m bcap : Nat) (xs_ : List AP) (w : World) (h0 : 0 ≤ base) (hQ : ReqsRd ao n cap ps w) (hA : ActsRd bo m bcap xs_ w) :
    Calls Tryz.prog 3 #[.int .u64 base, .slice ao n cap, .slice bo m bcap] w (GivesB true w) := by
  have hfew := few_any bo m bcap xs_ ao n cap ps 40 w hA hQ
  cases hF : fewP xs_ ps 40 with
  | false =>
    rw [hF] at hfew
    clear hF
    go_enter Tryz.func3, Tryz.ntmps3
    go_wp2_with fail
    refine hfew.mono ?_
    rintro e w1 ⟨rfl, hb1⟩
    go_wp2_with fail
    refine (known_any w1).mono ?_
    rintro e w2 ⟨rfl, hb2⟩
    go_wp2_with fail
    go_ret
    exact ⟨rfl, hb1.trans (hb2.mono hb1.size)⟩
  | true =>
    rw [hF] at hfew
    obtain ⟨hsa, hsq, hla, hlq⟩ := few_facts hF
    have hxl := hA.len
    have hpl := hQ.len
    have hm : m ≤ 40 := by omega
    have hn : n ≤ 40 := by omega
    have hQ' : ReqsAt ao n cap ps w := ⟨hQ.rd, fun p hp => (hQ.ops p hp).small (hsq p hp)⟩
    have hA' : ∀ a ∈ xs_, OpAt w a.1.r.op a.2 := fun a ha => (hA.ops a ha).small (hsa a ha)
    have hof := fun W (hb : Below w.heap.size w W) => of_any base ao n cap ps W (hQ'.later hb) hQ.fit (by omega) h0
    have LX := Lib.hid hxl
    have HPin : Hid (∀ p ∈ ps, OpIn w.heap.size p.1.op) := Lib.hid fun p hp => (hQ'.ops p hp).in_
    have HAin : Hid (∀ a ∈ xs_, OpIn w.heap.size a.1.r.op) := Lib.hid fun a ha => (hA' a ha).in_
    have HE : Hid (ofErr base ps = 0 → base ≤ 4611686018427387904) := Lib.hid ofErr_base
    clear hF hsa hsq hla hlq hxl hpl
    go_enter Tryz.func3, Tryz.ntmps3
    go_wp2_with fail
    refine hfew.mono ?_
    rintro e w0 ⟨rfl, hb0⟩
    go_wp2_with fail
    refine (hof w0 hb0).mono ?_
    clear hof hfew
    intro e w1 hG
    obtain ⟨hb1, hG⟩ := hG
    have hb1' := hb0.trans (hb1.mono hb0.size)
    have hQ1 := (hQ'.later hb1')
    have hr1 := hQ1.rd
    have k63 : 0 + n ≤ maxLen := by unfold maxLen; omega
    have kby : (0 + n) * 136 ≤ 140737488355328 := by omega
    rcases hG with ⟨he, g, l, s, qs, rfl, hP, htw⟩ | ⟨hne, rfl⟩
    · have HP0 := Lib.hid he
      clear he
      go_wp2_with (at_builtin; refine wpList_app _ rfl (.const (.slice none 0 0)) (.tmp 25) 23 rfl w1.heap.size 42 zeroR.val 9 136 sliceT_req _ 0 [] rfl (World.ownsRow_nil _ _ _ _) ao n cap (reqV (ps.map Prod.fst)) rfl hr1 (reqV_one _) k63 kby (Nat.le_refl _) ?_; intro ao2 cap2 w2 own2 gr2 bel2 _; rw [Nat.zero_add, List.nil_append] at own2)
      have hr2 : Rd w2 9 ao2 n cap2 (reqV (ps.map Prod.fst)) := Rd.of_own_slice own2
      have hlow : 0 < cap2 → ∀ a, ao2 = some a → w1.heap.size ≤ a.block ∧ a.block < w2.heap.size := fun h0 a ha => ⟨own_fresh own2 a ha, hr2.lt h0 a ha⟩
      have hQ2 : ReqsAt ao2 n cap2 ps w2 := ⟨hr2, fun p hp => (hQ1.ops p hp).later bel2⟩
      have hrof := rOf_any base ao2 n cap2 ps w2 hQ2 (by omega) hQ.fit
      have q0 := hb0.size
      have q1 := hb1.size
      have q2 := bel2.size
      clear own2 gr2
      refine hrof.mono ?_
      clear hrof
      intro e w3 hG2
      obtain ⟨hb3, hG2⟩ := hG2
      rw [if_pos HP0.out] at hG2
      obtain ⟨g2, rfl, hR, hg2⟩ := hG2
      have hS := St.start hP htw HP0.out hQ.fit (fun p hp => (HPin.out p hp).mono q0) (bel2.trans (hb3.mono q2)) hR (by omega) h0 (fun h a ha => ⟨(hlow h a ha).1, by have := (hlow h a ha).2; omega⟩)
      have hb3' : Below w0.heap.size w0 w3 := hb1.trans ((bel2.trans (hb3.mono q2)).mono q1)
      have hbase := HE.out HP0.out
      have hS3 : StE w0.heap.size g g2 (base + 40 + (0 : Nat)) (40 + 0) w3 := ⟨_, _, _, _, _, _, _, _, hS, by omega, by omega⟩
      clear hP htw hR hS hb3 bel2 hr2 hQ2 hlow hr1 hQ1 hb1 hb1' q1 q2 hg2
      go_wp2_with fail
      go_loopw [11] (fun p wr => ∃ i : Nat, i ≤ m ∧ p = .int .i64 (i : Int) ∧ StE w0.heap.size g g2 (base + 40 + i) (40 + i) wr ∧ Below w0.heap.size w0 wr) (fun p _ => m - (intOf p).toNat)
      case atStart => exact ⟨0, Nat.zero_le _, rfl, hS3, hb3'⟩
      case round =>
        clear hS3 hb3'
        obtain ⟨i, hi, rfl, hS, hbr⟩ := hrel
        have hbw := hb0.trans (hbr.mono hb0.size)
        by_cases him : i < m
        · obtain ⟨b1, o1, rfl, hl1, hc1⟩ := hA.rd.some (by have := hA.rd.le; omega)
          obtain ⟨a, hu⟩ : ∃ a, xs_[i]? = some a := ⟨_, List.getElem?_eq_getElem (by rw [LX.out]; exact him)⟩
          have ham := List.mem_of_getElem? hu
          obtain ⟨c0, c1, c2, c3, c4, c5, c6, c7, c8, c9, c10⟩ := acells (xs_.map Prod.fst) i a.1 (amap_at xs_ i a hu) (W := wr) (b := b1) (o := o1) (fun j x hj => (hbw.cell (p := ⟨b1, o1 + j, none⟩) hl1).trans (hc1 j x hj))
          have i0 : (0 : Int) ≤ (i : Int) := by omega
          have i1 : (i : Int) < (m : Int) := by omega
          have hwi : IntKind.wrap .i64 ((i : Int) + 1) = (i : Int) + 1 := by rw [IntKind.wrap_i64]; omega
          have hdo := do_any a.1 a.2 wr hS ((hA' a ham).later hbw) (hA.fit a ham) ((HAin.out a ham).mono q0) (by omega) (by omega)
          unfold AV.val AV.cells at hdo
          go_wp2_with fail
          refine hdo.mono ?_
          rintro e w4 ⟨rfl, hS4, hb4⟩
          have hbr4 := hbr.trans hb4
          clear c0 c1 c2 c3 c4 c5 c6 c7 c8 c9 c10 hdo
          go_wp2_with fail
          go_roundw
          case rel => exact ⟨i + 1, by omega, by go_num, hS4.mono (by omega) (by omega), hbr4⟩
          case measure => simp [intOf]; omega
        · have him2 : i = m := by omega
          subst him2
          obtain ⟨base9, l9, s9, lo9, n9, lc9, qs9, ps9, hS9, hn9, hb9⟩ := hS
          have hsame := same_any wr hS9 (by omega) (by omega)
          clear hS9
          go_wp2_with fail
          refine hsame.mono ?_
          rintro e w4 ⟨rfl, -, hb4⟩
          have hbw4 := hbw.trans (hb4.mono hbw.size)
          go_wp2_with fail
          refine (known_any w4).mono ?_
          rintro e w5 ⟨rfl, hb5⟩
          go_wp2_with fail
          go_ret
          exact ⟨rfl, hbw4.trans (hb5.mono hbw4.size)⟩
    · have HNE := Lib.hid hne
      have hE1 : ofErr base ps = 2 ∨ ofErr base ps = 10 := by
        unfold ofErr at hne ⊢
        split
        · exact .inl rfl
        · rename_i h1
          rw [if_neg h1] at hne
          split
          · exact .inr rfl
          · rename_i h2
            exact absurd (if_neg h2) hne
      clear hne
      have hp : Sem.run Tryz.prog (binOp BinOp.eql 27 (.pointer none) (.pointer none)) w1 = .ok (.bool true) w1 := eql_none w1
      go_wp2_with (at_builtin; refine wpList_app _ rfl (.const (.slice none 0 0)) (.tmp 25) 23 rfl w1.heap.size 42 zeroR.val 9 136 sliceT_req _ 0 [] rfl (World.ownsRow_nil _ _ _ _) ao n cap (reqV (ps.map Prod.fst)) rfl hr1 (reqV_one _) k63 kby (Nat.le_refl _) ?_; intro ao2 cap2 w2 own2 gr2 bel2 _; rw [Nat.zero_add, List.nil_append] at own2)
      have hr2 : Rd w2 9 ao2 n cap2 (reqV (ps.map Prod.fst)) := Rd.of_own_slice own2
      have hQ2 : ReqsAt ao2 n cap2 ps w2 := ⟨hr2, fun p hp => (hQ1.ops p hp).later bel2⟩
      have hrof := rOf_any base ao2 n cap2 ps w2 hQ2 (by omega) hQ.fit
      clear own2 gr2 hp
      refine hrof.mono ?_
      clear hrof
      intro e w3 hG2
      obtain ⟨hb3, hG2⟩ := hG2
      rw [if_neg HNE.out] at hG2
      subst hG2
      have hb3' := hb1'.trans ((bel2.trans (hb3.mono bel2.size)).mono hb1'.size)
      clear hr2 hQ2 hr1 hQ1 bel2 hb3
      have hp3 := eql_none w3
      generalize ofErr base ps = E at *
      rcases hE1 with rfl | rfl
      · go_wp2_with fail
        refine (known_any w3).mono ?_
        rintro e w4 ⟨rfl, hb4⟩
        go_wp2_with fail
        go_ret
        exact ⟨rfl, hb3'.trans (hb4.mono hb3'.size)⟩
      · go_wp2_with fail
        refine (known_any w3).mono ?_
        rintro e w4 ⟨rfl, hb4⟩
        go_wp2_with fail
        go_ret
        exact ⟨rfl, hb3'.trans (hb4.mono hb3'.size)⟩
end Go.Proofs.YtghjgajgjhbjpaaGreat.Msg
namespace Go.Proofs.YtghjgajgjhbjpaaGreat.Msg
open Go.RowKit Go.Lib Go.Proofs.YtghjgajgjhbjpaaGreat.Mem Go.Proofs.YtghjgajgjhbjpaaGreat.Tlv

/-- A row without room. -/
def Full (l : Value) (n : Nat) : Prop := ∀ (b o c : Nat), l = .slice (some ⟨b, o, none⟩) n c → c = n
/-- An append to the row does not touch block k. -/
def Safe (l : Value) (n k : Nat) : Prop := l.ownBlock = some k → Full l n
theorem Full.next {size m : Nat} {l l' : Value} {n n' k : Nat} (h : Full l n) (hn : RowNext size m l n l' n') (hk : l'.ownBlock = some k) (hm : k < m) : Full l' n' := by
  intro b o c e
  have hb : b = k := by rw [e] at hk; simpa [Value.ownBlock] using hk
  subst hb
  have hlt : ∀ b', (Value.slice (some ⟨b, o + n' * size + 1, none⟩) 0 0).ownBlock = some b' → b' < m := by
    intro b' e'
    have : b = b' := by simpa [Value.ownBlock] using e'
    omega
  have hsep : RowSep size l n (.slice (some ⟨b, o + n' * size + 1, none⟩) 0 0) 0 := fun b' oA cA oB cB e1 _ => .inl (h b' oA cA e1)
  rcases hn _ 0 hlt hsep b o c (o + n' * size + 1) 0 e rfl with h1 | h1
  · exact h1
  · omega
theorem Safe.next {size m : Nat} {l l' : Value} {n n' k : Nat} (h : Safe l n k) (hn : RowNext size m l n l' n') (hf : ∀ j, l'.ownBlock = some j → l.ownBlock = some j ∨ m ≤ j) (hm : k < m) : Safe l' n' k := by
  intro hk
  rcases hf k hk with h1 | h1
  · exact (h h1).next hn hk hm
  · omega
structure OpSafe (v : OV) (l : Value) (n : Nat) : Prop where
  a : 0 < v.ac → ∀ x, v.ao = some x → Safe l n x.block
  b : 0 < v.bc → ∀ x, v.bo = some x → Safe l n x.block
  c : 0 < v.cc → ∀ x, v.co = some x → Safe l n x.block
theorem OpSafe.next {size m : Nat} {v : OV} {l l' : Value} {n n' : Nat} (h : OpSafe v l n) (hn : RowNext size m l n l' n') (hf : ∀ j, l'.ownBlock = some j → l.ownBlock = some j ∨ m ≤ j) (hin : OpIn m v) : OpSafe v l' n' :=
  ⟨fun h0 x hx => (h.a h0 x hx).next hn hf (hin.a h0 x hx), fun h0 x hx => (h.b h0 x hx).next hn hf (hin.b h0 x hx), fun h0 x hx => (h.c h0 x hx).next hn hf (hin.c h0 x hx)⟩
theorem ApartC.safe {v : OV} {l : Value} {n : Nat} (h : ApartC v l.ownBlock) : OpSafe v l n :=
  ⟨fun h0 x hx e => absurd e.symm (h.a h0 x hx), fun h0 x hx e => absurd e.symm (h.b h0 x hx), fun h0 x hx e => absurd e.symm (h.c h0 x hx)⟩
theorem Full.safe {v : OV} {l : Value} {n : Nat} (h : Full l n) : OpSafe v l n := ⟨fun _ _ _ _ => h, fun _ _ _ _ => h, fun _ _ _ _ => h⟩

section
variable {B g g2 : Nat} {base : Int} {l s : Value} {lo : Option Addr} {n lc : Nat} {qs ps : List RP} {W W' : World} {l' s' : Value} {n' : Nat}
theorem keepsRow_full {v : Value} {m size k : Nat} (h : KeepsRow W W' v m size) (hf : Full v m) (ho : ∃ o c, v = .slice (some ⟨k, o, none⟩) m c) : W'.heap[k]? = W.heap[k]? := by
  obtain ⟨o, c, e⟩ := ho
  exact (h k o c e).1 (hf k o c e)
theorem own_slice {e : TypeId} {size k m : Nat} {v : Value} {xs : List Value} (h : OwnO W B e size v m xs) (hk : v.ownBlock = some k) : ∃ o c, v = .slice (some ⟨k, o, none⟩) m c := by
  rcases h.2 with ⟨rfl, -⟩ | ⟨g, off, cap, cur, rfl, -⟩
  · cases hk
  · have : g = k := by simpa [Value.ownBlock] using hk
    subst this
    exact ⟨off, cap, rfl⟩
/-- A block that no append may touch stays. -/
theorem St.stays (h : St B g g2 base l s lo n lc qs ps W) (hT : Trans g g2 l s n l' s' n' W W') {k : Nat} (hk : k < W.heap.size) (h1 : k ≠ g) (h2 : k ≠ g2) (sl : Safe l n k) (ss : Safe s n k) : W'.heap[k]? = W.heap[k]? := by
  have hl := h.pl.log.own
  have hs := h.pl.log.owz
  rw [List.length_map, h.len.2] at hl hs
  by_cases e1 : l.ownBlock = some k
  · exact keepsRow_full hT.kl (sl e1) (own_slice hl e1)
  · by_cases e2 : s.ownBlock = some k
    · exact keepsRow_full hT.ks (ss e2) (own_slice hs e2)
    · exact hT.oth k hk h1 h2 (fun e => e1 e.symm) (fun e => e2 e.symm)
theorem ownO_turn {e : TypeId} {size m nv : Nat} {B' : Nat} {v lv : Value} {xs xs' : List Value} (h : OwnO W B e size v nv xs) (hl : OwnO W B' e size lv m xs') (hk : KeepsRow W W' lv m size) (hsep : RowSep size lv m v nv) (hoth : ∀ k, v.ownBlock = some k → lv.ownBlock ≠ some k → W'.heap[k]? = W.heap[k]?) : OwnO W' B e size v nv xs := by
  obtain ⟨h1, h2⟩ := h
  refine ⟨h1, ?_⟩
  rcases h2 with h2 | ⟨b, off, cap, cur, rfl, hbg, hg, hn, hc, hs, ht⟩
  · exact .inl h2
  · by_cases e1 : lv.ownBlock = some b
    · obtain ⟨o, c, rfl⟩ := own_slice hl e1
      obtain ⟨k1, k2⟩ := hk b o c rfl
      rcases hsep b o c off cap rfl rfl with hf | hf
      · exact .inr ⟨b, off, cap, cur, rfl, hbg, (k1 hf).trans hg, hn, hc, hs, ht⟩
      · obtain ⟨cur', q1, q2, q3⟩ := k2 cur e hg
        exact .inr ⟨b, off, cap, cur', rfl, hbg, q1, hn, hc, by omega, fun j hj => (q3 _ (by omega)).trans (ht j hj)⟩
    · exact .inr ⟨b, off, cap, cur, rfl, hbg, (hoth b rfl e1).trans hg, hn, hc, hs, ht⟩
theorem rd_safe {size : Nat} {ao : Option Addr} {m cap : Nat} {xs : List Value} (hr : Rd W size ao m cap xs) (h : St B g g2 base l s lo n lc qs ps W) (hT : Trans g g2 l s n l' s' n' W W') (hx : ∀ u ∈ xs, plainCell u = true)
    (h1 : 0 < cap → ∀ a, ao = some a → Safe l n a.block) (h2 : 0 < cap → ∀ a, ao = some a → Safe s n a.block) : Rd W' size ao m cap xs := by
  obtain ⟨lo9, lc9, so9, sc9, -, -, hR⟩ := h.pl.rd
  obtain ⟨r1, r2, r3, r4, r5⟩ := hr
  refine ⟨r1, r2, r3, r4, fun h0 a ha => ?_⟩
  obtain ⟨e, lt, c⟩ := r5 h0 a ha
  refine ⟨e, Nat.lt_of_lt_of_le lt hT.size, fun j u hu => ?_⟩
  have hc := c j u hu
  have hpl := hx u (List.mem_of_getElem? hu)
  have hne : a.block ≠ g := by
    intro e
    rw [e] at hc
    rw [plog_cells hR.at_ _ u hc] at hpl
    cases hpl
  have hne2 : a.block ≠ g2 := by
    intro e
    rw [e] at hc
    rw [log_cells h.rf.at_ _ u hc] at hpl
    cases hpl
  exact (World.cell?_of_block (a := ⟨a.block, a.off + j, none⟩) (h.stays hT lt hne hne2 (h1 h0 a ha) (h2 h0 a ha))).trans hc
theorem OpAt.safe {v : OV} {c : OC} (hv : OpAt W v c) (h : St B g g2 base l s lo n lc qs ps W) (hT : Trans g g2 l s n l' s' n' W W') (h1 : OpSafe v l n) (h2 : OpSafe v s n) : OpAt W' v c := by
  obtain ⟨a, b, d, la, lb, lc⟩ := hv
  refine ⟨rd_safe a h hT ?_ h1.a h2.a, rd_safe b h hT ?_ h1.b h2.b, rd_safe d h hT ?_ h1.c h2.c, la, lb, lc⟩
  · intro u hu
    simp only [atV, List.mem_flatMap, List.mem_cons, List.not_mem_nil, or_false] at hu
    obtain ⟨x, -, rfl | rfl⟩ := hu <;> rfl
  · intro u hu
    simp only [txV, List.mem_map] at hu
    obtain ⟨x, -, rfl⟩ := hu
    rfl
  · intro u hu
    simp only [byV, List.mem_map] at hu
    obtain ⟨x, -, rfl⟩ := hu
    rfl
end

theorem rd_moved' {W W' : World} {size : Nat} {ao : Option Addr} {n cap : Nat} {xs : List Value} (h : Rd W size ao n cap xs) (hz : W.heap.size ≤ W'.heap.size) (hd : 0 < n → ∀ a, ao = some a → W'.heap[a.block]? = W.heap[a.block]?) : Rd W' size ao n cap xs := by
  obtain ⟨h1, h2, h3, h4, h5⟩ := h
  refine ⟨h1, h2, h3, h4, fun h0 a ha => ?_⟩
  obtain ⟨s, l, c⟩ := h5 h0 a ha
  refine ⟨s, Nat.lt_of_lt_of_le l hz, fun j u hu => ?_⟩
  have hn : 0 < n := by
    have := (List.getElem?_eq_some_iff.1 hu).1
    rw [h1] at this
    rcases Nat.eq_zero_or_pos n with h | h
    · rw [h, Nat.zero_mul] at this; omega
    · exact h
  exact (World.cell?_of_block (a := ⟨a.block, a.off + j, none⟩) (hd hn a ha)).trans (c j u hu)
theorem RefAt.moved' {g : Nat} {base : Int} {lo : Option Addr} {n lc : Nat} {ps : List RP} {W W' : World} {B : Nat} (h : RefAt g base lo n lc ps W) (hb : Below B W W') (hg : W'.heap[g]? = W.heap[g]?) (hl : 0 < n → ∀ a, lo = some a → W'.heap[a.block]? = W.heap[a.block]?) (hin : ∀ p ∈ ps, OpIn B p.1.op) : RefAt g base lo n lc ps W' :=
  ⟨hg.trans h.at_, rd_moved' h.rq.rd hb.size hl, fun p hp => (h.rq.ops p hp).low (hin p hp) hb⟩
/-- A row of requests does not lie in a log's own cells. -/
theorem row_ne {W : World} {b n cap : Nat} {o : Nat} {rs : List RV} (h : Rd W 9 (some ⟨b, o, none⟩) n cap (reqV rs)) (hn : 0 < n) : (W.cell? ⟨b, o, none⟩).isSome = true ∧ ∃ x y, W.cell? ⟨b, o, none⟩ = some (.int .u64 x) ∧ W.cell? ⟨b, o + 1, none⟩ = some (.int .u64 y) := by
  have hl := h.1
  rw [reqV_len] at hl
  cases rs with
  | nil => simp at hl; omega
  | cons r rs =>
    obtain ⟨-, -, hc⟩ := h.2.2.2.2 (by have := h.2.1; omega) _ rfl
    have c0 := hc 0 (.int .u64 r.cl) rfl
    have c1 := hc 1 (.int .u64 r.nu) rfl
    exact ⟨by rw [show o = o + 0 from rfl, c0]; rfl, _, _, c0, c1⟩
theorem row_ne_log {W : World} {a : Addr} {n cap : Nat} {rs : List RV} {g : Nat} {bl : Bool} {base : Int} {x1 x2 : Option Addr} {y1 y2 z1 z2 : Nat} {t : TypeId} (h : Rd W 9 (some a) n cap (reqV rs)) (hn : 0 < n) (hg : W.heap[g]? = some (.cells #[.bool bl, .int .u64 base, .slice x1 y1 z1, .slice x2 y2 z2] t)) : a.block ≠ g := by
  obtain ⟨b, o, sp⟩ := a
  have hs : sp = none := (h.2.2.2.2 (by have := h.2.1; omega) _ rfl).1
  subst hs
  obtain ⟨-, x, y, c0, c1⟩ := row_ne h hn
  intro e
  dsimp only at e
  subst e
  simp only [World.cell?, hg] at c0 c1
  match o, c0, c1 with
  | 0, c0, _ => simp at c0
  | 1, _, c1 => simp at c1
  | 2, c0, _ => simp at c0
  | 3, c0, _ => simp at c0
  | o + 4, c0, _ => simp at c0
theorem row_ne_ref {W : World} {a : Addr} {n cap : Nat} {rs : List RV} {g : Nat} {base : Int} {x1 : Option Addr} {y1 z1 : Nat} {t : TypeId} (h : Rd W 9 (some a) n cap (reqV rs)) (hn : 0 < n) (hg : W.heap[g]? = some (.cells #[.int .u64 base, .slice x1 y1 z1] t)) : a.block ≠ g := by
  obtain ⟨b, o, sp⟩ := a
  have hs : sp = none := (h.2.2.2.2 (by have := h.2.1; omega) _ rfl).1
  subst hs
  obtain ⟨-, x, y, c0, c1⟩ := row_ne h hn
  intro e
  dsimp only at e
  subst e
  simp only [World.cell?, hg] at c0 c1
  match o, c0, c1 with
  | 0, _, c1 => simp at c1
  | 1, c0, _ => simp at c0
  | o + 2, c0, _ => simp at c0

/-- The other pair of logs, at gy and gv, as it stands beside a pair at g and g2. -/
structure Guest (B g g2 : Nat) (l s : Value) (n : Nat) (gy gv : Nat) (base : Int) (ly sy : Value) (lov : Option Addr) (ny lcv : Nat) (qy py : List RP) (W : World) : Prop where
  st : St B gy gv base ly sy lov ny lcv qy py W
  d : gy ≠ g ∧ gy ≠ g2 ∧ gv ≠ g ∧ gv ≠ g2
  rl : RowSep 9 l n ly ny
  rs : RowSep 1 s n sy ny
  lo : 0 < ny → ∀ a, lov = some a → Safe l n a.block ∧ Safe s n a.block ∧ a.block ≠ g ∧ a.block ≠ g2
  ops : ∀ q ∈ qy, OpSafe q.1.op l n ∧ OpSafe q.1.op s n
theorem Guest.later {B g g2 : Nat} {l s : Value} {n gy gv : Nat} {base : Int} {ly sy : Value} {lov : Option Addr} {ny lcv : Nat} {qy py : List RP} {W W' : World} (h : Guest B g g2 l s n gy gv base ly sy lov ny lcv qy py W) (hb : Below W.heap.size W W') : Guest B g g2 l s n gy gv base ly sy lov ny lcv qy py W' :=
  ⟨h.st.later hb, h.d, h.rl, h.rs, h.lo, h.ops⟩
theorem Guest.turn {B g g2 : Nat} {l s : Value} {n gy gv : Nat} {base : Int} {ly sy : Value} {lov : Option Addr} {ny lcv : Nat} {qy py : List RP} {W W' : World} {bx : Int} {lo : Option Addr} {lc : Nat} {qs ps : List RP} {l' s' : Value} {n' : Nat}
    (h : Guest B g g2 l s n gy gv base ly sy lov ny lcv qy py W) (hm : St B g g2 bx l s lo n lc qs ps W) (hT : Trans g g2 l s n l' s' n' W W') (hb : Below B W W') : Guest B g g2 l' s' n' gy gv base ly sy lov ny lcv qy py W' := by
  obtain ⟨d1, d2, d3, d4⟩ := h.d
  have hml := hm.pl.log.own
  have hms := hm.pl.log.owz
  rw [List.length_map, hm.len.2] at hml hms
  have hyl := h.st.pl.log.own
  have hys := h.st.pl.log.owz
  rw [List.length_map, h.st.len.2] at hyl hys
  have gyl := ownO_ne h.st.pl.log.at_ (by decide) hml
  have gys := ownO_ne h.st.pl.log.at_ (by decide) hms
  have gvl := ownO_ne h.st.rf.at_ (by decide) hml
  have gvs := ownO_ne h.st.rf.at_ (by decide) hms
  have ryg := ownO_ne hm.pl.log.at_ (by decide) hyl
  have ryg2 := ownO_ne hm.rf.at_ (by decide) hyl
  have rsg := ownO_ne hm.pl.log.at_ (by decide) hys
  have rsg2 := ownO_ne hm.rf.at_ (by decide) hys
  have ls1 := rowsO_ne hyl hms (by decide)
  have ls2 := rowsO_ne hys hml (by decide)
  have egy : W'.heap[gy]? = W.heap[gy]? := hT.oth gy h.st.pl.log.lt d1 d2 (fun e => gyl e.symm) (fun e => gys e.symm)
  have egv : W'.heap[gv]? = W.heap[gv]? := hT.oth gv h.st.g2_lt d3 d4 (fun e => gvl e.symm) (fun e => gvs e.symm)
  have hyl' := ownO_turn hyl hml hT.kl h.rl (fun k hk hne => hT.oth k (hyl.low k hk).2 (fun e => ryg (by rw [hk, e])) (fun e => ryg2 (by rw [hk, e])) (fun e => hne e.symm) (fun e => ls1.elim (fun h => by rw [h] at hk; cases hk) (fun h => h (hk.trans e))))
  have hys' := ownO_turn hys hms hT.ks h.rs (fun k hk hne => hT.oth k (hys.low k hk).2 (fun e => rsg (by rw [hk, e])) (fun e => rsg2 (by rw [hk, e])) (fun e => ls2.elim (fun h => by rw [h] at hk; cases hk) (fun h => h (hk.trans e))) (fun e => hne e.symm))
  have hly : ∀ b, ly.ownBlock = some b → b < W.heap.size := fun b e => (hyl.low b e).2
  have hsy : ∀ b, sy.ownBlock = some b → b < W.heap.size := fun b e => (hys.low b e).2
  refine ⟨⟨⟨⟨egy.trans h.st.pl.log.at_, h.st.pl.log.le, ?_, ?_⟩, fun q hq => (h.st.pl.ops q hq).safe hm hT (h.ops q hq).1 (h.ops q hq).2, h.st.pl.sep, h.st.pl.nil⟩, ?_, h.st.tw, h.st.may, h.st.fit, h.st.pin, h.st.B2, h.st.gne, h.st.lo1, h.st.b0⟩, h.d, hT.nl ly ny hly h.rl, hT.ns sy ny hsy h.rs, fun h0 a ha => ?_, fun q hq => ?_⟩
  · rw [List.length_map, h.st.len.2]; exact hyl'
  · rw [List.length_map, h.st.len.2]; exact hys'
  · refine h.st.rf.moved' hb egv (fun h0 a ha => ?_) h.st.pin
    obtain ⟨k1, k2, k3, k4⟩ := h.lo h0 a ha
    exact hm.stays hT (h.st.rf.rq.rd.lt (by have := h.st.rf.rq.rd.le; omega) a ha) k3 k4 k1 k2
  · obtain ⟨k1, k2, k3, k4⟩ := h.lo h0 a ha
    have lt := h.st.rf.rq.rd.lt (by have := h.st.rf.rq.rd.le; omega) a ha
    exact ⟨k1.next hT.nl hT.fl lt, k2.next hT.ns hT.fs lt, k3, k4⟩
  · obtain ⟨k1, k2⟩ := h.ops q hq
    have hin := (h.st.pl.ops q hq).in_
    exact ⟨k1.next hT.nl hT.fl hin, k2.next hT.ns hT.fs hin⟩
end Go.Proofs.YtghjgajgjhbjpaaGreat.Msg
namespace Go.Proofs.YtghjgajgjhbjpaaGreat.Msg
open Go.RowKit Go.Lib Go.Proofs.YtghjgajgjhbjpaaGreat.Mem Go.Proofs.YtghjgajgjhbjpaaGreat.Tlv

set_option maxRecDepth 100000 in
set_option maxHeartbeats 4000000 in
theorem pSameReq_any (r r' : RV) (c c' : OC) (w : World) (h : OpAt w r.op c) (h' : OpAt w r'.op c') :
    Calls Tryz.prog 31 #[r.val, r'.val] w (GivesB (sameReq r c r' c') w) := by
  have hb0 : Below w.heap.size w ((w.alloc r.box).alloc r'.box) := below_two w _ _
  obtain ⟨k1, k2⟩ := two_boxes w r.box r'.box
  have hsame := sameOp_any r.op r'.op c c' _ (h.later hb0) (h'.later hb0)
  unfold RV.box RV.cells at hb0 k1 k2 hsame
  unfold OV.val at hsame
  unfold RV.val RV.cells
  by_cases e1 : r.cl = r'.cl
  case neg =>
    have f1 : (r.cl == r'.cl) = false := by simp [e1]
    have Hs : Hid (sameReq r c r' c' = false) := Lib.hid (by unfold sameReq; rw [decide_eq_false e1]; simp)
    clear e1 hsame
    go_enter Tryz.func31, Tryz.ntmps31
    go_wp2_with fail
    go_ret
    exact ⟨by rw [Hs.out]; rfl, hb0⟩
  have f1 : (r.cl == r'.cl) = true := by simp [e1]
  by_cases e2 : r.nu = r'.nu
  case neg =>
    have f2 : (r.nu == r'.nu) = false := by simp [e2]
    have Hs : Hid (sameReq r c r' c' = false) := Lib.hid (by unfold sameReq; rw [decide_eq_false e2]; simp)
    clear e1 e2 hsame
    go_enter Tryz.func31, Tryz.ntmps31
    go_wp2_with fail
    go_ret
    exact ⟨by rw [Hs.out]; rfl, hb0⟩
  have f2 : (r.nu == r'.nu) = true := by simp [e2]
  have Hs : Hid (sameReq r c r' c' = sameOp r.op c r'.op c') := Lib.hid (by unfold sameReq; rw [decide_eq_true e1, decide_eq_true e2]; simp)
  clear e1 e2
  go_enter Tryz.func31, Tryz.ntmps31
  go_wp2_with fail
  refine hsame.mono ?_
  rintro e w1 ⟨rfl, hb1⟩
  rw [← Hs.out]
  go_wp2_with fail
  go_ret
  exact ⟨rfl, hb0.trans (hb1.mono hb0.size)⟩


set_option maxRecDepth 100000 in
theorem clipR_any (ao : Option Addr) (n cap : Nat) (w : World) (hn : n ≤ cap) (hc : ao = none → cap = 0) : Calls Tryz.prog 56 #[.slice ao n cap] w fun e w' => e = .returned (.slice ao n n) ∧ w' = w := by
  have n0 : (0 : Int) ≤ (n : Int) := by omega
  have n1 : (n : Int) ≤ (cap : Int) := by omega
  cases ao with
  | none =>
    have h0 := hc rfl
    subst h0
    have h1 : n = 0 := by omega
    subst h1
    go_enter Tryz.func56, Tryz.ntmps56
    go_wp2_with fail
    go_ret
    exact ⟨rfl, rfl⟩
  | some a =>
    go_enter Tryz.func56, Tryz.ntmps56
    go_wp2_with fail
    go_ret
    exact ⟨rfl, rfl⟩
set_option maxRecDepth 100000 in
theorem clipI_any (ao : Option Addr) (n cap : Nat) (w : World) (hn : n ≤ cap) (hc : ao = none → cap = 0) : Calls Tryz.prog 57 #[.slice ao n cap] w fun e w' => e = .returned (.slice ao n n) ∧ w' = w := by
  have n0 : (0 : Int) ≤ (n : Int) := by omega
  have n1 : (n : Int) ≤ (cap : Int) := by omega
  cases ao with
  | none =>
    have h0 := hc rfl
    subst h0
    have h1 : n = 0 := by omega
    subst h1
    go_enter Tryz.func57, Tryz.ntmps57
    go_wp2_with fail
    go_ret
    exact ⟨rfl, rfl⟩
  | some a =>
    go_enter Tryz.func57, Tryz.ntmps57
    go_wp2_with fail
    go_ret
    exact ⟨rfl, rfl⟩

def GivesCopy (B : Nat) (base : Int) (l s : Value) (qs : List RP) (w : World) (e : Ending) (w' : World) : Prop :=
  ∃ gy ly sy, e = .returned (.pointer (some ⟨gy, 0, none⟩)) ∧ PLog B gy base ly sy qs w' ∧ Below w.heap.size w w' ∧ w.heap.size ≤ gy ∧ Full ly qs.length ∧ Full sy qs.length ∧ RowSep 9 l qs.length ly qs.length ∧ RowSep 1 s qs.length sy qs.length ∧ ly.ownBlock = l.ownBlock ∧ sy.ownBlock = s.ownBlock
theorem rowSep_self {size n c c' : Nat} {a : Option Addr} : RowSep size (.slice a n c) n (.slice a n c') n := by
  intro b oA cA oB cB e1 e2
  cases e1
  cases e2
  exact .inr (Nat.le_refl _)
theorem own_cap {a : Option Addr} {n c c' : Nat} : (Value.slice a n c).ownBlock = (Value.slice a n c').ownBlock := by cases a <;> rfl
theorem full_self {n : Nat} {a : Option Addr} : Full (.slice a n n) n := by
  intro b o c e
  cases e
  rfl
theorem OwnO.clip {W : World} {B : Nat} {e : TypeId} {size n : Nat} {a : Option Addr} {c : Nat} {xs : List Value} (h : OwnO W B e size (.slice a n c) n xs) : OwnO W B e size (.slice a n n) n xs := by
  obtain ⟨h1, h2⟩ := h
  refine ⟨h1, ?_⟩
  rcases h2 with ⟨h2, h3⟩ | ⟨b, off, cap, cur, hv, hbg, hg, hn, hc, hs, ht⟩
  · cases h2
    exact .inl ⟨rfl, h3⟩
  · cases hv
    have := Nat.mul_le_mul_right size hn
    exact .inr ⟨b, off, n, cur, rfl, hbg, hg, Nat.le_refl _, by omega, by omega, ht⟩

set_option maxRecDepth 100000 in
set_option maxHeartbeats 4000000 in
theorem copy_any (B g : Nat) (base : Int) (l s : Value) (qs : List RP) (w : World) (h : PLog B g base l s qs w) :
    Calls Tryz.prog 13 #[.pointer (some ⟨g, 0, none⟩)] w (GivesCopy B base l s qs w) := by
  have hmo : Tryz.prog.follows .mixedOrders = true := by kernel_rfl
  obtain ⟨lo, lc, so, sc, rfl, rfl, hR⟩ := h.rd
  have hle := h.log.le
  have hlt := h.log.lt
  have own := h.log.own
  have owz := h.log.owz
  rw [List.length_map] at own owz
  have r1 := hR.rl.2.1
  have r2 := hR.rz.2.1
  have r3 := hR.rl.2.2.2.1
  have r4 := hR.rz.2.2.2.1
  have hnil := h.nil
  have hops := h.ops
  have hsep := h.sep
  generalize hnn : qs.length = n at *
  go_enter Tryz.func13, Tryz.ntmps13
  go_wp2_with fail
  refine (is_any true g base n lo lc so sc _ _ w hR).mono ?_
  rintro e w1 ⟨rfl, rfl⟩
  go_upto_region 3 with fail
  have s0 : AtG g base (.slice lo n lc) (.slice so n sc) w1.drew ∧ Below w1.heap.size w1 w1.drew := ⟨hR.at_, (Below.refl _ _).drew⟩
  refine wp_region_held (S := fun W => AtG g base (.slice lo n lc) (.slice so n sc) W ∧ Below w1.heap.size w1 W) hmo ?_
  change wpAnyH _ _ _ _ _ _ _ _ (World.drew w1)
  generalize w1.drew = V0 at *
  refine wpAnyH_take (i := 0) (v := .pointer (some ⟨g, 0, none⟩)) rfl (by kernel_rfl) (by kernel_rfl) (by kernel_rfl) (fun _ _ _ h => h) (Or.inl ⟨by kernel_rfl, by intro _ _; kernel_rfl⟩) s0 ?_
  go_simp
  refine wpAnyH_take (i := 1) (v := .pointer (some ⟨g, 0, none⟩)) rfl (by kernel_rfl) (by kernel_rfl) (by kernel_rfl) (fun _ _ _ h => h) (Or.inl ⟨by kernel_rfl, by intro _ _; kernel_rfl⟩) s0 ?_
  go_simp
  refine wpAnyH_take (i := 2) (v := .pointer (some ⟨g, 1, none⟩)) rfl (by kernel_rfl) (by kernel_rfl) (by kernel_rfl) (fun _ _ _ h => h) (Or.inl ⟨by kernel_rfl, by intro _ _; kernel_rfl⟩) s0 ?_
  go_simp
  refine wpAnyH_take (i := 3) (v := .int .u64 base) rfl (by kernel_rfl) (by kernel_rfl) (by kernel_rfl) (fun _ _ _ h => h) (Or.inl ⟨by kernel_rfl, by rintro w h; obtain ⟨c1, c2, c3, -⟩ := h.1.cells; go_simp⟩) s0 ?_
  go_simp
  refine wpAnyH_take (i := 4) (v := .pointer (some ⟨g, 0, none⟩)) rfl (by kernel_rfl) (by kernel_rfl) (by kernel_rfl) (fun _ _ _ h => h) (Or.inl ⟨by kernel_rfl, by intro _ _; kernel_rfl⟩) s0 ?_
  go_simp
  refine wpAnyH_take (i := 5) (v := .pointer (some ⟨g, 0, none⟩)) rfl (by kernel_rfl) (by kernel_rfl) (by kernel_rfl) (fun _ _ _ h => h) (Or.inl ⟨by kernel_rfl, by intro _ _; kernel_rfl⟩) s0 ?_
  go_simp
  refine wpAnyH_take (i := 6) (v := .pointer (some ⟨g, 2, none⟩)) rfl (by kernel_rfl) (by kernel_rfl) (by kernel_rfl) (fun _ _ _ h => h) (Or.inl ⟨by kernel_rfl, by intro _ _; kernel_rfl⟩) s0 ?_
  go_simp
  refine wpAnyH_take (i := 7) (v := .slice lo n lc) rfl (by kernel_rfl) (by kernel_rfl) (by kernel_rfl) (fun _ _ _ h => h) (Or.inl ⟨by kernel_rfl, by rintro w h; obtain ⟨c1, c2, c3, -⟩ := h.1.cells; go_simp⟩) s0 ?_
  go_simp
  refine wpAnyH_take (i := 9) (v := .pointer (some ⟨g, 0, none⟩)) rfl (by kernel_rfl) (by kernel_rfl) (by kernel_rfl) (fun _ _ _ h => h) (Or.inl ⟨by kernel_rfl, by intro _ _; kernel_rfl⟩) s0 ?_
  go_simp
  refine wpAnyH_take (i := 10) (v := .pointer (some ⟨g, 0, none⟩)) rfl (by kernel_rfl) (by kernel_rfl) (by kernel_rfl) (fun _ _ _ h => h) (Or.inl ⟨by kernel_rfl, by intro _ _; kernel_rfl⟩) s0 ?_
  go_simp
  refine wpAnyH_take (i := 11) (v := .pointer (some ⟨g, 3, none⟩)) rfl (by kernel_rfl) (by kernel_rfl) (by kernel_rfl) (fun _ _ _ h => h) (Or.inl ⟨by kernel_rfl, by intro _ _; kernel_rfl⟩) s0 ?_
  go_simp
  refine wpAnyH_take (i := 12) (v := .slice so n sc) rfl (by kernel_rfl) (by kernel_rfl) (by kernel_rfl) (fun _ _ _ h => h) (Or.inl ⟨by kernel_rfl, by rintro w h; obtain ⟨c1, c2, c3, -⟩ := h.1.cells; go_simp⟩) s0 ?_
  go_simp
  refine wpAnyH_all (rs := [8]) (by kernel_rfl) (by simp) (fun j hj => ?_)
  rw [List.mem_singleton] at hj
  subst hj
  refine wpOp_step rfl (fun K hK => ?_)
  go_simp
  refine (clipR_any lo n lc V0 r1 r3).mono ?_
  rintro e V1 ⟨rfl, rfl⟩
  have s1 := s0
  go_simp
  refine hK _ _ ⟨s1, ?_⟩
  clear hK K
  refine wpAnyH_all (rs := [13]) (by kernel_rfl) (by simp) (fun j hj => ?_)
  rw [List.mem_singleton] at hj
  subst hj
  refine wpOp_step rfl (fun K hK => ?_)
  go_simp
  refine (clipI_any so n sc V1 r2 r4).mono ?_
  rintro e V2 ⟨rfl, rfl⟩
  have s2 := s1
  go_simp
  refine hK _ _ ⟨s2, ?_⟩
  clear hK K
  refine wpAnyH_take (i := 14) (v := .agg #[.bool true, .int .u64 base, .slice lo n n, .slice so n n]) rfl (by kernel_rfl) (by kernel_rfl) (by kernel_rfl) (fun _ _ _ h => h) (Or.inl ⟨by kernel_rfl, by rintro w h; obtain ⟨c1, c2, c3, -⟩ := h.1.cells; go_simp⟩) s2 ?_
  go_simp
  refine wpAnyH_all (rs := [15]) (by kernel_rfl) (by simp) (fun j hj => ?_)
  rw [List.mem_singleton] at hj
  subst hj
  refine wpOp_step rfl (fun K hK => ?_)
  go_simp
  have hb5 : Below w1.heap.size V2 (V2.alloc (.cells #[.bool true, .int .u64 base, .slice lo n n, .slice so n n] 84)) := (Below.refl _ _).alloc s2.2.size _
  have s3 : AtG g base (.slice lo n lc) (.slice so n sc) (V2.alloc (.cells #[.bool true, .int .u64 base, .slice lo n n, .slice so n n] 84)) ∧ Below w1.heap.size w1 (V2.alloc (.cells #[.bool true, .int .u64 base, .slice lo n n, .slice so n n] 84)) := ⟨(hb5.block g hlt).trans s2.1, s2.2.trans hb5⟩
  have k5 : (V2.alloc (.cells #[.bool true, .int .u64 base, .slice lo n n, .slice so n n] 84)).heap[V2.heap.size]? = some (.cells #[.bool true, .int .u64 base, .slice lo n n, .slice so n n] 84) := (by show (V2.heap.push _)[V2.heap.size]? = some _; exact Array.getElem?_push_size)
  have hz2 := s2.2.size
  refine hK _ _ ⟨s3, ?_⟩
  clear hK K
  refine wpAnyH_take (i := 16) (v := .pointer (some ⟨V2.heap.size, 0, none⟩)) rfl (by kernel_rfl) (by kernel_rfl) (by kernel_rfl) (fun _ _ _ h => h) (Or.inl ⟨by kernel_rfl, by intro _ _; kernel_rfl⟩) s3 ?_
  go_simp
  refine wpAnyH_done (by kernel_rfl) ?_ _
  generalize V2.alloc (.cells #[.bool true, .int .u64 base, .slice lo n n, .slice so n n] 84) = V5 at *
  have hL := LogO.later h.log (W' := V5) s3.2
  clear s0 s1 s2 hb5
  go_wp2_with fail
  go_ret
  refine ⟨V2.heap.size, .slice lo n n, .slice so n n, rfl, ⟨⟨k5, by omega, ?_, ?_⟩, fun q hq => (hops q hq).later s3.2, ?_, ?_⟩, s3.2, hz2, ?_, ?_, ?_, ?_, by cases lo <;> rfl, by cases so <;> rfl⟩
  · rw [List.length_map, hnn]; exact OwnO.clip (own.later s3.2)
  · rw [List.length_map, hnn]; exact OwnO.clip (owz.later s3.2)
  · rw [own_cap (a := lo) (c := n) (c' := lc), own_cap (a := so) (c := n) (c' := sc)]; exact hsep
  · rw [own_cap (a := lo) (c := n) (c' := lc), own_cap (a := so) (c := n) (c' := sc)]; exact hnil
  · rw [hnn]; exact full_self
  · rw [hnn]; exact full_self
  · rw [hnn]; exact rowSep_self
  · rw [hnn]; exact rowSep_self

/-- Is the first log a beginning of the second one? -/
def Beg (bA : Int) (qa : List RP) (bB : Int) (qb : List RP) : Prop := bA + qa.length ≤ bB + qb.length ∧ ∀ (i j : Nat) (p p' : RP), qa[i]? = some p → qb[j]? = some p' → bA + i = bB + j → sameReq p.1 p.2 p'.1 p'.2 = true
def GivesBeg (P : Prop) (w : World) (e : Ending) (w' : World) : Prop := ∃ b : Bool, e = .returned (.bool b) ∧ (b = true ↔ P) ∧ Below w.heap.size w w'

set_option maxRecDepth 100000 in
set_option maxHeartbeats 8000000 in
theorem begins_any (B B' gA gB : Nat) (bA bB : Int) (lA sA lB sB : Value) (qa qb : List RP) (w : World) (hA : PLog B gA bA lA sA qa w) (hB : PLog B' gB bB lB sB qb w) (na : qa.length ≤ 1000) (nb : qb.length ≤ 1000) (a0 : 0 ≤ bA) (b0 : 0 ≤ bB) (a1 : bA ≤ 6000000000000000000) (b1 : bB ≤ 6000000000000000000) :
    Calls Tryz.prog 14 #[.pointer (some ⟨gA, 0, none⟩), .pointer (some ⟨gB, 0, none⟩)] w (GivesBeg (Beg bA qa bB qb) w) := by
  have hmo : Tryz.prog.follows .mixedOrders = true := by kernel_rfl
  obtain ⟨loA, lcA, soA, scA, eA1, eA2, hRA⟩ := hA.rd
  obtain ⟨loB, lcB, soB, scB, eB1, eB2, hRB⟩ := hB.rd
  subst eA1 eA2 eB1 eB2
  have NA := Lib.hid (show qa.length = qa.length from rfl)
  have hnA : ∃ nA, qa.length = nA := ⟨_, rfl⟩
  have hnB : ∃ nB, qb.length = nB := ⟨_, rfl⟩
  obtain ⟨nA, hnA⟩ := hnA
  obtain ⟨nB, hnB⟩ := hnB
  rw [hnA] at hRA na
  rw [hnB] at hRB nb
  have HNA := Lib.hid hnA
  have HNB := Lib.hid hnB
  have HB0 : Hid (¬ bA + (nA : Int) ≤ bB + (nB : Int) → ¬ Beg bA qa bB qb) := Lib.hid (fun h hb => h (by have := hb.1; rw [hnA, hnB] at this; exact this))
  rw [hnA] at hA
  rw [hnB] at hB
  clear hnA hnB NA
  by_cases hle : bA + (nA : Int) ≤ bB + (nB : Int)
  case neg =>
    have f1 : decide (bB + (nB : Int) < bA + (nA : Int)) = true := decide_eq_true (by omega)
    have HN := Lib.hid (HB0.out hle)
    clear hle HB0
    go_enter Tryz.func14, Tryz.ntmps14
    go_wp2_with fail
    refine (is_any true gA bA nA _ _ _ _ _ _ w hRA).mono ?_
    rintro e w1 ⟨rfl, rfl⟩
    go_wp2_with fail
    refine (is_any true gB bB nB _ _ _ _ _ _ w1 hRB).mono ?_
    rintro e w2 ⟨rfl, rfl⟩
    go_wp2_with fail
    refine (end_any true gA bA nA _ _ _ _ _ _ w2 hRA (by omega) a0 (by omega)).mono ?_
    rintro e w3 ⟨rfl, q, rfl⟩
    have hbq := below_drewN (Below.refl w2.heap.size w2) q
    have hRB2 := hRB.later hbq
    generalize w2.drewN q = W2 at *
    go_wp2_with fail
    refine (end_any true gB bB nB _ _ _ _ _ _ W2 hRB2 (by omega) b0 (by omega)).mono ?_
    rintro e w3 ⟨rfl, q2, rfl⟩
    have hbq2 := hbq.trans ((below_drewN (Below.refl W2.heap.size W2) q2).mono hbq.size)
    generalize W2.drewN q2 = W3 at *
    go_wp2_with fail
    go_ret
    exact ⟨false, rfl, ⟨fun h => (by cases h), fun h => absurd h HN.out⟩, hbq2⟩
  have f1 : decide (bB + (nB : Int) < bA + (nA : Int)) = false := decide_eq_false (by omega)
  go_enter Tryz.func14, Tryz.ntmps14
  go_wp2_with fail
  refine (is_any true gA bA nA _ _ _ _ _ _ w hRA).mono ?_
  rintro e w1 ⟨rfl, rfl⟩
  go_wp2_with fail
  refine (is_any true gB bB nB _ _ _ _ _ _ w1 hRB).mono ?_
  rintro e w2 ⟨rfl, rfl⟩
  go_wp2_with fail
  refine (end_any true gA bA nA _ _ _ _ _ _ w2 hRA (by omega) a0 (by omega)).mono ?_
  rintro e w3 ⟨rfl, q, rfl⟩
  have hbq := below_drewN (Below.refl w2.heap.size w2) q
  have hRB2 := hRB.later hbq
  generalize w2.drewN q = W2 at *
  go_wp2_with fail
  refine (end_any true gB bB nB _ _ _ _ _ _ W2 hRB2 (by omega) b0 (by omega)).mono ?_
  rintro e w3 ⟨rfl, q2, rfl⟩
  have hbq2 := hbq.trans ((below_drewN (Below.refl W2.heap.size W2) q2).mono hbq.size)
  generalize W2.drewN q2 = W3 at *
  have gA0 : ∀ W, Below w2.heap.size w2 W → AtG gA bA (.slice loA nA lcA) (.slice soA nA scA) W := fun W hW => (hRA.later hW).at_
  have gB0 : ∀ W, Below w2.heap.size w2 W → AtG gB bB (.slice loB nB lcB) (.slice soB nB scB) W := fun W hW => (hRB.later hW).at_
  obtain ⟨M, hM, hM1, hM2⟩ : ∃ M : Int, (M = bA ∨ M = bB) ∧ bA ≤ M ∧ bB ≤ M := by
    by_cases h : bA ≤ bB
    · exact ⟨bB, .inr rfl, h, by omega⟩
    · exact ⟨bA, .inl rfl, by omega, by omega⟩
  have hmax : (if bA < bB then bB else bA) = M := by split <;> omega
  have hwm : IntKind.wrap .u64 (M + 1) = M + 1 := by rw [IntKind.wrap_u64]; omega
  have hMb : M ≤ 6000000000000000000 := by omega
  have HM := Lib.hid hM
  clear hM
  go_upto_region 3 with fail
  have s0 : Below w2.heap.size w2 W3.drew := hbq2.drew
  refine wp_region_held (S := fun W => Below w2.heap.size w2 W) hmo ?_
  change wpAnyH _ _ _ _ _ _ _ _ (World.drew W3)
  generalize W3.drew = V0 at *
  refine wpAnyH_take (i := 0) (v := .pointer (some ⟨gA, 0, none⟩)) rfl (by kernel_rfl) (by kernel_rfl) (by kernel_rfl) (fun _ _ _ h => h) (Or.inl ⟨by kernel_rfl, by intro _ _; kernel_rfl⟩) s0 ?_
  go_simp
  refine wpAnyH_take (i := 1) (v := .pointer (some ⟨gA, 0, none⟩)) rfl (by kernel_rfl) (by kernel_rfl) (by kernel_rfl) (fun _ _ _ h => h) (Or.inl ⟨by kernel_rfl, by intro _ _; kernel_rfl⟩) s0 ?_
  go_simp
  refine wpAnyH_take (i := 2) (v := .pointer (some ⟨gA, 1, none⟩)) rfl (by kernel_rfl) (by kernel_rfl) (by kernel_rfl) (fun _ _ _ h => h) (Or.inl ⟨by kernel_rfl, by intro _ _; kernel_rfl⟩) s0 ?_
  go_simp
  refine wpAnyH_take (i := 3) (v := .int .u64 bA) rfl (by kernel_rfl) (by kernel_rfl) (by kernel_rfl) (fun _ _ _ h => h) (Or.inl ⟨by kernel_rfl, by rintro w h; obtain ⟨c1, c2, c3, -⟩ := (gA0 w h).cells; obtain ⟨d1, d2, d3, -⟩ := (gB0 w h).cells; go_simp⟩) s0 ?_
  go_simp
  refine wpAnyH_take (i := 4) (v := .pointer (some ⟨gB, 0, none⟩)) rfl (by kernel_rfl) (by kernel_rfl) (by kernel_rfl) (fun _ _ _ h => h) (Or.inl ⟨by kernel_rfl, by intro _ _; kernel_rfl⟩) s0 ?_
  go_simp
  refine wpAnyH_take (i := 5) (v := .pointer (some ⟨gB, 0, none⟩)) rfl (by kernel_rfl) (by kernel_rfl) (by kernel_rfl) (fun _ _ _ h => h) (Or.inl ⟨by kernel_rfl, by intro _ _; kernel_rfl⟩) s0 ?_
  go_simp
  refine wpAnyH_take (i := 6) (v := .pointer (some ⟨gB, 1, none⟩)) rfl (by kernel_rfl) (by kernel_rfl) (by kernel_rfl) (fun _ _ _ h => h) (Or.inl ⟨by kernel_rfl, by intro _ _; kernel_rfl⟩) s0 ?_
  go_simp
  refine wpAnyH_take (i := 7) (v := .int .u64 bB) rfl (by kernel_rfl) (by kernel_rfl) (by kernel_rfl) (fun _ _ _ h => h) (Or.inl ⟨by kernel_rfl, by rintro w h; obtain ⟨c1, c2, c3, -⟩ := (gA0 w h).cells; obtain ⟨d1, d2, d3, -⟩ := (gB0 w h).cells; go_simp⟩) s0 ?_
  go_simp
  refine wpAnyH_take (i := 8) (v := .int .u64 M) rfl (by kernel_rfl) (by kernel_rfl) (by kernel_rfl) (fun _ _ _ h => h) (Or.inl ⟨by kernel_rfl, by rintro w h; obtain ⟨c1, c2, c3, -⟩ := (gA0 w h).cells; obtain ⟨d1, d2, d3, -⟩ := (gB0 w h).cells; go_simp⟩) s0 ?_
  go_simp
  refine wpAnyH_take (i := 9) (v := .int .u64 (M + 1)) rfl (by kernel_rfl) (by kernel_rfl) (by kernel_rfl) (fun _ _ _ h => h) (Or.inl ⟨by kernel_rfl, by rintro w h; obtain ⟨c1, c2, c3, -⟩ := (gA0 w h).cells; obtain ⟨d1, d2, d3, -⟩ := (gB0 w h).cells; go_simp⟩) s0 ?_
  go_simp
  refine wpAnyH_take (i := 10) (v := .int .u64 (M + 1)) rfl (by kernel_rfl) (by kernel_rfl) (by kernel_rfl) (fun _ _ _ h => h) (Or.inl ⟨by kernel_rfl, by intro _ _; kernel_rfl⟩) s0 ?_
  go_simp
  refine wpAnyH_done (by kernel_rfl) ?_ _
  clear hbq hbq2 hRB2
  go_wp2_with fail
  go_loopw [5] (fun p wr => ∃ n : Int, p = .int .u64 n ∧ M + 1 ≤ n ∧ (n ≤ M + 1 ∨ n ≤ bA + (nA : Int) + 1) ∧ (∀ (i j : Nat) (p p' : RP), qa[i]? = some p → qb[j]? = some p' → bA + i = bB + j → bA + i + 1 < n → sameReq p.1 p.2 p'.1 p'.2 = true) ∧ Below w2.heap.size w2 wr) (fun p _ => (bA + (nA : Int) + 1 - intOf p).toNat)
  case atStart => exact ⟨M + 1, rfl, Int.le_refl _, .inl (Int.le_refl _), (fun i j p p' h1 h2 e hlt => by omega), s0⟩
  case round =>
    clear s0
    obtain ⟨n, rfl, hn1, hn2, hall, hbr⟩ := hrel
    have HALL := Lib.hid hall
    clear hall
    have hRA1 := hRA.later hbr
    by_cases hin : n ≤ bA + (nA : Int)
    · obtain ⟨i, hi⟩ : ∃ i : Nat, n = bA + (i : Nat) + 1 := ⟨(n - bA - 1).toNat, by omega⟩
      obtain ⟨j, hj⟩ : ∃ j : Nat, n = bB + (j : Nat) + 1 := ⟨(n - bB - 1).toNat, by omega⟩
      have hiA : i < nA := by omega
      have hjB : j < nB := by omega
      obtain ⟨p, hp⟩ : ∃ p, qa[i]? = some p := ⟨_, List.getElem?_eq_getElem (by rw [HNA.out]; exact hiA)⟩
      obtain ⟨p', hp'⟩ : ∃ p', qb[j]? = some p' := ⟨_, List.getElem?_eq_getElem (by rw [HNB.out]; exact hjB)⟩
      obtain ⟨b3, o3, ea, hl3, hc3⟩ := hRA.rl.some (by have := hRA.rl.le; omega)
      obtain ⟨b4, o4, eb, hl4, hc4⟩ := hRB.rl.some (by have := hRB.rl.le; omega)
      subst ea eb
      have hX : ∀ W, Below w2.heap.size w2 W → _ := fun W hW => rcells (qa.map Prod.fst) i p.1 (map_at qa i p hp) (W := W) (b := b3) (o := o3) (fun k y hk => (hW.cell (p := ⟨b3, o3 + k, none⟩) hl3).trans (hc3 k y hk))
      have hY : ∀ W, Below w2.heap.size w2 W → _ := fun W hW => rcells (qb.map Prod.fst) j p'.1 (map_at qb j p' hp') (W := W) (b := b4) (o := o4) (fun k y hk => (hW.cell (p := ⟨b4, o4 + k, none⟩) hl4).trans (hc4 k y hk))
      have hsm := fun W (hW : Below w2.heap.size w2 W) => pSameReq_any p.1 p'.1 p.2 p'.2 W ((hA.ops p (List.mem_of_getElem? hp)).later hW) ((hB.ops p' (List.mem_of_getElem? hp')).later hW)
      have w1_ : IntKind.wrap .u64 (n - bA) = (i : Int) + 1 := by rw [hi, IntKind.wrap_u64]; omega
      have w2_ : IntKind.wrap .u64 (n - bB) = (j : Int) + 1 := by rw [hj, IntKind.wrap_u64]; omega
      have w3_ : IntKind.wrap .u64 ((i : Int) + 1 - 1) = (i : Int) := by rw [IntKind.wrap_u64]; omega
      have w4_ : IntKind.wrap .u64 ((j : Int) + 1 - 1) = (j : Int) := by rw [IntKind.wrap_u64]; omega
      have w5_ : IntKind.wrap .u64 (i : Int) = (i : Int) := by rw [IntKind.wrap_u64]; omega
      have w6_ : IntKind.wrap .u64 (j : Int) = (j : Int) := by rw [IntKind.wrap_u64]; omega
      have w7_ : IntKind.wrap .u64 (n + 1) = n + 1 := by rw [IntKind.wrap_u64]; omega
      have i0 : (0 : Int) ≤ (i : Int) := by omega
      have i1 : (i : Int) < (nA : Int) := by omega
      have j0 : (0 : Int) ≤ (j : Int) := by omega
      have j1 : (j : Int) < (nB : Int) := by omega
      have HI := Lib.hid hi
      have HJ := Lib.hid hj
      clear hc3 hc4 hi hj
      go_wp2_with fail
      refine (end_any true gA bA nA _ _ _ _ _ _ wr hRA1 (by omega) a0 (by omega)).mono ?_
      rintro e w3 ⟨rfl, q3, rfl⟩
      have hbr3 := hbr.trans ((below_drewN (Below.refl wr.heap.size wr) q3).mono hbr.size)
      clear hRA1
      generalize wr.drewN q3 = W4 at *
      go_upto_region 6 with fail
      have t0 : Below w2.heap.size w2 W4.drew := hbr3.drew
      refine wp_region_held (S := fun W => Below w2.heap.size w2 W) hmo ?_
      change wpAnyH _ _ _ _ _ _ _ _ (World.drew W4)
      generalize W4.drew = X1 at *
      cases hss : sameReq p.1 p.2 p'.1 p'.2
      · refine wpAnyH_take (i := 0) (v := .pointer (some ⟨gA, 0, none⟩)) rfl (by kernel_rfl) (by kernel_rfl) (by kernel_rfl) (fun _ _ _ h => h) (Or.inl ⟨by kernel_rfl, by intro _ _; kernel_rfl⟩) t0 ?_
        go_simp
        refine wpAnyH_take (i := 1) (v := .pointer (some ⟨gA, 0, none⟩)) rfl (by kernel_rfl) (by kernel_rfl) (by kernel_rfl) (fun _ _ _ h => h) (Or.inl ⟨by kernel_rfl, by intro _ _; kernel_rfl⟩) t0 ?_
        go_simp
        refine wpAnyH_take (i := 2) (v := .pointer (some ⟨gA, 2, none⟩)) rfl (by kernel_rfl) (by kernel_rfl) (by kernel_rfl) (fun _ _ _ h => h) (Or.inl ⟨by kernel_rfl, by intro _ _; kernel_rfl⟩) t0 ?_
        go_simp
        refine wpAnyH_take (i := 3) (v := .slice (some ⟨b3, o3, none⟩) nA lcA) rfl (by kernel_rfl) (by kernel_rfl) (by kernel_rfl) (fun _ _ _ h => h) (Or.inl ⟨by kernel_rfl, by rintro w h; obtain ⟨c0, c1, c2, c3, c4, c5, c6, c7, c8⟩ := hX w h; obtain ⟨d0, d1, d2, d3, d4, d5, d6, d7, d8⟩ := hY w h; obtain ⟨e1, e2, e3, -⟩ := (gA0 w h).cells; obtain ⟨f1, f2, f3, -⟩ := (gB0 w h).cells; go_simp⟩) t0 ?_
        go_simp
        refine wpAnyH_take (i := 4) (v := .int .u64 n) rfl (by kernel_rfl) (by kernel_rfl) (by kernel_rfl) (fun _ _ _ h => h) (Or.inl ⟨by kernel_rfl, by intro _ _; kernel_rfl⟩) t0 ?_
        go_simp
        refine wpAnyH_take (i := 5) (v := .pointer (some ⟨gA, 0, none⟩)) rfl (by kernel_rfl) (by kernel_rfl) (by kernel_rfl) (fun _ _ _ h => h) (Or.inl ⟨by kernel_rfl, by intro _ _; kernel_rfl⟩) t0 ?_
        go_simp
        refine wpAnyH_take (i := 6) (v := .pointer (some ⟨gA, 0, none⟩)) rfl (by kernel_rfl) (by kernel_rfl) (by kernel_rfl) (fun _ _ _ h => h) (Or.inl ⟨by kernel_rfl, by intro _ _; kernel_rfl⟩) t0 ?_
        go_simp
        refine wpAnyH_take (i := 7) (v := .pointer (some ⟨gA, 1, none⟩)) rfl (by kernel_rfl) (by kernel_rfl) (by kernel_rfl) (fun _ _ _ h => h) (Or.inl ⟨by kernel_rfl, by intro _ _; kernel_rfl⟩) t0 ?_
        go_simp
        refine wpAnyH_take (i := 8) (v := .int .u64 bA) rfl (by kernel_rfl) (by kernel_rfl) (by kernel_rfl) (fun _ _ _ h => h) (Or.inl ⟨by kernel_rfl, by rintro w h; obtain ⟨c0, c1, c2, c3, c4, c5, c6, c7, c8⟩ := hX w h; obtain ⟨d0, d1, d2, d3, d4, d5, d6, d7, d8⟩ := hY w h; obtain ⟨e1, e2, e3, -⟩ := (gA0 w h).cells; obtain ⟨f1, f2, f3, -⟩ := (gB0 w h).cells; go_simp⟩) t0 ?_
        go_simp
        refine wpAnyH_take (i := 9) (v := .int .u64 ((i : Int) + 1)) rfl (by kernel_rfl) (by kernel_rfl) (by kernel_rfl) (fun _ _ _ h => h) (Or.inl ⟨by kernel_rfl, by rintro w h; obtain ⟨c0, c1, c2, c3, c4, c5, c6, c7, c8⟩ := hX w h; obtain ⟨d0, d1, d2, d3, d4, d5, d6, d7, d8⟩ := hY w h; obtain ⟨e1, e2, e3, -⟩ := (gA0 w h).cells; obtain ⟨f1, f2, f3, -⟩ := (gB0 w h).cells; go_simp⟩) t0 ?_
        go_simp
        refine wpAnyH_take (i := 10) (v := .int .u64 (i : Int)) rfl (by kernel_rfl) (by kernel_rfl) (by kernel_rfl) (fun _ _ _ h => h) (Or.inl ⟨by kernel_rfl, by rintro w h; obtain ⟨c0, c1, c2, c3, c4, c5, c6, c7, c8⟩ := hX w h; obtain ⟨d0, d1, d2, d3, d4, d5, d6, d7, d8⟩ := hY w h; obtain ⟨e1, e2, e3, -⟩ := (gA0 w h).cells; obtain ⟨f1, f2, f3, -⟩ := (gB0 w h).cells; go_simp⟩) t0 ?_
        go_simp
        refine wpAnyH_take (i := 11) (v := .pointer (some ⟨b3, o3 + i * 9, none⟩)) rfl (by kernel_rfl) (by kernel_rfl) (by kernel_rfl) (fun _ _ _ h => h) (Or.inl ⟨by kernel_rfl, by rintro w h; obtain ⟨c0, c1, c2, c3, c4, c5, c6, c7, c8⟩ := hX w h; obtain ⟨d0, d1, d2, d3, d4, d5, d6, d7, d8⟩ := hY w h; obtain ⟨e1, e2, e3, -⟩ := (gA0 w h).cells; obtain ⟨f1, f2, f3, -⟩ := (gB0 w h).cells; go_simp⟩) t0 ?_
        go_simp
        refine wpAnyH_take (i := 12) (v := .agg #[.int .u64 p.1.cl, .int .u64 p.1.nu, .int .i64 p.1.op.k, .string p.1.op.name, .string p.1.op.to, .slice p.1.op.ao p.1.op.an p.1.op.ac, .slice p.1.op.bo p.1.op.bn p.1.op.bc, .slice p.1.op.co p.1.op.cn p.1.op.cc, .int .i64 p.1.op.n]) rfl (by kernel_rfl) (by kernel_rfl) (by kernel_rfl) (fun _ _ _ h => h) (Or.inl ⟨by kernel_rfl, by rintro w h; obtain ⟨c0, c1, c2, c3, c4, c5, c6, c7, c8⟩ := hX w h; obtain ⟨d0, d1, d2, d3, d4, d5, d6, d7, d8⟩ := hY w h; obtain ⟨e1, e2, e3, -⟩ := (gA0 w h).cells; obtain ⟨f1, f2, f3, -⟩ := (gB0 w h).cells; go_simp⟩) t0 ?_
        go_simp
        refine wpAnyH_take (i := 13) (v := .pointer (some ⟨gB, 0, none⟩)) rfl (by kernel_rfl) (by kernel_rfl) (by kernel_rfl) (fun _ _ _ h => h) (Or.inl ⟨by kernel_rfl, by intro _ _; kernel_rfl⟩) t0 ?_
        go_simp
        refine wpAnyH_take (i := 14) (v := .pointer (some ⟨gB, 0, none⟩)) rfl (by kernel_rfl) (by kernel_rfl) (by kernel_rfl) (fun _ _ _ h => h) (Or.inl ⟨by kernel_rfl, by intro _ _; kernel_rfl⟩) t0 ?_
        go_simp
        refine wpAnyH_take (i := 15) (v := .pointer (some ⟨gB, 2, none⟩)) rfl (by kernel_rfl) (by kernel_rfl) (by kernel_rfl) (fun _ _ _ h => h) (Or.inl ⟨by kernel_rfl, by intro _ _; kernel_rfl⟩) t0 ?_
        go_simp
        refine wpAnyH_take (i := 16) (v := .slice (some ⟨b4, o4, none⟩) nB lcB) rfl (by kernel_rfl) (by kernel_rfl) (by kernel_rfl) (fun _ _ _ h => h) (Or.inl ⟨by kernel_rfl, by rintro w h; obtain ⟨c0, c1, c2, c3, c4, c5, c6, c7, c8⟩ := hX w h; obtain ⟨d0, d1, d2, d3, d4, d5, d6, d7, d8⟩ := hY w h; obtain ⟨e1, e2, e3, -⟩ := (gA0 w h).cells; obtain ⟨f1, f2, f3, -⟩ := (gB0 w h).cells; go_simp⟩) t0 ?_
        go_simp
        refine wpAnyH_take (i := 17) (v := .int .u64 n) rfl (by kernel_rfl) (by kernel_rfl) (by kernel_rfl) (fun _ _ _ h => h) (Or.inl ⟨by kernel_rfl, by intro _ _; kernel_rfl⟩) t0 ?_
        go_simp
        refine wpAnyH_take (i := 18) (v := .pointer (some ⟨gB, 0, none⟩)) rfl (by kernel_rfl) (by kernel_rfl) (by kernel_rfl) (fun _ _ _ h => h) (Or.inl ⟨by kernel_rfl, by intro _ _; kernel_rfl⟩) t0 ?_
        go_simp
        refine wpAnyH_take (i := 19) (v := .pointer (some ⟨gB, 0, none⟩)) rfl (by kernel_rfl) (by kernel_rfl) (by kernel_rfl) (fun _ _ _ h => h) (Or.inl ⟨by kernel_rfl, by intro _ _; kernel_rfl⟩) t0 ?_
        go_simp
        refine wpAnyH_take (i := 20) (v := .pointer (some ⟨gB, 1, none⟩)) rfl (by kernel_rfl) (by kernel_rfl) (by kernel_rfl) (fun _ _ _ h => h) (Or.inl ⟨by kernel_rfl, by intro _ _; kernel_rfl⟩) t0 ?_
        go_simp
        refine wpAnyH_take (i := 21) (v := .int .u64 bB) rfl (by kernel_rfl) (by kernel_rfl) (by kernel_rfl) (fun _ _ _ h => h) (Or.inl ⟨by kernel_rfl, by rintro w h; obtain ⟨c0, c1, c2, c3, c4, c5, c6, c7, c8⟩ := hX w h; obtain ⟨d0, d1, d2, d3, d4, d5, d6, d7, d8⟩ := hY w h; obtain ⟨e1, e2, e3, -⟩ := (gA0 w h).cells; obtain ⟨f1, f2, f3, -⟩ := (gB0 w h).cells; go_simp⟩) t0 ?_
        go_simp
        refine wpAnyH_take (i := 22) (v := .int .u64 ((j : Int) + 1)) rfl (by kernel_rfl) (by kernel_rfl) (by kernel_rfl) (fun _ _ _ h => h) (Or.inl ⟨by kernel_rfl, by rintro w h; obtain ⟨c0, c1, c2, c3, c4, c5, c6, c7, c8⟩ := hX w h; obtain ⟨d0, d1, d2, d3, d4, d5, d6, d7, d8⟩ := hY w h; obtain ⟨e1, e2, e3, -⟩ := (gA0 w h).cells; obtain ⟨f1, f2, f3, -⟩ := (gB0 w h).cells; go_simp⟩) t0 ?_
        go_simp
        refine wpAnyH_take (i := 23) (v := .int .u64 (j : Int)) rfl (by kernel_rfl) (by kernel_rfl) (by kernel_rfl) (fun _ _ _ h => h) (Or.inl ⟨by kernel_rfl, by rintro w h; obtain ⟨c0, c1, c2, c3, c4, c5, c6, c7, c8⟩ := hX w h; obtain ⟨d0, d1, d2, d3, d4, d5, d6, d7, d8⟩ := hY w h; obtain ⟨e1, e2, e3, -⟩ := (gA0 w h).cells; obtain ⟨f1, f2, f3, -⟩ := (gB0 w h).cells; go_simp⟩) t0 ?_
        go_simp
        refine wpAnyH_take (i := 24) (v := .pointer (some ⟨b4, o4 + j * 9, none⟩)) rfl (by kernel_rfl) (by kernel_rfl) (by kernel_rfl) (fun _ _ _ h => h) (Or.inl ⟨by kernel_rfl, by rintro w h; obtain ⟨c0, c1, c2, c3, c4, c5, c6, c7, c8⟩ := hX w h; obtain ⟨d0, d1, d2, d3, d4, d5, d6, d7, d8⟩ := hY w h; obtain ⟨e1, e2, e3, -⟩ := (gA0 w h).cells; obtain ⟨f1, f2, f3, -⟩ := (gB0 w h).cells; go_simp⟩) t0 ?_
        go_simp
        refine wpAnyH_take (i := 25) (v := .agg #[.int .u64 p'.1.cl, .int .u64 p'.1.nu, .int .i64 p'.1.op.k, .string p'.1.op.name, .string p'.1.op.to, .slice p'.1.op.ao p'.1.op.an p'.1.op.ac, .slice p'.1.op.bo p'.1.op.bn p'.1.op.bc, .slice p'.1.op.co p'.1.op.cn p'.1.op.cc, .int .i64 p'.1.op.n]) rfl (by kernel_rfl) (by kernel_rfl) (by kernel_rfl) (fun _ _ _ h => h) (Or.inl ⟨by kernel_rfl, by rintro w h; obtain ⟨c0, c1, c2, c3, c4, c5, c6, c7, c8⟩ := hX w h; obtain ⟨d0, d1, d2, d3, d4, d5, d6, d7, d8⟩ := hY w h; obtain ⟨e1, e2, e3, -⟩ := (gA0 w h).cells; obtain ⟨f1, f2, f3, -⟩ := (gB0 w h).cells; go_simp⟩) t0 ?_
        go_simp
        refine wpAnyH_all (rs := [26]) (by kernel_rfl) (by simp) (fun j hj => ?_)
        rw [List.mem_singleton] at hj
        subst hj
        refine wpOp_step rfl (fun K hK => ?_)
        go_simp
        have hs2 := hsm X1 t0
        rw [hss] at hs2
        simp only [RV.val, RV.cells] at hs2
        refine hs2.mono ?_
        rintro e X2 ⟨rfl, hb2⟩
        have t1 : Below w2.heap.size w2 X2 := t0.trans (hb2.mono t0.size)
        go_simp
        refine hK _ _ ⟨t1, ?_⟩
        clear hK K
        refine wpAnyH_take (i := 27) (v := .bool true) rfl (by kernel_rfl) (by kernel_rfl) (by kernel_rfl) (fun _ _ _ h => h) (Or.inl ⟨by kernel_rfl, by rintro w h; obtain ⟨c0, c1, c2, c3, c4, c5, c6, c7, c8⟩ := hX w h; obtain ⟨d0, d1, d2, d3, d4, d5, d6, d7, d8⟩ := hY w h; obtain ⟨e1, e2, e3, -⟩ := (gA0 w h).cells; obtain ⟨f1, f2, f3, -⟩ := (gB0 w h).cells; go_simp⟩) t1 ?_
        go_simp
        refine wpAnyH_done (by kernel_rfl) ?_ _
        have HNO : Hid (¬ Beg bA qa bB qb) := Lib.hid (fun hb => by have := hb.2 i j p p' hp hp' (by have := HI.out; have := HJ.out; omega); rw [hss] at this; cases this)
        clear hX hY hsm hss hs2 w1_ w2_ w3_ w4_ w5_ w6_ w7_ HALL
        go_wp2_with fail
        go_ret
        exact ⟨false, rfl, ⟨fun h => (by cases h), fun h => absurd h HNO.out⟩, t1⟩
      · refine wpAnyH_take (i := 0) (v := .pointer (some ⟨gA, 0, none⟩)) rfl (by kernel_rfl) (by kernel_rfl) (by kernel_rfl) (fun _ _ _ h => h) (Or.inl ⟨by kernel_rfl, by intro _ _; kernel_rfl⟩) t0 ?_
        go_simp
        refine wpAnyH_take (i := 1) (v := .pointer (some ⟨gA, 0, none⟩)) rfl (by kernel_rfl) (by kernel_rfl) (by kernel_rfl) (fun _ _ _ h => h) (Or.inl ⟨by kernel_rfl, by intro _ _; kernel_rfl⟩) t0 ?_
        go_simp
        refine wpAnyH_take (i := 2) (v := .pointer (some ⟨gA, 2, none⟩)) rfl (by kernel_rfl) (by kernel_rfl) (by kernel_rfl) (fun _ _ _ h => h) (Or.inl ⟨by kernel_rfl, by intro _ _; kernel_rfl⟩) t0 ?_
        go_simp
        refine wpAnyH_take (i := 3) (v := .slice (some ⟨b3, o3, none⟩) nA lcA) rfl (by kernel_rfl) (by kernel_rfl) (by kernel_rfl) (fun _ _ _ h => h) (Or.inl ⟨by kernel_rfl, by rintro w h; obtain ⟨c0, c1, c2, c3, c4, c5, c6, c7, c8⟩ := hX w h; obtain ⟨d0, d1, d2, d3, d4, d5, d6, d7, d8⟩ := hY w h; obtain ⟨e1, e2, e3, -⟩ := (gA0 w h).cells; obtain ⟨f1, f2, f3, -⟩ := (gB0 w h).cells; go_simp⟩) t0 ?_
        go_simp
        refine wpAnyH_take (i := 4) (v := .int .u64 n) rfl (by kernel_rfl) (by kernel_rfl) (by kernel_rfl) (fun _ _ _ h => h) (Or.inl ⟨by kernel_rfl, by intro _ _; kernel_rfl⟩) t0 ?_
        go_simp
        refine wpAnyH_take (i := 5) (v := .pointer (some ⟨gA, 0, none⟩)) rfl (by kernel_rfl) (by kernel_rfl) (by kernel_rfl) (fun _ _ _ h => h) (Or.inl ⟨by kernel_rfl, by intro _ _; kernel_rfl⟩) t0 ?_
        go_simp
        refine wpAnyH_take (i := 6) (v := .pointer (some ⟨gA, 0, none⟩)) rfl (by kernel_rfl) (by kernel_rfl) (by kernel_rfl) (fun _ _ _ h => h) (Or.inl ⟨by kernel_rfl, by intro _ _; kernel_rfl⟩) t0 ?_
        go_simp
        refine wpAnyH_take (i := 7) (v := .pointer (some ⟨gA, 1, none⟩)) rfl (by kernel_rfl) (by kernel_rfl) (by kernel_rfl) (fun _ _ _ h => h) (Or.inl ⟨by kernel_rfl, by intro _ _; kernel_rfl⟩) t0 ?_
        go_simp
        refine wpAnyH_take (i := 8) (v := .int .u64 bA) rfl (by kernel_rfl) (by kernel_rfl) (by kernel_rfl) (fun _ _ _ h => h) (Or.inl ⟨by kernel_rfl, by rintro w h; obtain ⟨c0, c1, c2, c3, c4, c5, c6, c7, c8⟩ := hX w h; obtain ⟨d0, d1, d2, d3, d4, d5, d6, d7, d8⟩ := hY w h; obtain ⟨e1, e2, e3, -⟩ := (gA0 w h).cells; obtain ⟨f1, f2, f3, -⟩ := (gB0 w h).cells; go_simp⟩) t0 ?_
        go_simp
        refine wpAnyH_take (i := 9) (v := .int .u64 ((i : Int) + 1)) rfl (by kernel_rfl) (by kernel_rfl) (by kernel_rfl) (fun _ _ _ h => h) (Or.inl ⟨by kernel_rfl, by rintro w h; obtain ⟨c0, c1, c2, c3, c4, c5, c6, c7, c8⟩ := hX w h; obtain ⟨d0, d1, d2, d3, d4, d5, d6, d7, d8⟩ := hY w h; obtain ⟨e1, e2, e3, -⟩ := (gA0 w h).cells; obtain ⟨f1, f2, f3, -⟩ := (gB0 w h).cells; go_simp⟩) t0 ?_
        go_simp
        refine wpAnyH_take (i := 10) (v := .int .u64 (i : Int)) rfl (by kernel_rfl) (by kernel_rfl) (by kernel_rfl) (fun _ _ _ h => h) (Or.inl ⟨by kernel_rfl, by rintro w h; obtain ⟨c0, c1, c2, c3, c4, c5, c6, c7, c8⟩ := hX w h; obtain ⟨d0, d1, d2, d3, d4, d5, d6, d7, d8⟩ := hY w h; obtain ⟨e1, e2, e3, -⟩ := (gA0 w h).cells; obtain ⟨f1, f2, f3, -⟩ := (gB0 w h).cells; go_simp⟩) t0 ?_
        go_simp
        refine wpAnyH_take (i := 11) (v := .pointer (some ⟨b3, o3 + i * 9, none⟩)) rfl (by kernel_rfl) (by kernel_rfl) (by kernel_rfl) (fun _ _ _ h => h) (Or.inl ⟨by kernel_rfl, by rintro w h; obtain ⟨c0, c1, c2, c3, c4, c5, c6, c7, c8⟩ := hX w h; obtain ⟨d0, d1, d2, d3, d4, d5, d6, d7, d8⟩ := hY w h; obtain ⟨e1, e2, e3, -⟩ := (gA0 w h).cells; obtain ⟨f1, f2, f3, -⟩ := (gB0 w h).cells; go_simp⟩) t0 ?_
        go_simp
        refine wpAnyH_take (i := 12) (v := .agg #[.int .u64 p.1.cl, .int .u64 p.1.nu, .int .i64 p.1.op.k, .string p.1.op.name, .string p.1.op.to, .slice p.1.op.ao p.1.op.an p.1.op.ac, .slice p.1.op.bo p.1.op.bn p.1.op.bc, .slice p.1.op.co p.1.op.cn p.1.op.cc, .int .i64 p.1.op.n]) rfl (by kernel_rfl) (by kernel_rfl) (by kernel_rfl) (fun _ _ _ h => h) (Or.inl ⟨by kernel_rfl, by rintro w h; obtain ⟨c0, c1, c2, c3, c4, c5, c6, c7, c8⟩ := hX w h; obtain ⟨d0, d1, d2, d3, d4, d5, d6, d7, d8⟩ := hY w h; obtain ⟨e1, e2, e3, -⟩ := (gA0 w h).cells; obtain ⟨f1, f2, f3, -⟩ := (gB0 w h).cells; go_simp⟩) t0 ?_
        go_simp
        refine wpAnyH_take (i := 13) (v := .pointer (some ⟨gB, 0, none⟩)) rfl (by kernel_rfl) (by kernel_rfl) (by kernel_rfl) (fun _ _ _ h => h) (Or.inl ⟨by kernel_rfl, by intro _ _; kernel_rfl⟩) t0 ?_
        go_simp
        refine wpAnyH_take (i := 14) (v := .pointer (some ⟨gB, 0, none⟩)) rfl (by kernel_rfl) (by kernel_rfl) (by kernel_rfl) (fun _ _ _ h => h) (Or.inl ⟨by kernel_rfl, by intro _ _; kernel_rfl⟩) t0 ?_
        go_simp
        refine wpAnyH_take (i := 15) (v := .pointer (some ⟨gB, 2, none⟩)) rfl (by kernel_rfl) (by kernel_rfl) (by kernel_rfl) (fun _ _ _ h => h) (Or.inl ⟨by kernel_rfl, by intro _ _; kernel_rfl⟩) t0 ?_
        go_simp
        refine wpAnyH_take (i := 16) (v := .slice (some ⟨b4, o4, none⟩) nB lcB) rfl (by kernel_rfl) (by kernel_rfl) (by kernel_rfl) (fun _ _ _ h => h) (Or.inl ⟨by kernel_rfl, by rintro w h; obtain ⟨c0, c1, c2, c3, c4, c5, c6, c7, c8⟩ := hX w h; obtain ⟨d0, d1, d2, d3, d4, d5, d6, d7, d8⟩ := hY w h; obtain ⟨e1, e2, e3, -⟩ := (gA0 w h).cells; obtain ⟨f1, f2, f3, -⟩ := (gB0 w h).cells; go_simp⟩) t0 ?_
        go_simp
        refine wpAnyH_take (i := 17) (v := .int .u64 n) rfl (by kernel_rfl) (by kernel_rfl) (by kernel_rfl) (fun _ _ _ h => h) (Or.inl ⟨by kernel_rfl, by intro _ _; kernel_rfl⟩) t0 ?_
        go_simp
        refine wpAnyH_take (i := 18) (v := .pointer (some ⟨gB, 0, none⟩)) rfl (by kernel_rfl) (by kernel_rfl) (by kernel_rfl) (fun _ _ _ h => h) (Or.inl ⟨by kernel_rfl, by intro _ _; kernel_rfl⟩) t0 ?_
        go_simp
        refine wpAnyH_take (i := 19) (v := .pointer (some ⟨gB, 0, none⟩)) rfl (by kernel_rfl) (by kernel_rfl) (by kernel_rfl) (fun _ _ _ h => h) (Or.inl ⟨by kernel_rfl, by intro _ _; kernel_rfl⟩) t0 ?_
        go_simp
        refine wpAnyH_take (i := 20) (v := .pointer (some ⟨gB, 1, none⟩)) rfl (by kernel_rfl) (by kernel_rfl) (by kernel_rfl) (fun _ _ _ h => h) (Or.inl ⟨by kernel_rfl, by intro _ _; kernel_rfl⟩) t0 ?_
        go_simp
        refine wpAnyH_take (i := 21) (v := .int .u64 bB) rfl (by kernel_rfl) (by kernel_rfl) (by kernel_rfl) (fun _ _ _ h => h) (Or.inl ⟨by kernel_rfl, by rintro w h; obtain ⟨c0, c1, c2, c3, c4, c5, c6, c7, c8⟩ := hX w h; obtain ⟨d0, d1, d2, d3, d4, d5, d6, d7, d8⟩ := hY w h; obtain ⟨e1, e2, e3, -⟩ := (gA0 w h).cells; obtain ⟨f1, f2, f3, -⟩ := (gB0 w h).cells; go_simp⟩) t0 ?_
        go_simp
        refine wpAnyH_take (i := 22) (v := .int .u64 ((j : Int) + 1)) rfl (by kernel_rfl) (by kernel_rfl) (by kernel_rfl) (fun _ _ _ h => h) (Or.inl ⟨by kernel_rfl, by rintro w h; obtain ⟨c0, c1, c2, c3, c4, c5, c6, c7, c8⟩ := hX w h; obtain ⟨d0, d1, d2, d3, d4, d5, d6, d7, d8⟩ := hY w h; obtain ⟨e1, e2, e3, -⟩ := (gA0 w h).cells; obtain ⟨f1, f2, f3, -⟩ := (gB0 w h).cells; go_simp⟩) t0 ?_
        go_simp
        refine wpAnyH_take (i := 23) (v := .int .u64 (j : Int)) rfl (by kernel_rfl) (by kernel_rfl) (by kernel_rfl) (fun _ _ _ h => h) (Or.inl ⟨by kernel_rfl, by rintro w h; obtain ⟨c0, c1, c2, c3, c4, c5, c6, c7, c8⟩ := hX w h; obtain ⟨d0, d1, d2, d3, d4, d5, d6, d7, d8⟩ := hY w h; obtain ⟨e1, e2, e3, -⟩ := (gA0 w h).cells; obtain ⟨f1, f2, f3, -⟩ := (gB0 w h).cells; go_simp⟩) t0 ?_
        go_simp
        refine wpAnyH_take (i := 24) (v := .pointer (some ⟨b4, o4 + j * 9, none⟩)) rfl (by kernel_rfl) (by kernel_rfl) (by kernel_rfl) (fun _ _ _ h => h) (Or.inl ⟨by kernel_rfl, by rintro w h; obtain ⟨c0, c1, c2, c3, c4, c5, c6, c7, c8⟩ := hX w h; obtain ⟨d0, d1, d2, d3, d4, d5, d6, d7, d8⟩ := hY w h; obtain ⟨e1, e2, e3, -⟩ := (gA0 w h).cells; obtain ⟨f1, f2, f3, -⟩ := (gB0 w h).cells; go_simp⟩) t0 ?_
        go_simp
        refine wpAnyH_take (i := 25) (v := .agg #[.int .u64 p'.1.cl, .int .u64 p'.1.nu, .int .i64 p'.1.op.k, .string p'.1.op.name, .string p'.1.op.to, .slice p'.1.op.ao p'.1.op.an p'.1.op.ac, .slice p'.1.op.bo p'.1.op.bn p'.1.op.bc, .slice p'.1.op.co p'.1.op.cn p'.1.op.cc, .int .i64 p'.1.op.n]) rfl (by kernel_rfl) (by kernel_rfl) (by kernel_rfl) (fun _ _ _ h => h) (Or.inl ⟨by kernel_rfl, by rintro w h; obtain ⟨c0, c1, c2, c3, c4, c5, c6, c7, c8⟩ := hX w h; obtain ⟨d0, d1, d2, d3, d4, d5, d6, d7, d8⟩ := hY w h; obtain ⟨e1, e2, e3, -⟩ := (gA0 w h).cells; obtain ⟨f1, f2, f3, -⟩ := (gB0 w h).cells; go_simp⟩) t0 ?_
        go_simp
        refine wpAnyH_all (rs := [26]) (by kernel_rfl) (by simp) (fun j hj => ?_)
        rw [List.mem_singleton] at hj
        subst hj
        refine wpOp_step rfl (fun K hK => ?_)
        go_simp
        have hs2 := hsm X1 t0
        rw [hss] at hs2
        simp only [RV.val, RV.cells] at hs2
        refine hs2.mono ?_
        rintro e X2 ⟨rfl, hb2⟩
        have t1 : Below w2.heap.size w2 X2 := t0.trans (hb2.mono t0.size)
        go_simp
        refine hK _ _ ⟨t1, ?_⟩
        clear hK K
        refine wpAnyH_take (i := 27) (v := .bool false) rfl (by kernel_rfl) (by kernel_rfl) (by kernel_rfl) (fun _ _ _ h => h) (Or.inl ⟨by kernel_rfl, by rintro w h; obtain ⟨c0, c1, c2, c3, c4, c5, c6, c7, c8⟩ := hX w h; obtain ⟨d0, d1, d2, d3, d4, d5, d6, d7, d8⟩ := hY w h; obtain ⟨e1, e2, e3, -⟩ := (gA0 w h).cells; obtain ⟨f1, f2, f3, -⟩ := (gB0 w h).cells; go_simp⟩) t1 ?_
        go_simp
        refine wpAnyH_done (by kernel_rfl) ?_ _
        have HNX : Hid (∀ (i' j' : Nat) (r r' : RP), qa[i']? = some r → qb[j']? = some r' → bA + i' = bB + j' → bA + i' + 1 < n + 1 → sameReq r.1 r.2 r'.1 r'.2 = true) := Lib.hid (by
          intro i' j' r r' h1 h2 e hlt
          have hI := HI.out
          have hJ := HJ.out
          by_cases hii : bA + (i' : Int) + 1 < n
          · exact HALL.out i' j' r r' h1 h2 e hii
          · have e1 : i' = i := by omega
            have e2 : j' = j := by omega
            subst e1 e2
            rw [hp] at h1
            rw [hp'] at h2
            cases h1
            cases h2
            exact hss)
        clear hX hY hsm hss hs2 w1_ w2_ w3_ w4_ w5_ w6_ HALL
        go_wp2_with fail
        go_roundw
        case rel => exact ⟨n + 1, rfl, by omega, .inr (by omega), HNX.out, t1⟩
        case measure => simp [intOf]; omega
    · have HYES : Hid (Beg bA qa bB qb) := Lib.hid ⟨by rw [HNA.out, HNB.out]; exact hle, fun i j p p' h1 h2 e => HALL.out i j p p' h1 h2 e (by have := (List.getElem?_eq_some_iff.1 h1).1; rw [HNA.out] at this; omega)⟩
      have f2 : decide (n ≤ bA + (nA : Int)) = false := decide_eq_false hin
      clear HALL hin
      go_wp2_with fail
      refine (end_any true gA bA nA _ _ _ _ _ _ wr hRA1 (by omega) a0 (by omega)).mono ?_
      rintro e w3 ⟨rfl, q3, rfl⟩
      have hbr3 := hbr.trans ((below_drewN (Below.refl wr.heap.size wr) q3).mono hbr.size)
      clear hRA1
      generalize wr.drewN q3 = W4 at *
      go_wp2_with fail
      go_ret
      exact ⟨true, rfl, ⟨fun _ => HYES.out, fun _ => rfl⟩, hbr3⟩
end Go.Proofs.YtghjgajgjhbjpaaGreat.Msg
namespace Go.Proofs.YtghjgajgjhbjpaaGreat.Msg
open Go.RowKit Go.Lib Go.Proofs.YtghjgajgjhbjpaaGreat.Mem Go.Proofs.YtghjgajgjhbjpaaGreat.Tlv

theorem sameReq_comm (r : RV) (c : OC) (r' : RV) (c' : OC) : sameReq r c r' c' = sameReq r' c' r c := by
  unfold sameReq sameOp
  rw [Bool.eq_iff_iff]
  simp only [Bool.and_eq_true, decide_eq_true_eq]
  constructor
  · rintro ⟨⟨h1, h2⟩, h3, h4, h5, h6, h7, h8, h9⟩
    exact ⟨⟨h1.symm, h2.symm⟩, h3.symm, h4.symm, h5.symm, h6.symm, h7.symm, h8.symm, h9.symm⟩
  · rintro ⟨⟨h1, h2⟩, h3, h4, h5, h6, h7, h8, h9⟩
    exact ⟨⟨h1.symm, h2.symm⟩, h3.symm, h4.symm, h5.symm, h6.symm, h7.symm, h8.symm, h9.symm⟩

set_option maxRecDepth 100000 in
set_option maxHeartbeats 8000000 in
theorem rBegins_any (gA gB : Nat) (bA bB : Int) (loA loB : Option Addr) (nA lcA nB lcB : Nat) (qa qb : List RP) (w : World) (hA : RefAt gA bA loA nA lcA qa w) (hB : RefAt gB bB loB nB lcB qb w) (na : nA ≤ 1000) (nb : nB ≤ 1000) (a0 : 0 ≤ bA) (b0 : 0 ≤ bB) (a1 : bA ≤ 6000000000000000000) (b1 : bB ≤ 6000000000000000000) :
    Calls Tryz.prog 15 #[.pointer (some ⟨gA, 0, none⟩), .pointer (some ⟨gB, 0, none⟩)] w (GivesBeg (Beg bA qa bB qb) w) := by
  have hmo : Tryz.prog.follows .mixedOrders = true := by kernel_rfl
  have HNA := Lib.hid hA.rq.len
  have HNB := Lib.hid hB.rq.len
  by_cases hle : bA + (nA : Int) ≤ bB + (nB : Int)
  case neg =>
    have f1 : decide (bB + (nB : Int) < bA + (nA : Int)) = true := decide_eq_true (by omega)
    have HN : Hid (¬ Beg bA qa bB qb) := Lib.hid (fun hb => hle (by have := hb.1; rw [HNA.out, HNB.out] at this; exact this))
    clear hle
    go_enter Tryz.func15, Tryz.ntmps15
    go_wp2_with fail
    refine (rend_log gA bA loA nA lcA qa w hA (by omega) a0 (by omega)).mono ?_
    rintro e w3 ⟨rfl, q, rfl⟩
    have hbq := below_drewN (Below.refl w.heap.size w) q
    have hB2 := hB.later hbq
    generalize w.drewN q = W2 at *
    go_wp2_with fail
    refine (rend_log gB bB loB nB lcB qb W2 hB2 (by omega) b0 (by omega)).mono ?_
    rintro e w3 ⟨rfl, q2, rfl⟩
    have hbq2 := hbq.trans ((below_drewN (Below.refl W2.heap.size W2) q2).mono hbq.size)
    generalize W2.drewN q2 = W3 at *
    go_wp2_with fail
    go_ret
    exact ⟨false, rfl, ⟨fun h => (by cases h), fun h => absurd h HN.out⟩, hbq2⟩
  have f1 : decide (bB + (nB : Int) < bA + (nA : Int)) = false := decide_eq_false (by omega)
  go_enter Tryz.func15, Tryz.ntmps15
  go_wp2_with fail
  refine (rend_log gA bA loA nA lcA qa w hA (by omega) a0 (by omega)).mono ?_
  rintro e w3 ⟨rfl, q, rfl⟩
  have hbq := below_drewN (Below.refl w.heap.size w) q
  have hB2 := hB.later hbq
  generalize w.drewN q = W2 at *
  go_wp2_with fail
  refine (rend_log gB bB loB nB lcB qb W2 hB2 (by omega) b0 (by omega)).mono ?_
  rintro e w3 ⟨rfl, q2, rfl⟩
  have hbq2 := hbq.trans ((below_drewN (Below.refl W2.heap.size W2) q2).mono hbq.size)
  generalize W2.drewN q2 = W3 at *
  clear hB2 hbq
  go_wp2_with fail
  go_loopw [5] (fun p wr => ∃ i : Nat, i ≤ nA ∧ p = .int .i64 (i : Int) ∧ (∀ (k j : Nat) (p p' : RP), k < i → qa[k]? = some p → qb[j]? = some p' → bA + k = bB + j → sameReq p.1 p.2 p'.1 p'.2 = true) ∧ Below w.heap.size w wr) (fun p _ => nA - (intOf p).toNat)
  case atStart => exact ⟨0, Nat.zero_le _, rfl, (fun k j p p' h => by omega), hbq2⟩
  case round =>
    clear hbq2
    obtain ⟨i, hi, rfl, hall, hbr⟩ := hrel
    have HALL := Lib.hid hall
    clear hall
    have hAr := hA.later hbr
    have hBr := hB.later hbr
    obtain ⟨d0, d1, -⟩ := (show RAtG gA bA loA nA lcA wr from hAr.at_).cells
    by_cases hin : i < nA
    · obtain ⟨p, hp⟩ : ∃ p, qa[i]? = some p := ⟨_, List.getElem?_eq_getElem (by rw [HNA.out]; exact hin)⟩
      obtain ⟨b4, o4, eb, hl4, hc4⟩ := hA.rq.rd.some (by have := hA.rq.rd.le; omega)
      subst eb
      have hY : ∀ W, Below w.heap.size w W → _ := fun W hW => rcells (qa.map Prod.fst) i p.1 (map_at qa i p hp) (W := W) (b := b4) (o := o4) (fun k y hk => (hW.cell (p := ⟨b4, o4 + k, none⟩) hl4).trans (hc4 k y hk))
      have hG : ∀ W, Below w.heap.size w W → RAtG gA bA (some ⟨b4, o4, none⟩) nA lcA W := fun W hW => (hA.later hW).at_
      have hw1 : IntKind.wrap .u64 (i : Int) = (i : Int) := by rw [IntKind.wrap_u64]; omega
      have hw2 : IntKind.wrap .u64 (bA + (i : Int)) = bA + (i : Int) := by rw [IntKind.wrap_u64]; omega
      have hw3 : IntKind.wrap .u64 (bA + (i : Int) + 1) = bA + (i : Int) + 1 := by rw [IntKind.wrap_u64]; omega
      have hwi : IntKind.wrap .i64 ((i : Int) + 1) = (i : Int) + 1 := by rw [IntKind.wrap_i64]; omega
      have i0 : (0 : Int) ≤ (i : Int) := by omega
      have i1 : (i : Int) < (nA : Int) := by omega
      clear hc4
      by_cases hat : bB < bA + (i : Int) + 1 ∧ bA + (i : Int) + 1 ≤ bB + (nB : Int)
      · obtain ⟨j, hj⟩ : ∃ j : Nat, bA + (i : Int) + 1 = bB + (j : Nat) + 1 := ⟨(bA + (i : Int) - bB).toNat, by omega⟩
        obtain ⟨p', hp'⟩ : ∃ p', qb[j]? = some p' := ⟨_, List.getElem?_eq_getElem (by rw [HNB.out]; omega)⟩
        have hcall := rAt_yes gB bB loB nB lcB qb (bA + (i : Int) + 1) wr hBr (by omega) b0 (by omega) j p' hj hp'
        simp only [RV.val, RV.cells] at hcall
        have HJ := Lib.hid hj
        clear hj hat
        go_wp2_with fail
        refine hcall.mono ?_
        rintro e w2 ⟨rfl, hb2⟩
        have hbr2 := hbr.trans (hb2.mono hbr.size)
        clear d0 d1 hcall hb2 hAr hBr
        go_upto_region 7 with fail
        generalize hg1 : w2.alloc _ = W3
        have e1 : w2.alloc p'.1.box = W3 := by simp only [RV.box, RV.cells]; exact hg1
        have hb3 : Below w2.heap.size w2 W3 := by rw [← e1]; exact (Below.refl _ _).alloc (Nat.le_refl _) _
        have k3 : W3.drew.heap[w2.heap.size]? = some p'.1.box := by rw [← e1]; show (w2.heap.push _)[w2.heap.size]? = some _; exact Array.getElem?_push_size
        clear hg1 e1
        have hbW3 := (hbr2.trans (hb3.mono hbr2.size)).drew
        have hXY : ∀ W, Below W3.drew.heap.size W3.drew W → W.heap[w2.heap.size]? = some p'.1.box := fun W hW => (hW.block _ (Array.getElem?_eq_some_iff.1 k3).1).trans k3
        have hZ : ∀ W, Below W3.drew.heap.size W3.drew W → Below w.heap.size w W := fun W hW => hbW3.trans (hW.mono hbW3.size)
        have hsm := rSameReq_any p'.1 p.1 p'.2 p.2 W3.drew ((hB.later hbW3).rq.ops p' (List.mem_of_getElem? hp')) ((hA.later hbW3).rq.ops p (List.mem_of_getElem? hp))
        rw [sameReq_comm] at hsm
        refine wp_region_held (S := fun W => Below W3.drew.heap.size W3.drew W) hmo ?_
        change wpAnyH _ _ _ _ _ _ _ _ (World.drew W3)
        clear hb3 k3
        generalize W3.drew = X1 at *
        have t0 : Below X1.heap.size X1 X1 := Below.refl _ _
        simp only [RV.val, RV.cells] at hsm
        cases hss : sameReq p.1 p.2 p'.1 p'.2
        · refine wpAnyH_take (i := 0) (v := .int .i64 0) rfl (by kernel_rfl) (by kernel_rfl) (by kernel_rfl) (fun _ _ _ h => h) (Or.inl ⟨by kernel_rfl, by intro _ _; kernel_rfl⟩) t0 ?_
          go_simp
          refine wpAnyH_take (i := 1) (v := .bool true) rfl (by kernel_rfl) (by kernel_rfl) (by kernel_rfl) (fun _ _ _ h => h) (Or.inl ⟨by kernel_rfl, by rintro w h; obtain ⟨c0, c1, c2, c3, c4, c5, c6, c7, c8, -⟩ := rbox_all (hXY w h); obtain ⟨d0, d1, d2, d3, d4, d5, d6, d7, d8⟩ := hY w (hZ w h); obtain ⟨g0, g1, -⟩ := (hG w (hZ w h)).cells; go_simp⟩) t0 ?_
          go_simp
          refine wpAnyH_take (i := 2) (v := .bool true) rfl (by kernel_rfl) (by kernel_rfl) (by kernel_rfl) (fun _ _ _ h => h) (Or.inl ⟨by kernel_rfl, by intro _ _; kernel_rfl⟩) t0 ?_
          go_simp
          refine wpAnyH_take (i := 3) (v := .agg #[.int .u64 p'.1.cl, .int .u64 p'.1.nu, .int .i64 p'.1.op.k, .string p'.1.op.name, .string p'.1.op.to, .slice p'.1.op.ao p'.1.op.an p'.1.op.ac, .slice p'.1.op.bo p'.1.op.bn p'.1.op.bc, .slice p'.1.op.co p'.1.op.cn p'.1.op.cc, .int .i64 p'.1.op.n]) rfl (by kernel_rfl) (by kernel_rfl) (by kernel_rfl) (fun _ _ _ h => h) (Or.inl ⟨by kernel_rfl, by rintro w h; obtain ⟨c0, c1, c2, c3, c4, c5, c6, c7, c8, -⟩ := rbox_all (hXY w h); obtain ⟨d0, d1, d2, d3, d4, d5, d6, d7, d8⟩ := hY w (hZ w h); obtain ⟨g0, g1, -⟩ := (hG w (hZ w h)).cells; go_simp⟩) t0 ?_
          go_simp
          refine wpAnyH_take (i := 4) (v := .pointer (some ⟨gA, 0, none⟩)) rfl (by kernel_rfl) (by kernel_rfl) (by kernel_rfl) (fun _ _ _ h => h) (Or.inl ⟨by kernel_rfl, by intro _ _; kernel_rfl⟩) t0 ?_
          go_simp
          refine wpAnyH_take (i := 5) (v := .pointer (some ⟨gA, 0, none⟩)) rfl (by kernel_rfl) (by kernel_rfl) (by kernel_rfl) (fun _ _ _ h => h) (Or.inl ⟨by kernel_rfl, by intro _ _; kernel_rfl⟩) t0 ?_
          go_simp
          refine wpAnyH_take (i := 6) (v := .pointer (some ⟨gA, 1, none⟩)) rfl (by kernel_rfl) (by kernel_rfl) (by kernel_rfl) (fun _ _ _ h => h) (Or.inl ⟨by kernel_rfl, by intro _ _; kernel_rfl⟩) t0 ?_
          go_simp
          refine wpAnyH_take (i := 7) (v := .slice (some ⟨b4, o4, none⟩) nA lcA) rfl (by kernel_rfl) (by kernel_rfl) (by kernel_rfl) (fun _ _ _ h => h) (Or.inl ⟨by kernel_rfl, by rintro w h; obtain ⟨c0, c1, c2, c3, c4, c5, c6, c7, c8, -⟩ := rbox_all (hXY w h); obtain ⟨d0, d1, d2, d3, d4, d5, d6, d7, d8⟩ := hY w (hZ w h); obtain ⟨g0, g1, -⟩ := (hG w (hZ w h)).cells; go_simp⟩) t0 ?_
          go_simp
          refine wpAnyH_take (i := 8) (v := .int .i64 (i : Int)) rfl (by kernel_rfl) (by kernel_rfl) (by kernel_rfl) (fun _ _ _ h => h) (Or.inl ⟨by kernel_rfl, by intro _ _; kernel_rfl⟩) t0 ?_
          go_simp
          refine wpAnyH_take (i := 9) (v := .pointer (some ⟨b4, o4 + i * 9, none⟩)) rfl (by kernel_rfl) (by kernel_rfl) (by kernel_rfl) (fun _ _ _ h => h) (Or.inl ⟨by kernel_rfl, by rintro w h; obtain ⟨c0, c1, c2, c3, c4, c5, c6, c7, c8, -⟩ := rbox_all (hXY w h); obtain ⟨d0, d1, d2, d3, d4, d5, d6, d7, d8⟩ := hY w (hZ w h); obtain ⟨g0, g1, -⟩ := (hG w (hZ w h)).cells; go_simp⟩) t0 ?_
          go_simp
          refine wpAnyH_take (i := 10) (v := .agg #[.int .u64 p.1.cl, .int .u64 p.1.nu, .int .i64 p.1.op.k, .string p.1.op.name, .string p.1.op.to, .slice p.1.op.ao p.1.op.an p.1.op.ac, .slice p.1.op.bo p.1.op.bn p.1.op.bc, .slice p.1.op.co p.1.op.cn p.1.op.cc, .int .i64 p.1.op.n]) rfl (by kernel_rfl) (by kernel_rfl) (by kernel_rfl) (fun _ _ _ h => h) (Or.inl ⟨by kernel_rfl, by rintro w h; obtain ⟨c0, c1, c2, c3, c4, c5, c6, c7, c8, -⟩ := rbox_all (hXY w h); obtain ⟨d0, d1, d2, d3, d4, d5, d6, d7, d8⟩ := hY w (hZ w h); obtain ⟨g0, g1, -⟩ := (hG w (hZ w h)).cells; go_simp⟩) t0 ?_
          go_simp
          refine wpAnyH_all (rs := [11]) (by kernel_rfl) (by simp) (fun j hj => ?_)
          rw [List.mem_singleton] at hj
          subst hj
          refine wpOp_step rfl (fun K hK => ?_)
          go_simp
          rw [hss] at hsm
          refine hsm.mono ?_
          rintro e X2 ⟨rfl, hb2⟩
          have t1 : Below X1.heap.size X1 X2 := hb2
          go_simp
          refine hK _ _ ⟨t1, ?_⟩
          clear hK K
          refine wpAnyH_take (i := 12) (v := .bool true) rfl (by kernel_rfl) (by kernel_rfl) (by kernel_rfl) (fun _ _ _ h => h) (Or.inl ⟨by kernel_rfl, by rintro w h; obtain ⟨c0, c1, c2, c3, c4, c5, c6, c7, c8, -⟩ := rbox_all (hXY w h); obtain ⟨d0, d1, d2, d3, d4, d5, d6, d7, d8⟩ := hY w (hZ w h); obtain ⟨g0, g1, -⟩ := (hG w (hZ w h)).cells; go_simp⟩) t1 ?_
          go_simp
          refine wpAnyH_take (i := 13) (v := .bool true) rfl (by kernel_rfl) (by kernel_rfl) (by kernel_rfl) (fun _ _ _ h => h) (Or.inl ⟨by kernel_rfl, by intro _ _; kernel_rfl⟩) t1 ?_
          go_simp
          refine wpAnyH_done (by kernel_rfl) ?_ _
          have HNO : Hid (¬ Beg bA qa bB qb) := Lib.hid (fun hb => by have := hb.2 i j p p' hp hp' (by have := HJ.out; omega); rw [hss] at this; cases this)
          have hbW4 := hZ _ t1
          clear hXY hY hG hsm hZ hss t0 t1 hb2
          go_wp2_with fail
          go_ret
          exact ⟨false, rfl, ⟨fun h => (by cases h), fun h => absurd h HNO.out⟩, hbW4⟩
        · refine wpAnyH_take (i := 0) (v := .int .i64 0) rfl (by kernel_rfl) (by kernel_rfl) (by kernel_rfl) (fun _ _ _ h => h) (Or.inl ⟨by kernel_rfl, by intro _ _; kernel_rfl⟩) t0 ?_
          go_simp
          refine wpAnyH_take (i := 1) (v := .bool true) rfl (by kernel_rfl) (by kernel_rfl) (by kernel_rfl) (fun _ _ _ h => h) (Or.inl ⟨by kernel_rfl, by rintro w h; obtain ⟨c0, c1, c2, c3, c4, c5, c6, c7, c8, -⟩ := rbox_all (hXY w h); obtain ⟨d0, d1, d2, d3, d4, d5, d6, d7, d8⟩ := hY w (hZ w h); obtain ⟨g0, g1, -⟩ := (hG w (hZ w h)).cells; go_simp⟩) t0 ?_
          go_simp
          refine wpAnyH_take (i := 2) (v := .bool true) rfl (by kernel_rfl) (by kernel_rfl) (by kernel_rfl) (fun _ _ _ h => h) (Or.inl ⟨by kernel_rfl, by intro _ _; kernel_rfl⟩) t0 ?_
          go_simp
          refine wpAnyH_take (i := 3) (v := .agg #[.int .u64 p'.1.cl, .int .u64 p'.1.nu, .int .i64 p'.1.op.k, .string p'.1.op.name, .string p'.1.op.to, .slice p'.1.op.ao p'.1.op.an p'.1.op.ac, .slice p'.1.op.bo p'.1.op.bn p'.1.op.bc, .slice p'.1.op.co p'.1.op.cn p'.1.op.cc, .int .i64 p'.1.op.n]) rfl (by kernel_rfl) (by kernel_rfl) (by kernel_rfl) (fun _ _ _ h => h) (Or.inl ⟨by kernel_rfl, by rintro w h; obtain ⟨c0, c1, c2, c3, c4, c5, c6, c7, c8, -⟩ := rbox_all (hXY w h); obtain ⟨d0, d1, d2, d3, d4, d5, d6, d7, d8⟩ := hY w (hZ w h); obtain ⟨g0, g1, -⟩ := (hG w (hZ w h)).cells; go_simp⟩) t0 ?_
          go_simp
          refine wpAnyH_take (i := 4) (v := .pointer (some ⟨gA, 0, none⟩)) rfl (by kernel_rfl) (by kernel_rfl) (by kernel_rfl) (fun _ _ _ h => h) (Or.inl ⟨by kernel_rfl, by intro _ _; kernel_rfl⟩) t0 ?_
          go_simp
          refine wpAnyH_take (i := 5) (v := .pointer (some ⟨gA, 0, none⟩)) rfl (by kernel_rfl) (by kernel_rfl) (by kernel_rfl) (fun _ _ _ h => h) (Or.inl ⟨by kernel_rfl, by intro _ _; kernel_rfl⟩) t0 ?_
          go_simp
          refine wpAnyH_take (i := 6) (v := .pointer (some ⟨gA, 1, none⟩)) rfl (by kernel_rfl) (by kernel_rfl) (by kernel_rfl) (fun _ _ _ h => h) (Or.inl ⟨by kernel_rfl, by intro _ _; kernel_rfl⟩) t0 ?_
          go_simp
          refine wpAnyH_take (i := 7) (v := .slice (some ⟨b4, o4, none⟩) nA lcA) rfl (by kernel_rfl) (by kernel_rfl) (by kernel_rfl) (fun _ _ _ h => h) (Or.inl ⟨by kernel_rfl, by rintro w h; obtain ⟨c0, c1, c2, c3, c4, c5, c6, c7, c8, -⟩ := rbox_all (hXY w h); obtain ⟨d0, d1, d2, d3, d4, d5, d6, d7, d8⟩ := hY w (hZ w h); obtain ⟨g0, g1, -⟩ := (hG w (hZ w h)).cells; go_simp⟩) t0 ?_
          go_simp
          refine wpAnyH_take (i := 8) (v := .int .i64 (i : Int)) rfl (by kernel_rfl) (by kernel_rfl) (by kernel_rfl) (fun _ _ _ h => h) (Or.inl ⟨by kernel_rfl, by intro _ _; kernel_rfl⟩) t0 ?_
          go_simp
          refine wpAnyH_take (i := 9) (v := .pointer (some ⟨b4, o4 + i * 9, none⟩)) rfl (by kernel_rfl) (by kernel_rfl) (by kernel_rfl) (fun _ _ _ h => h) (Or.inl ⟨by kernel_rfl, by rintro w h; obtain ⟨c0, c1, c2, c3, c4, c5, c6, c7, c8, -⟩ := rbox_all (hXY w h); obtain ⟨d0, d1, d2, d3, d4, d5, d6, d7, d8⟩ := hY w (hZ w h); obtain ⟨g0, g1, -⟩ := (hG w (hZ w h)).cells; go_simp⟩) t0 ?_
          go_simp
          refine wpAnyH_take (i := 10) (v := .agg #[.int .u64 p.1.cl, .int .u64 p.1.nu, .int .i64 p.1.op.k, .string p.1.op.name, .string p.1.op.to, .slice p.1.op.ao p.1.op.an p.1.op.ac, .slice p.1.op.bo p.1.op.bn p.1.op.bc, .slice p.1.op.co p.1.op.cn p.1.op.cc, .int .i64 p.1.op.n]) rfl (by kernel_rfl) (by kernel_rfl) (by kernel_rfl) (fun _ _ _ h => h) (Or.inl ⟨by kernel_rfl, by rintro w h; obtain ⟨c0, c1, c2, c3, c4, c5, c6, c7, c8, -⟩ := rbox_all (hXY w h); obtain ⟨d0, d1, d2, d3, d4, d5, d6, d7, d8⟩ := hY w (hZ w h); obtain ⟨g0, g1, -⟩ := (hG w (hZ w h)).cells; go_simp⟩) t0 ?_
          go_simp
          refine wpAnyH_all (rs := [11]) (by kernel_rfl) (by simp) (fun j hj => ?_)
          rw [List.mem_singleton] at hj
          subst hj
          refine wpOp_step rfl (fun K hK => ?_)
          go_simp
          rw [hss] at hsm
          refine hsm.mono ?_
          rintro e X2 ⟨rfl, hb2⟩
          have t1 : Below X1.heap.size X1 X2 := hb2
          go_simp
          refine hK _ _ ⟨t1, ?_⟩
          clear hK K
          refine wpAnyH_take (i := 12) (v := .bool false) rfl (by kernel_rfl) (by kernel_rfl) (by kernel_rfl) (fun _ _ _ h => h) (Or.inl ⟨by kernel_rfl, by rintro w h; obtain ⟨c0, c1, c2, c3, c4, c5, c6, c7, c8, -⟩ := rbox_all (hXY w h); obtain ⟨d0, d1, d2, d3, d4, d5, d6, d7, d8⟩ := hY w (hZ w h); obtain ⟨g0, g1, -⟩ := (hG w (hZ w h)).cells; go_simp⟩) t1 ?_
          go_simp
          refine wpAnyH_take (i := 13) (v := .bool false) rfl (by kernel_rfl) (by kernel_rfl) (by kernel_rfl) (fun _ _ _ h => h) (Or.inl ⟨by kernel_rfl, by intro _ _; kernel_rfl⟩) t1 ?_
          go_simp
          refine wpAnyH_done (by kernel_rfl) ?_ _
          have HNX : Hid (∀ (k j : Nat) (r r' : RP), k < i + 1 → qa[k]? = some r → qb[j]? = some r' → bA + k = bB + j → sameReq r.1 r.2 r'.1 r'.2 = true) := Lib.hid (by
            intro k j' r r' hk h1 h2 e
            have hJ := HJ.out
            by_cases hii : k < i
            · exact HALL.out k j' r r' hii h1 h2 e
            · have e1 : k = i := by omega
              have e2 : j' = j := by omega
              subst e1 e2
              rw [hp] at h1
              rw [hp'] at h2
              cases h1
              cases h2
              exact hss)
          have hbW4 := hZ _ t1
          clear hXY hY hG hsm hZ hss t0 t1 hb2 HALL
          go_wp2_with fail
          go_roundw
          case rel => exact ⟨i + 1, by omega, by go_num, HNX.out, hbW4⟩
          case measure => simp [intOf]; omega
      · have hcall := rAt_no gB bB loB nB lcB qb (bA + (i : Int) + 1) wr hBr (by omega) b0 (by omega) hat
        simp only [RV.val, RV.cells] at hcall
        have HNX : Hid (∀ (k j : Nat) (r r' : RP), k < i + 1 → qa[k]? = some r → qb[j]? = some r' → bA + k = bB + j → sameReq r.1 r.2 r'.1 r'.2 = true) := Lib.hid (by
          intro k j' r r' hk h1 h2 e
          by_cases hii : k < i
          · exact HALL.out k j' r r' hii h1 h2 e
          · have := (List.getElem?_eq_some_iff.1 h2).1
            rw [HNB.out] at this
            exact absurd ⟨by omega, by omega⟩ hat)
        clear hat HALL
        go_wp2_with fail
        refine hcall.mono ?_
        rintro e w2 ⟨rfl, hb2⟩
        have hbr2 := hbr.trans (hb2.mono hbr.size)
        clear d0 d1 hcall hb2 hAr hBr
        go_upto_region 7 with fail
        generalize hg1 : w2.alloc _ = W3
        have hb3 : Below w2.heap.size w2 W3 := by rw [← hg1]; exact (Below.refl _ _).alloc (Nat.le_refl _) _
        clear hg1
        have hbW3 := (hbr2.trans (hb3.mono hbr2.size)).drew
        refine wp_region_held (S := fun W => Below w.heap.size w W) hmo ?_
        change wpAnyH _ _ _ _ _ _ _ _ (World.drew W3)
        clear hb3
        generalize W3.drew = X1 at *
        refine wpAnyH_take (i := 0) (v := .int .i64 8) rfl (by kernel_rfl) (by kernel_rfl) (by kernel_rfl) (fun _ _ _ h => h) (Or.inl ⟨by kernel_rfl, by intro _ _; kernel_rfl⟩) hbW3 ?_
        go_simp
        refine wpAnyH_take (i := 1) (v := .bool false) rfl (by kernel_rfl) (by kernel_rfl) (by kernel_rfl) (fun _ _ _ h => h) (Or.inl ⟨by kernel_rfl, by rintro w h; go_simp⟩) hbW3 ?_
        go_simp
        refine wpAnyH_take (i := 2) (v := .bool false) rfl (by kernel_rfl) (by kernel_rfl) (by kernel_rfl) (fun _ _ _ h => h) (Or.inl ⟨by kernel_rfl, by intro _ _; kernel_rfl⟩) hbW3 ?_
        go_simp
        refine wpAnyH_take (i := 3) (v := undef) rfl (by kernel_rfl) (by kernel_rfl) (by kernel_rfl) (fun _ _ _ h => h) (Or.inr ⟨by kernel_rfl, rfl⟩) hbW3 ?_
        go_simp
        refine wpAnyH_take (i := 4) (v := undef) rfl (by kernel_rfl) (by kernel_rfl) (by kernel_rfl) (fun _ _ _ h => h) (Or.inr ⟨by kernel_rfl, rfl⟩) hbW3 ?_
        go_simp
        refine wpAnyH_take (i := 5) (v := undef) rfl (by kernel_rfl) (by kernel_rfl) (by kernel_rfl) (fun _ _ _ h => h) (Or.inr ⟨by kernel_rfl, rfl⟩) hbW3 ?_
        go_simp
        refine wpAnyH_take (i := 6) (v := undef) rfl (by kernel_rfl) (by kernel_rfl) (by kernel_rfl) (fun _ _ _ h => h) (Or.inr ⟨by kernel_rfl, rfl⟩) hbW3 ?_
        go_simp
        refine wpAnyH_take (i := 7) (v := undef) rfl (by kernel_rfl) (by kernel_rfl) (by kernel_rfl) (fun _ _ _ h => h) (Or.inr ⟨by kernel_rfl, rfl⟩) hbW3 ?_
        go_simp
        refine wpAnyH_take (i := 8) (v := undef) rfl (by kernel_rfl) (by kernel_rfl) (by kernel_rfl) (fun _ _ _ h => h) (Or.inr ⟨by kernel_rfl, rfl⟩) hbW3 ?_
        go_simp
        refine wpAnyH_take (i := 9) (v := undef) rfl (by kernel_rfl) (by kernel_rfl) (by kernel_rfl) (fun _ _ _ h => h) (Or.inr ⟨by kernel_rfl, rfl⟩) hbW3 ?_
        go_simp
        refine wpAnyH_take (i := 10) (v := undef) rfl (by kernel_rfl) (by kernel_rfl) (by kernel_rfl) (fun _ _ _ h => h) (Or.inr ⟨by kernel_rfl, rfl⟩) hbW3 ?_
        go_simp
        refine wpAnyH_take (i := 11) (v := undef) rfl (by kernel_rfl) (by kernel_rfl) (by kernel_rfl) (fun _ _ _ h => h) (Or.inr ⟨by kernel_rfl, rfl⟩) hbW3 ?_
        go_simp
        refine wpAnyH_take (i := 12) (v := undef) rfl (by kernel_rfl) (by kernel_rfl) (by kernel_rfl) (fun _ _ _ h => h) (Or.inr ⟨by kernel_rfl, rfl⟩) hbW3 ?_
        go_simp
        refine wpAnyH_take (i := 13) (v := .bool false) rfl (by kernel_rfl) (by kernel_rfl) (by kernel_rfl) (fun _ _ _ h => h) (Or.inl ⟨by kernel_rfl, by intro _ _; kernel_rfl⟩) hbW3 ?_
        go_simp
        refine wpAnyH_done (by kernel_rfl) ?_ _
        clear hY hG
        go_wp2_with fail
        go_roundw
        case rel => exact ⟨i + 1, by omega, by go_num, HNX.out, hbW3⟩
        case measure => simp [intOf]; omega
    · have hin2 : i = nA := by omega
      subst hin2
      have HYES : Hid (Beg bA qa bB qb) := Lib.hid ⟨by rw [HNA.out, HNB.out]; exact hle, fun k j p p' h1 h2 e => HALL.out k j p p' (by have := (List.getElem?_eq_some_iff.1 h1).1; rw [HNA.out] at this; exact this) h1 h2 e⟩
      clear HALL
      go_wp2_with fail
      go_ret
      exact ⟨true, rfl, ⟨fun _ => HYES.out, fun _ => rfl⟩, hbr⟩
end Go.Proofs.YtghjgajgjhbjpaaGreat.Msg
namespace Go.Proofs.YtghjgajgjhbjpaaGreat.Msg
open Go.RowKit Go.Lib Go.Proofs.YtghjgajgjhbjpaaGreat.Mem Go.Proofs.YtghjgajgjhbjpaaGreat.Tlv

theorem St.start2 {B g g2 : Nat} {base : Int} {l s : Value} {lo : Option Addr} {n lc : Nat} {qs ps : List RP} {W1 W2 : World} (hP : PLog B g base l s qs W1) (htw : Twins ps qs) (he : ofErr base ps = 0) (hf : ∀ p ∈ ps, FitP p) (hin : ∀ p ∈ ps, OpIn B p.1.op) (hb : Below W1.heap.size W1 W2) (hR : RefAt g2 base lo n lc ps W2) (hg : W1.heap.size ≤ g2) (h0 : 0 ≤ base) (hlo : 0 < lc → ∀ a, lo = some a → a.block < B) : St B g g2 base l s lo n lc qs ps W2 := by
  have hgl := hP.log.lt
  have hBg := hP.log.le
  refine ⟨hP.later hb, hR, htw, ?_, hf, hin, by omega, by omega, fun h a ha => ?_, h0⟩
  · intro p hp
    unfold ofErr at he
    split at he
    · cases he
    · rename_i hno
      have : ps.all mayP = true := by
        cases h : ps.all mayP with
        | true => rfl
        | false => exact absurd (.inl h) hno
      exact List.all_eq_true.1 this p hp
  · have h1 := hlo h a ha
    refine ⟨fun e => ?_, fun e => ?_, by omega, by omega⟩
    · have := (hP.log.own.low _ e.symm).1; omega
    · have := (hP.log.owz.low _ e.symm).1; omega

/-- A copy beside its log: the document's, too. -/
theorem Guest.start {B g g2 gy gv : Nat} {base : Int} {l s ly sy : Value} {lo : Option Addr} {n lc : Nat} {qs ps : List RP} {W : World} (h : St B g g2 base l s lo n lc qs ps W) (hy : PLog B gy base ly sy qs W) (hv : W.heap[gv]? = some (.cells #[.int .u64 base, .slice lo n lc] 49))
    (ol : ly.ownBlock = l.ownBlock) (os : sy.ownBlock = s.ownBlock) (rl : RowSep 9 l n ly n) (rs : RowSep 1 s n sy n) (hB : B ≤ gv) (d1 : gy ≠ g) (d2 : gy ≠ g2) (d3 : gv ≠ g) (d4 : gv ≠ g2) (d5 : gy ≠ gv) (hlo : 0 < lc → ∀ a, lo = some a → a.block < B) : Guest B g g2 l s n gy gv base ly sy lo n lc qs ps W := by
  have hly : ∀ j, l.ownBlock = some j → B ≤ j := fun j hj => (h.pl.log.own.low j hj).1
  have hsy : ∀ j, s.ownBlock = some j → B ≤ j := fun j hj => (h.pl.log.owz.low j hj).1
  have hBy := hy.log.le
  have hB1 := h.pl.log.le
  have hB2 := h.B2
  refine ⟨⟨hy, ⟨hv, h.rf.rq⟩, h.tw, h.may, h.fit, h.pin, hB, d5, fun h0 a ha => ?_, h.b0⟩, ⟨d1, d2, d3, d4⟩, rl, rs, fun h0 a ha => ?_, fun q hq => ⟨(h.pl.sep q hq).1.safe, (h.pl.sep q hq).2.safe⟩⟩
  · have h1 := hlo h0 a ha
    refine ⟨fun e => ?_, fun e => ?_, by omega, by omega⟩
    · rw [ol] at e; have := hly _ e.symm; omega
    · rw [os] at e; have := hsy _ e.symm; omega
  · have h1 := hlo (by have := h.rf.rq.rd.le; omega) a ha
    refine ⟨fun e => ?_, fun e => ?_, by omega, by omega⟩
    · have := hly _ e; omega
    · have := hsy _ e; omega
/-- The pairs change places. -/
theorem Guest.swap {B g g2 gy gv : Nat} {bx base : Int} {l s ly sy : Value} {lo lov : Option Addr} {n lc ny lcv : Nat} {qs ps qy py : List RP} {W : World} (h : Guest B g g2 l s n gy gv base ly sy lov ny lcv qy py W) (hx : St B g g2 bx l s lo n lc qs ps W) (fl : Full ly ny) (fs : Full sy ny) : Guest B gy gv ly sy ny g g2 bx l s lo n lc qs ps W := by
  obtain ⟨d1, d2, d3, d4⟩ := h.d
  refine ⟨hx, ⟨fun e => d1 e.symm, fun e => d3 e.symm, fun e => d2 e.symm, fun e => d4 e.symm⟩, fun b oA cA oB cB e1 _ => .inl (fl b oA cA e1), fun b oA cA oB cB e1 _ => .inl (fs b oA cA e1), fun h0 a ha => ⟨fun _ => fl, fun _ => fs, ?_, ?_⟩, fun q hq => ⟨fl.safe, fs.safe⟩⟩
  · obtain ⟨lo9, lc9, so9, sc9, -, -, hR⟩ := h.st.pl.rd
    have hr := hx.rf.rq.rd
    rw [ha] at hr
    exact row_ne_log hr h0 hR.at_
  · have hr := hx.rf.rq.rd
    rw [ha] at hr
    exact row_ne_ref hr h0 h.st.rf.at_

/-- A pair, and its guest. -/
def PairE (B g g2 : Nat) (t : Int) (m : Nat) (gy gv : Nat) (base : Int) (ly sy : Value) (lov : Option Addr) (ny lcv : Nat) (qy py : List RP) (W : World) : Prop :=
  ∃ bx l s lo n lc qs ps, St B g g2 bx l s lo n lc qs ps W ∧ n ≤ m ∧ bx + n ≤ t ∧ Guest B g g2 l s n gy gv base ly sy lov ny lcv qy py W
theorem PairE.mono {B g g2 : Nat} {t t' : Int} {m m' : Nat} {gy gv : Nat} {base : Int} {ly sy : Value} {lov : Option Addr} {ny lcv : Nat} {qy py : List RP} {W : World} (h : PairE B g g2 t m gy gv base ly sy lov ny lcv qy py W) (ht : t ≤ t') (hm : m ≤ m') : PairE B g g2 t' m' gy gv base ly sy lov ny lcv qy py W := by
  obtain ⟨a, b, c, d, e, f, i, j, k, h1, h2, h3⟩ := h
  exact ⟨a, b, c, d, e, f, i, j, k, by omega, by omega, h3⟩
theorem do_pair {B g g2 : Nat} {t : Int} {m : Nat} {gy gv : Nat} {base : Int} {ly sy : Value} {lov : Option Addr} {ny lcv : Nat} {qy py : List RP} (a : AV) (c : OC) (w : World) (h : PairE B g g2 t m gy gv base ly sy lov ny lcv qy py w) (ho : OpAt w a.r.op c) (hf : FitP (a.r, c)) (hin : OpIn B a.r.op) (hm : m ≤ 1000) (ht : t ≤ 5000000000000000000) :
    Calls Tryz.prog 11 #[.pointer (some ⟨g, 0, none⟩), .pointer (some ⟨g2, 0, none⟩), a.val] w fun e w' => e = .returned (.bool true) ∧ PairE B g g2 (t + 1) (m + 1) gy gv base ly sy lov ny lcv qy py w' ∧ Below B w w' := by
  obtain ⟨bx, l, s, lo, n, lc, qs, ps, hS, hn, hb, hG⟩ := h
  have hb0 := hS.b0
  refine (do_turn a c w hS ho hf hin (by omega) (by omega)).mono ?_
  rintro e w' ⟨h1, ⟨bx', l', s', lo', n', lc', qs', ps', hS', hn', hb', hT⟩, h3⟩
  exact ⟨h1, ⟨bx', l', s', lo', n', lc', qs', ps', hS', by omega, by omega, hG.turn hS hT h3⟩, h3⟩

theorem beg_self (b : Int) (qs : List RP) : Beg b qs b qs := by
  refine ⟨Int.le_refl _, fun i j p p' h1 h2 e => ?_⟩
  have : i = j := by omega
  subst this
  rw [h1] at h2
  cases h2
  exact sameReq_refl p
theorem beg_twins {bA bB : Int} {qa pa qb pb : List RP} (hA : Twins pa qa) (hB : Twins pb qb) : Beg bA qa bB qb ↔ Beg bA pa bB pb := by
  unfold Beg
  rw [hA.1, hB.1]
  constructor
  · rintro ⟨h1, h2⟩
    refine ⟨h1, fun i j p p' e1 e2 e => ?_⟩
    obtain ⟨q, f1, t1⟩ := hA.at_ e1
    obtain ⟨q', f2, t2⟩ := hB.at_ e2
    have := h2 i j q q' f1 f2 e
    rw [t1.same t2] at this
    exact this
  · rintro ⟨h1, h2⟩
    refine ⟨h1, fun i j q q' e1 e2 e => ?_⟩
    have k1 := (List.getElem?_eq_some_iff.1 e1).1
    have k2 := (List.getElem?_eq_some_iff.1 e2).1
    have e3 : pa[i]? = some (pa[i]'(by rw [← hA.1]; exact k1)) := List.getElem?_eq_getElem _
    have e4 : pb[j]? = some (pb[j]'(by rw [← hB.1]; exact k2)) := List.getElem?_eq_getElem _
    have t1 := hA.2 i _ q e3 e1
    have t2 := hB.2 j _ q' e4 e2
    rw [t1.same t2]
    exact h2 i j _ _ e3 e4 e
theorem few_none (w : World) : ReqsRd none 0 0 [] w := ⟨Rd.nil _ _, (fun p h => by cases h), (fun p h => by cases h)⟩
end Go.Proofs.YtghjgajgjhbjpaaGreat.Msg
