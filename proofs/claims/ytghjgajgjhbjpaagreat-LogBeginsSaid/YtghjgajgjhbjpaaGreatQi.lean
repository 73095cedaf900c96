/-
  LogBegins, walked.
-/
import Derived.Test.YtghjgajgjhbjpaaGreatQh
import Derived.Deep.Cut
namespace Go.Proofs.YtghjgajgjhbjpaaGreat.Msg
open Go.RowKit Go.Lib Go.Proofs.YtghjgajgjhbjpaaGreat.Mem Go.Proofs.YtghjgajgjhbjpaaGreat.Tlv

set_option maxRecDepth 100000 in
set_option maxHeartbeats 20000000 in
theorem logBegins_any (base : Int) (ao : Option Addr) (n cap : Nat) (ps : List RP) (bo : Option Addr) (m bcap : Nat) (xs_ : List AP) (co : Option Addr) (m2 ccap : Nat) (ys_ : List AP) (w : World) (h0 : 0 ≤ base) (hQ : ReqsRd ao n cap ps w) (hA : ActsRd bo m bcap xs_ w) (hC : ActsRd co m2 ccap ys_ w) :
    Calls Tryz.prog 4 #[.int .u64 base, .slice ao n cap, .slice bo m bcap, .slice co m2 ccap] w (GivesB true w) := by
  have hmo : Tryz.prog.follows .mixedOrders = true := by kernel_rfl
  have hfew := few_any bo m bcap xs_ ao n cap ps 20 w hA hQ
  have hfew2 := fun W (hb : Below w.heap.size w W) => few_any co m2 ccap ys_ none 0 0 [] 20 W ⟨hC.rd.later hb, fun p hp => (hC.ops p hp).later hb, hC.fit⟩ (few_none W)
  cases hF : fewP xs_ ps 20 with
  | false =>
    rw [hF] at hfew
    clear hF hfew2
    go_enter Tryz.func4, Tryz.ntmps4
    go_wp2_with fail
    refine hfew.mono ?_
    rintro e w1 ⟨rfl, hb1⟩
    go_wp2_with fail
    refine (known_any w1).mono ?_
    rintro e w2 ⟨rfl, hb2⟩
    go_wp2_with fail
    go_ret
    exact ⟨rfl, hb1.trans (hb2.mono hb1.size)⟩
  | true =>
  rw [hF] at hfew
  cases hF2 : fewP ys_ [] 20 with
  | false =>
    rw [hF2] at hfew2
    clear hF hF2
    go_enter Tryz.func4, Tryz.ntmps4
    go_wp2_with fail
    refine hfew.mono ?_
    rintro e w0 ⟨rfl, hb0⟩
    go_wp2_with fail
    refine (hfew2 w0 hb0).mono ?_
    rintro e w1 ⟨rfl, hb1⟩
    have hb1' := hb0.trans (hb1.mono hb0.size)
    go_wp2_with fail
    refine (known_any w1).mono ?_
    rintro e w2 ⟨rfl, hb2⟩
    go_wp2_with fail
    go_ret
    exact ⟨rfl, hb1'.trans (hb2.mono hb1'.size)⟩
  | true =>
  rw [hF2] at hfew2
  obtain ⟨hsa, hsq, hla, hlq⟩ := few_facts hF
  obtain ⟨hsa2, -, hla2, -⟩ := few_facts hF2
  have hxl := hA.len
  have hyl := hC.len
  have hpl := hQ.len
  have hm : m ≤ 20 := by omega
  have hm2 : m2 ≤ 20 := by omega
  have hn : n ≤ 20 := by omega
  have hQ' : ReqsAt ao n cap ps w := ⟨hQ.rd, fun p hp => (hQ.ops p hp).small (hsq p hp)⟩
  have hA' : ∀ a ∈ xs_, OpAt w a.1.r.op a.2 := fun a ha => (hA.ops a ha).small (hsa a ha)
  have hC' : ∀ a ∈ ys_, OpAt w a.1.r.op a.2 := fun a ha => (hC.ops a ha).small (hsa2 a ha)
  have hof := fun W (hb : Below w.heap.size w W) => of_any base ao n cap ps W (hQ'.later hb) hQ.fit (by omega) h0
  have hrof := fun W (hb : Below w.heap.size w W) => rOf_any base ao n cap ps W (hQ'.later hb) (by omega) hQ.fit
  have LX := Lib.hid hxl
  have LY := Lib.hid hyl
  have LP := Lib.hid hpl
  have HPin : Hid (∀ p ∈ ps, OpIn w.heap.size p.1.op) := Lib.hid fun p hp => (hQ'.ops p hp).in_
  have HAin : Hid (∀ a ∈ xs_, OpIn w.heap.size a.1.r.op) := Lib.hid fun a ha => (hA' a ha).in_
  have HCin : Hid (∀ a ∈ ys_, OpIn w.heap.size a.1.r.op) := Lib.hid fun a ha => (hC' a ha).in_
  have HE : Hid (ofErr base ps = 0 → base ≤ 4611686018427387904) := Lib.hid ofErr_base
  have HLO : Hid (0 < cap → ∀ a, ao = some a → a.block < w.heap.size) := Lib.hid hQ.rd.lt
  clear hF hF2 hsa hsq hla hlq hxl hyl hpl hsa2 hla2
  go_enter Tryz.func4, Tryz.ntmps4
  go_wp2_with fail
  refine hfew.mono ?_
  rintro e w00 ⟨rfl, hb00⟩
  go_wp2_with fail
  refine (hfew2 w00 hb00).mono ?_
  rintro e w0 ⟨rfl, hb01⟩
  have hb0 := hb00.trans (hb01.mono hb00.size)
  clear hb00 hb01 hfew hfew2
  go_wp2_with fail
  refine (hof w0 hb0).mono ?_
  clear hof
  intro e w1 hG
  obtain ⟨hb1, hG⟩ := hG
  have hb1' := hb0.trans (hb1.mono hb0.size)
  have hr1 := hrof w1 hb1'
  clear hrof
  rcases hG with ⟨he, g, l, s, qs, rfl, hP, htw⟩ | ⟨hne, rfl⟩
  case inr =>
    have HNE := Lib.hid hne
    have hE1 : ofErr base ps = 2 ∨ ofErr base ps = 10 := by
      unfold ofErr at hne ⊢
      split
      · exact .inl rfl
      · rename_i h1
        rw [if_neg h1] at hne
        split
        · exact .inr rfl
        · rename_i h2
          exact absurd (if_neg h2) hne
    clear hne
    go_wp2_with fail
    refine hr1.mono ?_
    clear hr1
    intro e w3 hG2
    obtain ⟨hb3, hG2⟩ := hG2
    rw [if_neg HNE.out] at hG2
    subst hG2
    have hb3' := hb1'.trans (hb3.mono hb1'.size)
    clear hb3
    generalize ofErr base ps = E at *
    rcases hE1 with rfl | rfl
    · go_wp2_with fail
      refine (known_any w3).mono ?_
      rintro e w4 ⟨rfl, hb4⟩
      go_wp2_with fail
      go_ret
      exact ⟨rfl, hb3'.trans (hb4.mono hb3'.size)⟩
    · go_wp2_with fail
      refine (known_any w3).mono ?_
      rintro e w4 ⟨rfl, hb4⟩
      go_wp2_with fail
      go_ret
      exact ⟨rfl, hb3'.trans (hb4.mono hb3'.size)⟩
  have HP0 := Lib.hid he
  clear he
  have q0 := hb0.size
  have q1 := hb1.size
  go_wp2_with fail
  refine hr1.mono ?_
  clear hr1
  intro e w3 hG2
  obtain ⟨hb3, hG2⟩ := hG2
  rw [if_pos HP0.out] at hG2
  obtain ⟨g2, rfl, hR, hg2⟩ := hG2
  have hS := St.start2 (B := w0.heap.size) hP htw HP0.out hQ.fit (fun p hp => (HPin.out p hp).mono q0) hb3 hR hg2 h0 (fun h a ha => by have := HLO.out h a ha; omega)
  have hb3' : Below w0.heap.size w0 w3 := hb1.trans (hb3.mono q1)
  have hbase := HE.out HP0.out
  have HLO2 : Hid (0 < cap → ∀ a, ao = some a → a.block < w0.heap.size) := Lib.hid (fun h a ha => by have := HLO.out h a ha; omega)
  clear hP htw hR hb3 hb1 hb1' q1 hg2 HLO
  have hql := hS.len.2
  go_upto_region 7 with fail
  have hdr : Below w3.heap.size w3 w3.drew := (Below.refl _ _).drew
  have hSV := hS.later hdr
  have hbV : Below w0.heap.size w0 w3.drew := hb3'.drew
  clear hS hb3' hdr
  have hG : ∀ W, Below w3.drew.heap.size w3.drew W → RAtG g2 base ao n cap W := fun W hW => (hSV.later hW).rf.at_
  have s0 : Below w3.drew.heap.size w3.drew w3.drew := Below.refl _ _
  refine wp_region_held (S := fun W => Below w3.drew.heap.size w3.drew W) hmo ?_
  change wpAnyH _ _ _ _ _ _ _ _ (World.drew w3)
  generalize w3.drew = V0 at *
  have zg := hSV.pl.log.lt
  have zg2 := hSV.g2_lt
  have zb := hbV.size
  refine wpAnyH_take (i := 0) (v := .pointer (some ⟨g, 0, none⟩)) rfl (by kernel_rfl) (by kernel_rfl) (by kernel_rfl) (fun _ _ _ h => h) (Or.inl ⟨by kernel_rfl, by intro _ _; kernel_rfl⟩) s0 ?_
  go_simp
  refine wpAnyH_take (i := 2) (v := .pointer (some ⟨g2, 0, none⟩)) rfl (by kernel_rfl) (by kernel_rfl) (by kernel_rfl) (fun _ _ _ h => h) (Or.inl ⟨by kernel_rfl, by intro _ _; kernel_rfl⟩) s0 ?_
  go_simp
  refine wpAnyH_take (i := 3) (v := .pointer (some ⟨g2, 0, none⟩)) rfl (by kernel_rfl) (by kernel_rfl) (by kernel_rfl) (fun _ _ _ h => h) (Or.inl ⟨by kernel_rfl, by intro _ _; kernel_rfl⟩) s0 ?_
  go_simp
  refine wpAnyH_take (i := 4) (v := .pointer (some ⟨g2, 0, none⟩)) rfl (by kernel_rfl) (by kernel_rfl) (by kernel_rfl) (fun _ _ _ h => h) (Or.inl ⟨by kernel_rfl, by intro _ _; kernel_rfl⟩) s0 ?_
  go_simp
  refine wpAnyH_take (i := 5) (v := .int .u64 base) rfl (by kernel_rfl) (by kernel_rfl) (by kernel_rfl) (fun _ _ _ h => h) (Or.inl ⟨by kernel_rfl, by rintro w h; obtain ⟨c1, c2, -⟩ := (hG w h).cells; go_simp⟩) s0 ?_
  go_simp
  refine wpAnyH_take (i := 6) (v := .pointer (some ⟨g2, 0, none⟩)) rfl (by kernel_rfl) (by kernel_rfl) (by kernel_rfl) (fun _ _ _ h => h) (Or.inl ⟨by kernel_rfl, by intro _ _; kernel_rfl⟩) s0 ?_
  go_simp
  refine wpAnyH_take (i := 7) (v := .pointer (some ⟨g2, 0, none⟩)) rfl (by kernel_rfl) (by kernel_rfl) (by kernel_rfl) (fun _ _ _ h => h) (Or.inl ⟨by kernel_rfl, by intro _ _; kernel_rfl⟩) s0 ?_
  go_simp
  refine wpAnyH_take (i := 8) (v := .pointer (some ⟨g2, 1, none⟩)) rfl (by kernel_rfl) (by kernel_rfl) (by kernel_rfl) (fun _ _ _ h => h) (Or.inl ⟨by kernel_rfl, by intro _ _; kernel_rfl⟩) s0 ?_
  go_simp
  refine wpAnyH_take (i := 9) (v := .slice ao n cap) rfl (by kernel_rfl) (by kernel_rfl) (by kernel_rfl) (fun _ _ _ h => h) (Or.inl ⟨by kernel_rfl, by rintro w h; obtain ⟨c1, c2, -⟩ := (hG w h).cells; go_simp⟩) s0 ?_
  go_simp
  refine wpAnyH_take (i := 10) (v := .agg #[.int .u64 base, .slice ao n cap]) rfl (by kernel_rfl) (by kernel_rfl) (by kernel_rfl) (fun _ _ _ h => h) (Or.inl ⟨by kernel_rfl, by rintro w h; obtain ⟨c1, c2, -⟩ := (hG w h).cells; go_simp⟩) s0 ?_
  go_simp
  refine wpAnyH_all (rs := [1, 11]) (by kernel_rfl) (by simp) (fun j hj => ?_)
  simp only [List.mem_cons, List.not_mem_nil, or_false] at hj
  rcases hj with rfl | rfl
  · refine wpOp_step rfl (fun K hK => ?_)
    go_simp
    refine (copy_any w0.heap.size g base l s qs V0 (hSV.pl.later s0)).mono ?_
    rintro e V1 ⟨gy, ly, sy, rfl, hPy, hbc, hgy, fl, fs, rl, rs, ol, os⟩
    have s1 : Below V0.heap.size V0 V1 := s0.trans (hbc.mono s0.size)
    go_simp
    refine hK _ _ ⟨s1, ?_⟩
    clear hK K
    refine wpAnyH_take (i := 12) (v := .pointer (some ⟨gy, 0, none⟩)) rfl (by kernel_rfl) (by kernel_rfl) (by kernel_rfl) (fun _ _ _ h => h) (Or.inl ⟨by kernel_rfl, by intro _ _; kernel_rfl⟩) s1 ?_
    go_simp
    refine wpAnyH_all (rs := [11]) (by kernel_rfl) (by simp) (fun j hj => ?_)
    rw [List.mem_singleton] at hj
    subst hj
    refine wpOp_step rfl (fun K hK => ?_)
    go_simp
    generalize hgw : V1.alloc _ = V2
    have e2 : V1.alloc (.cells #[.int .u64 base, .slice ao n cap] 49) = V2 := hgw
    have hb2 : Below V1.heap.size V1 V2 := by rw [← e2]; exact (Below.refl _ _).alloc (Nat.le_refl _) _
    have kv : V2.heap[V1.heap.size]? = some (.cells #[.int .u64 base, .slice ao n cap] 49) := by rw [← e2]; show (V1.heap.push _)[V1.heap.size]? = some _; exact Array.getElem?_push_size
    clear hgw e2
    have s2 : Below V0.heap.size V0 V2 := s1.trans (hb2.mono s1.size)
    refine hK _ _ ⟨s2, ?_⟩
    clear hK K
    refine wpAnyH_take (i := 13) (v := .pointer (some ⟨V1.heap.size, 0, none⟩)) rfl (by kernel_rfl) (by kernel_rfl) (by kernel_rfl) (fun _ _ _ h => h) (Or.inl ⟨by kernel_rfl, by intro _ _; kernel_rfl⟩) s2 ?_
    go_simp
    refine wpAnyH_done (by kernel_rfl) ?_ _
    have hPy2 := hPy.later hb2
    have hgv0 : V0.heap.size ≤ V1.heap.size := s1.size
    have hgyv : gy ≠ V1.heap.size := by have := hPy.log.lt; omega
    generalize V1.heap.size = gv at *
    have hgy0 : V0.heap.size ≤ gy := by have := s1.size; omega
    have hS2 := hSV.later s2
    have HG0 := Guest.start hS2 hPy2 kv ol os (by rw [hql] at rl; exact rl) (by rw [hql] at rs; exact rs) (show w0.heap.size ≤ gv from by omega) (by omega) (by omega) (by omega) (by omega) hgyv HLO2.out
    have HFL : Hid (Full ly n) := Lib.hid (by rw [hql] at fl; exact fl)
    have HFS : Hid (Full sy n) := Lib.hid (by rw [hql] at fs; exact fs)
    have hbV2 : Below w0.heap.size w0 V2 := hbV.trans (s2.mono zb)
    have hPx2 := hS2.pl
    clear s0 s1 s2 hbc hb2 hPy fl fs rl rs ol os hG hSV hbV zg zg2 zb hgyv kv hgv0 hgy0
    go_wp2_with fail
    refine (begins_any w0.heap.size w0.heap.size g gy base base l s ly sy qs qs V2 hPx2 hPy2 (by omega) (by omega) h0 h0 (by omega) (by omega)).mono ?_
    rintro e w4 ⟨b, rfl, hb, hbel⟩
    obtain rfl : b = true := hb.2 (beg_self _ _)
    have hPx3 := hPx2.later hbel
    have hPy3 := hPy2.later hbel
    go_wp2_with fail
    refine (begins_any w0.heap.size w0.heap.size gy g base base ly sy l s qs qs w4 hPy3 hPx3 (by omega) (by omega) h0 h0 (by omega) (by omega)).mono ?_
    rintro e w5 ⟨b, rfl, hb', hbel'⟩
    obtain rfl : b = true := hb'.2 (beg_self _ _)
    have hbel2 := hbel.trans (hbel'.mono hbel.size)
    have hp5 : PairE w0.heap.size g g2 (base + 20 + (0 : Nat)) (20 + 0) gy gv base ly sy ao n cap qs ps w5 := ⟨_, _, _, _, _, _, _, _, hS2.later hbel2, by omega, by omega, HG0.later hbel2⟩
    have hbw5 : Below w0.heap.size w0 w5 := hbV2.trans (hbel2.mono hbV2.size)
    clear hbel hbel' hbel2 hPx2 hPx3 hPy2 hPy3 hS2 HG0 hbV2 hb hb'
    go_wp2_with fail
    go_loopw [15] (fun p wr => ∃ i : Nat, i ≤ m ∧ p = .int .i64 (i : Int) ∧ PairE w0.heap.size g g2 (base + 20 + i) (20 + i) gy gv base ly sy ao n cap qs ps wr ∧ Below w0.heap.size w0 wr) (fun p _ => m - (intOf p).toNat)
    case atStart => exact ⟨0, Nat.zero_le _, rfl, hp5, hbw5⟩
    case round =>
      clear hp5 hbw5
      obtain ⟨i, hi, rfl, hS, hbr⟩ := hrel
      have hbw := hb0.trans (hbr.mono hb0.size)
      by_cases him : i < m
      · obtain ⟨b1, o1, rfl, hl1, hc1⟩ := hA.rd.some (by have := hA.rd.le; omega)
        obtain ⟨a, hu⟩ : ∃ a, xs_[i]? = some a := ⟨_, List.getElem?_eq_getElem (by rw [LX.out]; exact him)⟩
        have ham := List.mem_of_getElem? hu
        obtain ⟨c0, c1, c2, c3, c4, c5, c6, c7, c8, c9, c10⟩ := acells (xs_.map Prod.fst) i a.1 (amap_at xs_ i a hu) (W := wr) (b := b1) (o := o1) (fun j x hj => (hbw.cell (p := ⟨b1, o1 + j, none⟩) hl1).trans (hc1 j x hj))
        have i0 : (0 : Int) ≤ (i : Int) := by omega
        have i1 : (i : Int) < (m : Int) := by omega
        have hwi : IntKind.wrap .i64 ((i : Int) + 1) = (i : Int) + 1 := by rw [IntKind.wrap_i64]; omega
        have hdo := do_pair a.1 a.2 wr hS ((hA' a ham).later hbw) (hA.fit a ham) ((HAin.out a ham).mono q0) (by omega) (by omega)
        unfold AV.val AV.cells at hdo
        go_wp2_with fail
        refine hdo.mono ?_
        rintro e w4 ⟨rfl, hS4, hb4⟩
        have hbr4 := hbr.trans hb4
        clear c0 c1 c2 c3 c4 c5 c6 c7 c8 c9 c10 hdo
        go_wp2_with fail
        go_roundw
        case rel => exact ⟨i + 1, by omega, by go_num, hS4.mono (by omega) (by omega), hbr4⟩
        case measure => simp [intOf]; omega
      · have him2 : i = m := by omega
        subst him2
        obtain ⟨bx, lx, sx, lox, nx, lcx, qx, px, hSx, hnx, hbx, hGx⟩ := hS
        have hp6 : PairE w0.heap.size gy gv (base + 20 + (0 : Nat)) (20 + 0) g g2 bx lx sx lox nx lcx qx px wr := ⟨_, _, _, _, _, _, _, _, hGx.st, by omega, by omega, hGx.swap hSx HFL.out HFS.out⟩
        have hbx0 := hSx.b0
        clear hSx hGx
        generalize wr = w6 at *
        go_wp2_with fail
        go_loopw [16] (fun p wr => ∃ i : Nat, i ≤ m2 ∧ p = .int .i64 (i : Int) ∧ PairE w0.heap.size gy gv (base + 20 + i) (20 + i) g g2 bx lx sx lox nx lcx qx px wr ∧ Below w0.heap.size w0 wr) (fun p _ => m2 - (intOf p).toNat)
        case atStart => exact ⟨0, Nat.zero_le _, rfl, hp6, hbr⟩
        case round =>
          clear hp6 hbr hbw
          obtain ⟨k, hk, rfl, hS, hbr⟩ := hrel
          have hbw := hb0.trans (hbr.mono hb0.size)
          by_cases hkm : k < m2
          · obtain ⟨b1, o1, rfl, hl1, hc1⟩ := hC.rd.some (by have := hC.rd.le; omega)
            obtain ⟨a, hu⟩ : ∃ a, ys_[k]? = some a := ⟨_, List.getElem?_eq_getElem (by rw [LY.out]; exact hkm)⟩
            have ham := List.mem_of_getElem? hu
            obtain ⟨c0, c1, c2, c3, c4, c5, c6, c7, c8, c9, c10⟩ := acells (ys_.map Prod.fst) k a.1 (amap_at ys_ k a hu) (W := wr) (b := b1) (o := o1) (fun j x hj => (hbw.cell (p := ⟨b1, o1 + j, none⟩) hl1).trans (hc1 j x hj))
            have i0 : (0 : Int) ≤ (k : Int) := by omega
            have i1 : (k : Int) < (m2 : Int) := by omega
            have hwi : IntKind.wrap .i64 ((k : Int) + 1) = (k : Int) + 1 := by rw [IntKind.wrap_i64]; omega
            have hdo := do_pair a.1 a.2 wr hS ((hC' a ham).later hbw) (hC.fit a ham) ((HCin.out a ham).mono q0) (by omega) (by omega)
            unfold AV.val AV.cells at hdo
            go_wp2_with fail
            refine hdo.mono ?_
            rintro e w4 ⟨rfl, hS4, hb4⟩
            have hbr4 := hbr.trans hb4
            clear c0 c1 c2 c3 c4 c5 c6 c7 c8 c9 c10 hdo
            go_wp2_with fail
            go_roundw
            case rel => exact ⟨k + 1, by omega, by go_num, hS4.mono (by omega) (by omega), hbr4⟩
            case measure => simp [intOf]; omega
          · have hkm2 : k = m2 := by omega
            subst hkm2
            obtain ⟨by_, ly9, sy9, loy, ny, lcy, qy, py, hSy, hny, hby, hGy⟩ := hS
            have hSx := hGy.st
            have hby0 := hSy.b0
            clear hGy
            go_wp2_with fail
            refine (same_any wr hSx (by omega) (by omega)).mono ?_
            rintro e w7 ⟨rfl, hSx7, hb7⟩
            have hSy7 := hSy.later hb7
            have hbw7 := hbw.trans (hb7.mono hbw.size)
            clear hSx hSy hb7
            go_wp2_with fail
            refine (same_any w7 hSy7 (by omega) (by omega)).mono ?_
            rintro e w8 ⟨rfl, hSy8, hb8⟩
            have hSx8 := hSx7.later hb8
            have hbw8 := hbw7.trans (hb8.mono hbw7.size)
            clear hSx7 hSy7 hb8
            have lx8 := hSx8.len
            have ly8 := hSy8.len
            have hB1 := fun W (h : Below w8.heap.size w8 W) => begins_any w0.heap.size w0.heap.size g gy bx by_ lx sx ly9 sy9 qx qy W (hSx8.pl.later h) (hSy8.pl.later h) (by omega) (by omega) hbx0 hby0 (by omega) (by omega)
            have hB2 := fun W (h : Below w8.heap.size w8 W) => rBegins_any g2 gv bx by_ lox loy nx lcx ny lcy px py W (hSx8.rf.later h) (hSy8.rf.later h) (by omega) (by omega) hbx0 hby0 (by omega) (by omega)
            have hB3 := fun W (h : Below w8.heap.size w8 W) => begins_any w0.heap.size w0.heap.size gy g by_ bx ly9 sy9 lx sx qy qx W (hSy8.pl.later h) (hSx8.pl.later h) (by omega) (by omega) hby0 hbx0 (by omega) (by omega)
            have hB4 := fun W (h : Below w8.heap.size w8 W) => rBegins_any gv g2 by_ bx loy lox ny lcy nx lcx py px W (hSy8.rf.later h) (hSx8.rf.later h) (by omega) (by omega) hby0 hbx0 (by omega) (by omega)
            have HT1 := Lib.hid (beg_twins (bA := bx) (bB := by_) hSx8.tw hSy8.tw)
            have HT2 := Lib.hid (beg_twins (bA := by_) (bB := bx) hSy8.tw hSx8.tw)
            have z8 := Below.refl w8.heap.size w8
            clear hSx8 hSy8
            go_wp2_with fail
            refine (hB1 w8 z8).mono ?_
            rintro e w9 ⟨b1, rfl, hb1, z9⟩
            go_wp2_with fail
            refine (hB2 w9 z9).mono ?_
            rintro e w10 ⟨b2, rfl, hb2, y10⟩
            have z10 := z9.trans (y10.mono z9.size)
            obtain rfl : b1 = b2 := by rw [Bool.eq_iff_iff, hb1, hb2]; exact HT1.out
            have hbb : (b1 == b1) = true := by simp
            clear hb1 hb2 y10
            go_wp2_with fail
            refine (hB3 w10 z10).mono ?_
            rintro e w11 ⟨b3, rfl, hb3, y11⟩
            have z11 := z10.trans (y11.mono z10.size)
            go_wp2_with fail
            refine (hB4 w11 z11).mono ?_
            rintro e w12 ⟨b4, rfl, hb4, y12⟩
            have z12 := z11.trans (y12.mono z11.size)
            obtain rfl : b3 = b4 := by rw [Bool.eq_iff_iff, hb3, hb4]; exact HT2.out
            have hbb3 : (b3 == b3) = true := by simp
            have hbw12 := hbw8.trans (z12.mono hbw8.size)
            clear hb3 hb4 y11 y12 hB1 hB2 hB3 hB4
            go_wp2_with fail
            refine (known_any w12).mono ?_
            rintro e w13 ⟨rfl, y13⟩
            go_wp2_with fail
            go_ret
            exact ⟨rfl, hbw12.trans (y13.mono hbw12.size)⟩
  · refine wpOp_step rfl (fun K hK => ?_)
    go_simp
    generalize hgw : V0.alloc _ = V1
    have e2 : V0.alloc (.cells #[.int .u64 base, .slice ao n cap] 49) = V1 := hgw
    have hb2 : Below V0.heap.size V0 V1 := by rw [← e2]; exact (Below.refl _ _).alloc (Nat.le_refl _) _
    have kv : V1.heap[V0.heap.size]? = some (.cells #[.int .u64 base, .slice ao n cap] 49) := by rw [← e2]; show (V0.heap.push _)[V0.heap.size]? = some _; exact Array.getElem?_push_size
    clear hgw e2
    have s1 : Below V0.heap.size V0 V1 := s0.trans (hb2.mono s0.size)
    refine hK _ _ ⟨s1, ?_⟩
    clear hK K
    refine wpAnyH_all (rs := [1]) (by kernel_rfl) (by simp) (fun j hj => ?_)
    rw [List.mem_singleton] at hj
    subst hj
    refine wpOp_step rfl (fun K hK => ?_)
    go_simp
    refine (copy_any w0.heap.size g base l s qs V1 (hSV.pl.later s1)).mono ?_
    rintro e V2 ⟨gy, ly, sy, rfl, hPy, hbc, hgy, fl, fs, rl, rs, ol, os⟩
    have s2 : Below V0.heap.size V0 V2 := s1.trans (hbc.mono s1.size)
    go_simp
    refine hK _ _ ⟨s2, ?_⟩
    clear hK K
    refine wpAnyH_take (i := 12) (v := .pointer (some ⟨gy, 0, none⟩)) rfl (by kernel_rfl) (by kernel_rfl) (by kernel_rfl) (fun _ _ _ h => h) (Or.inl ⟨by kernel_rfl, by intro _ _; kernel_rfl⟩) s2 ?_
    go_simp
    refine wpAnyH_take (i := 13) (v := .pointer (some ⟨V0.heap.size, 0, none⟩)) rfl (by kernel_rfl) (by kernel_rfl) (by kernel_rfl) (fun _ _ _ h => h) (Or.inl ⟨by kernel_rfl, by intro _ _; kernel_rfl⟩) s2 ?_
    go_simp
    refine wpAnyH_done (by kernel_rfl) ?_ _
    have hPy2 := hPy
    have kv2 := (hbc.block _ (Array.getElem?_eq_some_iff.1 kv).1).trans kv
    have hgv0 : V0.heap.size ≤ V0.heap.size := Nat.le_refl _
    have hgyv : gy ≠ V0.heap.size := by have := (Array.getElem?_eq_some_iff.1 kv).1; omega
    clear kv
    have kv := kv2
    obtain ⟨gv, hgvv⟩ : ∃ gv, V0.heap.size = gv := ⟨_, rfl⟩
    rw [hgvv] at kv hgyv ⊢
    have hgv0 : V0.heap.size ≤ gv := by omega
    have hgy0 : V0.heap.size ≤ gy := by have := s1.size; omega
    have hS2 := hSV.later s2
    have HG0 := Guest.start hS2 hPy2 kv ol os (by rw [hql] at rl; exact rl) (by rw [hql] at rs; exact rs) (show w0.heap.size ≤ gv from by omega) (by omega) (by omega) (by omega) (by omega) hgyv HLO2.out
    have HFL : Hid (Full ly n) := Lib.hid (by rw [hql] at fl; exact fl)
    have HFS : Hid (Full sy n) := Lib.hid (by rw [hql] at fs; exact fs)
    have hbV2 : Below w0.heap.size w0 V2 := hbV.trans (s2.mono zb)
    have hPx2 := hS2.pl
    clear s0 s1 s2 hbc hb2 hPy fl fs rl rs ol os hG hSV hbV zg zg2 zb hgyv kv hgv0 hgy0
    go_wp2_with fail
    refine (begins_any w0.heap.size w0.heap.size g gy base base l s ly sy qs qs V2 hPx2 hPy2 (by omega) (by omega) h0 h0 (by omega) (by omega)).mono ?_
    rintro e w4 ⟨b, rfl, hb, hbel⟩
    obtain rfl : b = true := hb.2 (beg_self _ _)
    have hPx3 := hPx2.later hbel
    have hPy3 := hPy2.later hbel
    go_wp2_with fail
    refine (begins_any w0.heap.size w0.heap.size gy g base base ly sy l s qs qs w4 hPy3 hPx3 (by omega) (by omega) h0 h0 (by omega) (by omega)).mono ?_
    rintro e w5 ⟨b, rfl, hb', hbel'⟩
    obtain rfl : b = true := hb'.2 (beg_self _ _)
    have hbel2 := hbel.trans (hbel'.mono hbel.size)
    have hp5 : PairE w0.heap.size g g2 (base + 20 + (0 : Nat)) (20 + 0) gy gv base ly sy ao n cap qs ps w5 := ⟨_, _, _, _, _, _, _, _, hS2.later hbel2, by omega, by omega, HG0.later hbel2⟩
    have hbw5 : Below w0.heap.size w0 w5 := hbV2.trans (hbel2.mono hbV2.size)
    clear hbel hbel' hbel2 hPx2 hPx3 hPy2 hPy3 hS2 HG0 hbV2 hb hb'
    go_wp2_with fail
    go_loopw [15] (fun p wr => ∃ i : Nat, i ≤ m ∧ p = .int .i64 (i : Int) ∧ PairE w0.heap.size g g2 (base + 20 + i) (20 + i) gy gv base ly sy ao n cap qs ps wr ∧ Below w0.heap.size w0 wr) (fun p _ => m - (intOf p).toNat)
    case atStart => exact ⟨0, Nat.zero_le _, rfl, hp5, hbw5⟩
    case round =>
      clear hp5 hbw5
      obtain ⟨i, hi, rfl, hS, hbr⟩ := hrel
      have hbw := hb0.trans (hbr.mono hb0.size)
      by_cases him : i < m
      · obtain ⟨b1, o1, rfl, hl1, hc1⟩ := hA.rd.some (by have := hA.rd.le; omega)
        obtain ⟨a, hu⟩ : ∃ a, xs_[i]? = some a := ⟨_, List.getElem?_eq_getElem (by rw [LX.out]; exact him)⟩
        have ham := List.mem_of_getElem? hu
        obtain ⟨c0, c1, c2, c3, c4, c5, c6, c7, c8, c9, c10⟩ := acells (xs_.map Prod.fst) i a.1 (amap_at xs_ i a hu) (W := wr) (b := b1) (o := o1) (fun j x hj => (hbw.cell (p := ⟨b1, o1 + j, none⟩) hl1).trans (hc1 j x hj))
        have i0 : (0 : Int) ≤ (i : Int) := by omega
        have i1 : (i : Int) < (m : Int) := by omega
        have hwi : IntKind.wrap .i64 ((i : Int) + 1) = (i : Int) + 1 := by rw [IntKind.wrap_i64]; omega
        have hdo := do_pair a.1 a.2 wr hS ((hA' a ham).later hbw) (hA.fit a ham) ((HAin.out a ham).mono q0) (by omega) (by omega)
        unfold AV.val AV.cells at hdo
        go_wp2_with fail
        refine hdo.mono ?_
        rintro e w4 ⟨rfl, hS4, hb4⟩
        have hbr4 := hbr.trans hb4
        clear c0 c1 c2 c3 c4 c5 c6 c7 c8 c9 c10 hdo
        go_wp2_with fail
        go_roundw
        case rel => exact ⟨i + 1, by omega, by go_num, hS4.mono (by omega) (by omega), hbr4⟩
        case measure => simp [intOf]; omega
      · have him2 : i = m := by omega
        subst him2
        obtain ⟨bx, lx, sx, lox, nx, lcx, qx, px, hSx, hnx, hbx, hGx⟩ := hS
        have hp6 : PairE w0.heap.size gy gv (base + 20 + (0 : Nat)) (20 + 0) g g2 bx lx sx lox nx lcx qx px wr := ⟨_, _, _, _, _, _, _, _, hGx.st, by omega, by omega, hGx.swap hSx HFL.out HFS.out⟩
        have hbx0 := hSx.b0
        clear hSx hGx
        generalize wr = w6 at *
        go_wp2_with fail
        go_loopw [16] (fun p wr => ∃ i : Nat, i ≤ m2 ∧ p = .int .i64 (i : Int) ∧ PairE w0.heap.size gy gv (base + 20 + i) (20 + i) g g2 bx lx sx lox nx lcx qx px wr ∧ Below w0.heap.size w0 wr) (fun p _ => m2 - (intOf p).toNat)
        case atStart => exact ⟨0, Nat.zero_le _, rfl, hp6, hbr⟩
        case round =>
          clear hp6 hbr hbw
          obtain ⟨k, hk, rfl, hS, hbr⟩ := hrel
          have hbw := hb0.trans (hbr.mono hb0.size)
          by_cases hkm : k < m2
          · obtain ⟨b1, o1, rfl, hl1, hc1⟩ := hC.rd.some (by have := hC.rd.le; omega)
            obtain ⟨a, hu⟩ : ∃ a, ys_[k]? = some a := ⟨_, List.getElem?_eq_getElem (by rw [LY.out]; exact hkm)⟩
            have ham := List.mem_of_getElem? hu
            obtain ⟨c0, c1, c2, c3, c4, c5, c6, c7, c8, c9, c10⟩ := acells (ys_.map Prod.fst) k a.1 (amap_at ys_ k a hu) (W := wr) (b := b1) (o := o1) (fun j x hj => (hbw.cell (p := ⟨b1, o1 + j, none⟩) hl1).trans (hc1 j x hj))
            have i0 : (0 : Int) ≤ (k : Int) := by omega
            have i1 : (k : Int) < (m2 : Int) := by omega
            have hwi : IntKind.wrap .i64 ((k : Int) + 1) = (k : Int) + 1 := by rw [IntKind.wrap_i64]; omega
            have hdo := do_pair a.1 a.2 wr hS ((hC' a ham).later hbw) (hC.fit a ham) ((HCin.out a ham).mono q0) (by omega) (by omega)
            unfold AV.val AV.cells at hdo
            go_wp2_with fail
            refine hdo.mono ?_
            rintro e w4 ⟨rfl, hS4, hb4⟩
            have hbr4 := hbr.trans hb4
            clear c0 c1 c2 c3 c4 c5 c6 c7 c8 c9 c10 hdo
            go_wp2_with fail
            go_roundw
            case rel => exact ⟨k + 1, by omega, by go_num, hS4.mono (by omega) (by omega), hbr4⟩
            case measure => simp [intOf]; omega
          · have hkm2 : k = m2 := by omega
            subst hkm2
            obtain ⟨by_, ly9, sy9, loy, ny, lcy, qy, py, hSy, hny, hby, hGy⟩ := hS
            have hSx := hGy.st
            have hby0 := hSy.b0
            clear hGy
            go_wp2_with fail
            refine (same_any wr hSx (by omega) (by omega)).mono ?_
            rintro e w7 ⟨rfl, hSx7, hb7⟩
            have hSy7 := hSy.later hb7
            have hbw7 := hbw.trans (hb7.mono hbw.size)
            clear hSx hSy hb7
            go_wp2_with fail
            refine (same_any w7 hSy7 (by omega) (by omega)).mono ?_
            rintro e w8 ⟨rfl, hSy8, hb8⟩
            have hSx8 := hSx7.later hb8
            have hbw8 := hbw7.trans (hb8.mono hbw7.size)
            clear hSx7 hSy7 hb8
            have lx8 := hSx8.len
            have ly8 := hSy8.len
            have hB1 := fun W (h : Below w8.heap.size w8 W) => begins_any w0.heap.size w0.heap.size g gy bx by_ lx sx ly9 sy9 qx qy W (hSx8.pl.later h) (hSy8.pl.later h) (by omega) (by omega) hbx0 hby0 (by omega) (by omega)
            have hB2 := fun W (h : Below w8.heap.size w8 W) => rBegins_any g2 gv bx by_ lox loy nx lcx ny lcy px py W (hSx8.rf.later h) (hSy8.rf.later h) (by omega) (by omega) hbx0 hby0 (by omega) (by omega)
            have hB3 := fun W (h : Below w8.heap.size w8 W) => begins_any w0.heap.size w0.heap.size gy g by_ bx ly9 sy9 lx sx qy qx W (hSy8.pl.later h) (hSx8.pl.later h) (by omega) (by omega) hby0 hbx0 (by omega) (by omega)
            have hB4 := fun W (h : Below w8.heap.size w8 W) => rBegins_any gv g2 by_ bx loy lox ny lcy nx lcx py px W (hSy8.rf.later h) (hSx8.rf.later h) (by omega) (by omega) hby0 hbx0 (by omega) (by omega)
            have HT1 := Lib.hid (beg_twins (bA := bx) (bB := by_) hSx8.tw hSy8.tw)
            have HT2 := Lib.hid (beg_twins (bA := by_) (bB := bx) hSy8.tw hSx8.tw)
            have z8 := Below.refl w8.heap.size w8
            clear hSx8 hSy8
            go_wp2_with fail
            refine (hB1 w8 z8).mono ?_
            rintro e w9 ⟨b1, rfl, hb1, z9⟩
            go_wp2_with fail
            refine (hB2 w9 z9).mono ?_
            rintro e w10 ⟨b2, rfl, hb2, y10⟩
            have z10 := z9.trans (y10.mono z9.size)
            obtain rfl : b1 = b2 := by rw [Bool.eq_iff_iff, hb1, hb2]; exact HT1.out
            have hbb : (b1 == b1) = true := by simp
            clear hb1 hb2 y10
            go_wp2_with fail
            refine (hB3 w10 z10).mono ?_
            rintro e w11 ⟨b3, rfl, hb3, y11⟩
            have z11 := z10.trans (y11.mono z10.size)
            go_wp2_with fail
            refine (hB4 w11 z11).mono ?_
            rintro e w12 ⟨b4, rfl, hb4, y12⟩
            have z12 := z11.trans (y12.mono z11.size)
            obtain rfl : b3 = b4 := by rw [Bool.eq_iff_iff, hb3, hb4]; exact HT2.out
            have hbb3 : (b3 == b3) = true := by simp
            have hbw12 := hbw8.trans (z12.mono hbw8.size)
            clear hb3 hb4 y11 y12 hB1 hB2 hB3 hB4
            go_wp2_with fail
            refine (known_any w12).mono ?_
            rintro e w13 ⟨rfl, y13⟩
            go_wp2_with fail
            go_ret
            exact ⟨rfl, hbw12.trans (y13.mono hbw12.size)⟩
end Go.Proofs.YtghjgajgjhbjpaaGreat.Msg
