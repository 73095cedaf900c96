/-
  A part of the proof: what this text holds is told at each of its declarations.
-/
import Derived.Deep.Cut
import Derived.Test.YtgeafnggodkpaaaGreatZabi
import Derived.Test.YtgeafnggodkpaaaGreatZabj
import Derived.Test.YtgeafnggodkpaaaGreatZaat
namespace Go.Proofs.YtgeafnggodkpaaaGreat.Msg
open Go.RowKit Go.Lib Go.Proofs.YtgeafnggodkpaaaGreat.Mem Go.Proofs.YtgeafnggodkpaaaGreat.Utf Go.Proofs.YtgeafnggodkpaaaGreat.Tlv

theorem mayRes_not {W : World} {v : QV} {c : QC} (h : QAt W v c) (hn : FitQ v c → False) : mayRes v c = false := by
  cases hm : mayRes v c with
  | false => rfl
  | true => exact (hn (FitQ.of h hm)).elim
theorem mayRes_yes {v : QV} {c : QC} (hs : ShortQ c) (h0 : 0 ≤ v.code) (h14 : v.code ≤ 14) (hn : v.en ≤ 1000) (hc : v.cn ≤ 4000) (hb : 0 < v.code → sameRes v c (bareQ v.code) ⟨[], []⟩ = true) (hall : ∀ p ∈ c.ents, mayEntry p.1 p.2 = true) : mayRes v c = true := by
  by_cases e0 : v.code = 0
  · rw [mayRes_zero e0 hs]
    have ha : (c.ents.any fun u => !mayEntry u.1 u.2) = false := List.any_eq_false.2 (fun p hp => by simp [hall p hp])
    rw [ha, decide_eq_false (by omega), decide_eq_false (by omega)]
    rfl
  · unfold mayRes
    rw [if_neg e0, decide_eq_true (by omega), decide_eq_true h14, hb (by omega)]
    rfl
theorem mayRes_notbare {v : QV} {c : QC} (h0 : 0 < v.code) (hb : sameRes v c (bareQ v.code) ⟨[], []⟩ = false) : mayRes v c = false := by
  unfold mayRes
  rw [if_neg (by omega), hb]
  simp

/-- A row stays that is no row of bytes, texts or attributes: the rows of these stay. -/
theorem kpr_row {W W' : World} {B n size : Nat} {e : TypeId} {v : Value} {xs : List Value} (hg : W.grownBy W' v.ownBlock) (ho : W.ownsRow B e size v n xs) (he : ∀ t : TypeId, (t = 5 ∨ t = 9 ∨ t = 53) → e ≠ t) : KeepR W W' := by
  refine ⟨hg.size, fun k c t fr ht hk => (hg.block k (Array.getElem?_eq_some_iff.1 hk).1 (fun e2 => ?_)).trans hk⟩
  obtain ⟨-, -, cur, h3⟩ := own_blk ho e2.symm
  rw [hk] at h3
  cases h3
  exact he _ ht rfl
/-- Elements that lie in rows of bytes. -/
def ElAt (W : World) (xs : List El) : Prop := ∀ x ∈ xs, elG x W ∧ TyX 5 W x.ao x.cap
theorem ElAt.kpr {W W' : World} {xs : List El} (h : ElAt W xs) (hk : KeepR W W') : ElAt W' xs := fun x hx => ⟨rd_kpr (.inl rfl) (h x hx).1 (h x hx).2 hk, (h x hx).2.kpr (.inl rfl) hk⟩
theorem ElAt.snoc {W : World} {xs : List El} {x : El} (h : ElAt W xs) (h1 : elG x W) (h2 : TyX 5 W x.ao x.cap) : ElAt W (xs ++ [x]) := by
  intro y hy
  rcases List.mem_append.1 hy with hy | hy
  · exact h y hy
  · rw [List.mem_singleton] at hy; subst hy; exact ⟨h1, h2⟩
theorem elB_snoc (xs : List El) (x : El) : elB (xs ++ [x]) = elB xs ++ [x.it.2] := by simp [elB]
def entLs (l : List EP) : List (List UInt8) := l.map fun p => entL p.1 p.2
theorem entLs_next (l : List EP) (k : Nat) (p : EP) (h : l[k]? = some p) : entLs (l.take (k + 1)) = entLs (l.take k) ++ [entL p.1 p.2] := by
  rw [List.take_add_one, h]; simp [entLs]
theorem entsB_tag (l : List EP) : ofTag 1 (entLs l) = entsB l := by simp [ofTag, entLs, entsB, List.flatMap_map]
/-- The loop over the entries. -/
structure RbLoop (w : World) (v : QV) (c : QC) (k : Nat) (l : Value) (wr : World) : Prop where
  at_ : QbAt w v wr
  ex : ∃ xs : List El, wr.ownsRow (w.heap.size + 1) 25 1 l k (lsV xs) ∧ elB xs = entLs (c.ents.take k) ∧ ElAt wr xs
  all : ∀ p ∈ c.ents.take k, mayEntry p.1 p.2 = true
/-- The document's bytes of a result, and whether it may be. -/
def GivesRr (v : QV) (c : QC) (w : World) (e : Ending) (w' : World) : Prop := ∃ (l : List UInt8) (ax : Option Addr) (cx : Nat) (ok : Bool), e = .returned (.tuple #[.slice ax l.length cx, .bool ok]) ∧ Rd w' 1 ax l.length cx (byV l) ∧ Below w.heap.size w w' ∧ (mayRes v c = true → l = resL v c ∧ ok = true) ∧ (mayRes v c = false → ok = false ∧ l = [])
theorem givesRr_no {v : QV} {c : QC} {w w' : World} (h : mayRes v c = false) (hb : Below w.heap.size w w') : GivesRr v c w (.returned (.tuple #[.slice none 0 0, .bool false])) w' :=
  ⟨[], none, 0, false, rfl, Rd.nil _ _, hb, fun h2 => (by rw [h] at h2; cases h2), fun _ => ⟨rfl, rfl⟩⟩

set_option maxRecDepth 100000 in
set_option maxHeartbeats 20000000 in
theorem rResBytes_any (v : QV) (c : QC) (w : World) (h : QAt w v c) (hs : ShortQ c) : Calls Tryz.prog 28 #[v.val] w (GivesRr v c w) := by
  have hmo : Tryz.prog.follows .mixedOrders = true := by kernel_rfl
  have lx := h.e.len
  have lc : c.cursor.length = v.cn := by have := h.c.1; rw [byV_len] at this; omega
  have LX := Lib.hid lx
  have LC := Lib.hid lc
  clear lx lc
  have hb0 : Below w.heap.size w (w.alloc v.box) := (Below.refl _ _).alloc (Nat.le_refl _) _
  have k0 : (w.alloc v.box).heap[w.heap.size]? = some v.box := by show (w.heap.push _)[w.heap.size]? = some _; exact Array.getElem?_push_size
  unfold QV.box QV.cells at hb0 k0
  unfold QV.val QV.cells
  go_enter Tryz.func28, Tryz.ntmps28
  go_upto_region 1 with fail
  generalize hg : w.alloc _ = W0 at *
  have q0 : W0.heap[w.heap.size]? = some v.box := k0
  clear hg k0
  have s0 : QbAt w v W0 := ⟨q0, hb0⟩
  obtain ⟨c0, c1, c2, c3, -⟩ := qbox_all q0
  by_cases h0 : v.code < 0
  case pos =>
    have f1 : decide (v.code < 0) = true := decide_eq_true h0
    have HN := Lib.hid (mayRes_not h (fun F => by have := F.c0; omega))
    clear h0
    go_wp2_with fail
    go_ret2
    exact givesRr_no HN.out hb0
  have f1 : decide (v.code < 0) = false := decide_eq_false h0
  by_cases h14 : 14 < v.code
  case pos =>
    have f2 : decide (14 < v.code) = true := decide_eq_true h14
    have HN := Lib.hid (mayRes_not h (fun F => by have := F.c14; omega))
    clear h0 h14
    go_wp2_with fail
    go_ret2
    exact givesRr_no HN.out hb0
  have f2 : decide (14 < v.code) = false := decide_eq_false h14
  by_cases hen : 1000 < v.en
  case pos =>
    have f3 : decide ((1000 : Int) < (v.en : Int)) = true := decide_eq_true (by omega)
    have HN := Lib.hid (mayRes_not h (fun F => by have := F.en; omega))
    clear h0 h14 hen
    go_wp2_with fail
    go_ret2
    exact givesRr_no HN.out hb0
  have f3 : decide ((1000 : Int) < (v.en : Int)) = false := decide_eq_false (by omega)
  by_cases hcn : 4000 < v.cn
  case pos =>
    have f4 : decide ((4000 : Int) < (v.cn : Int)) = true := decide_eq_true (by omega)
    have HN := Lib.hid (mayRes_not h (fun F => by have := F.cn; omega))
    clear h0 h14 hen hcn
    go_wp2_with fail
    go_ret2
    exact givesRr_no HN.out hb0
  have f4 : decide ((4000 : Int) < (v.cn : Int)) = false := decide_eq_false (by omega)
  have hzero : ∀ W, Below W0.heap.size W0 W → QAt W v c := fun W hb => (h.later hb0).later hb
  have hbare : 0 < v.code → Calls Tryz.prog 33 #[.agg #[.int .i64 v.code, .bool v.yes, .slice v.eo v.en v.ec, .slice v.co v.cn v.cc], .agg #[.int .i64 v.code, .bool false, .slice none 0 0, .slice none 0 0]] W0 (GivesB (sameRes v c (bareQ v.code) ⟨[], []⟩) W0) := fun _ => rSameRes_any v (bareQ v.code) c ⟨[], []⟩ W0 (hzero W0 (Below.refl _ _)) (bareQ_at _ _)
  have HZ := Lib.hid hzero
  have HC := Lib.hid (And.intro (show 0 ≤ v.code by omega) (And.intro (show v.code ≤ 14 by omega) (And.intro (show v.en ≤ 1000 by omega) (show v.cn ≤ 4000 by omega))))
  by_cases hbf : 0 < v.code ∧ sameRes v c (bareQ v.code) ⟨[], []⟩ = false
  case pos =>
    have f5 : decide (0 < v.code) = true := decide_eq_true hbf.1
    have HN := Lib.hid (mayRes_notbare hbf.1 hbf.2)
    have hcall := hbare hbf.1
    rw [hbf.2] at hcall
    clear h0 h14 hen hcn hzero hbare hbf
    go_wp2_with (first | (refine wpList_load_row (ty := 58) q0 rfl rfl rfl (by kernel_rfl) (by kernel_rfl) ?_; go_simp))
    refine hcall.mono ?_
    rintro e W1 ⟨rfl, hb1⟩
    go_wp2_with fail
    go_ret2
    exact givesRr_no HN.out (hb0.trans (hb1.mono hb0.size))
  have hbok : 0 < v.code → sameRes v c (bareQ v.code) ⟨[], []⟩ = true := fun hp => by
    cases hq : sameRes v c (bareQ v.code) ⟨[], []⟩ with
    | true => rfl
    | false => exact absurd ⟨hp, hq⟩ hbf
  have HB := Lib.hid hbok
  clear h0 h14 hen hcn hzero hbf
  go_cut [41] from 9 (fun s41 w' => s41 = .bool false ∧ QbAt w v w')
  case first =>
    by_cases hp : 0 < v.code
    · have f5 : decide (0 < v.code) = true := decide_eq_true hp
      have hcall := hbare hp
      rw [hbok hp] at hcall
      clear hbare hbok hp
      go_wp2_with (first | (refine wpList_load_row (ty := 58) q0 rfl rfl rfl (by kernel_rfl) (by kernel_rfl) ?_; go_simp))
      refine hcall.mono ?_
      rintro e W1 ⟨rfl, hb1⟩
      go_wp2_with fail
      go_meet
      case rel => exact ⟨rfl, s0.step hb1⟩
    · have f5 : decide (0 < v.code) = false := decide_eq_false hp
      clear hbare hbok hp
      go_wp2_with fail
      go_meet
      case rel => exact ⟨rfl, s0⟩
  case rest =>
    obtain ⟨rfl, V0⟩ := hcut
    clear s0 q0 c0 c1 c2 c3 hb0 hbare hbok f1 f2 f3 f4
    generalize wc = V at *
    have own0 : V.ownsRow (w.heap.size + 1) 25 1 (.slice none 0 0) 0 (lsV []) := World.ownsRow_nil _ _ _ _
    go_wp2_with fail
    go_loopw [4, 5] (fun l p wr => ∃ k : Nat, k ≤ v.en ∧ p = .int .i64 (k : Int) ∧ RbLoop w v c k l wr) (fun _ p _ => v.en - (intOf p).toNat)
    case atStart => exact ⟨0, Nat.zero_le _, rfl, V0, ⟨[], own0, rfl, fun x hx => by cases hx⟩, fun p hp => by simp at hp⟩
    case round =>
      obtain ⟨k, hk, rfl, hL⟩ := hrel
      obtain ⟨xs, own, hel, hat⟩ := hL.ex
      have hall := hL.all
      have s0 := hL.at_
      have Hel := Lib.hid hel
      have Hall := Lib.hid hall
      have hen := HC.out.2.2.1
      clear hel hall hL own0 V0
      obtain ⟨c0, c1, c2, c3, -⟩ := qbox_all s0.o
      by_cases hkn : k < v.en
      · have hE := (h.later s0.bel).e
        obtain ⟨b1, o1, hao, hl1, hc1⟩ := hE.r.some (by have := hE.r.le; omega)
        rw [hao] at c2
        obtain ⟨p, hp⟩ : ∃ p, c.ents[k]? = some p := ⟨_, List.getElem?_eq_getElem (by rw [LX.out]; exact hkn)⟩
        obtain ⟨v1, v2⟩ := enV_at c.ents k p hp
        have x1 := hc1 (k * 2) _ v1
        have x2 : wr.cell? ⟨b1, o1 + k * 2 + 1, none⟩ = _ := hc1 (k * 2 + 1) _ v2
        have hEp := hE.each p (List.mem_of_getElem? hp)
        have hme := rMayEntry_any p.1 p.2 wr hEp
        unfold EV.val EV.cells at hme
        have HAo := Lib.hid hao
        have HP := Lib.hid hp
        have i0 : (0 : Int) ≤ (k : Int) := by omega
        have i1 : (k : Int) < (v.en : Int) := by omega
        clear hc1 v1 v2 hao hp hE
        go_wp2_with fail
        refine hme.mono ?_
        rintro e W1 ⟨rfl, hb1⟩
        have s1 := s0.step hb1
        cases hm : mayEntry p.1 p.2 with
        | false =>
          have HN := Lib.hid (mayRes_not h (fun F => by have := F.all p (List.mem_of_getElem? HP.out); rw [hm] at this; cases this))
          clear hm
          go_wp2_with fail
          go_ret2
          exact givesRr_no HN.out s1.bel
        | true =>
          have HM := Lib.hid hm
          have hpk := rPack_any p.1 p.2 W1 (hEp.later hb1) (FitE.of hm)
          unfold EV.val EV.cells at hpk
          have y1 := cell_after hb1 x1
          have y2 := cell_after hb1 x2
          clear hm hme x1 x2 c0 c1 c2 c3
          obtain ⟨c0, c1, c2, c3, -⟩ := qbox_all s1.o
          rw [HAo.out] at c2
          go_wp2_with fail
          refine hpk.mono ?_
          rintro e W2 ⟨v3, rfl, o3, hb2⟩
          obtain ⟨a3, k3, e3, r3⟩ := Rd.of_own o3
          subst e3
          have t3 := TyX.of_own o3
          have s2 := s1.step hb2
          have own2 := own_later (own_later own hb1) hb2
          have hat2 := ((hat.kpr (KeepR.of_below hb1)).kpr (KeepR.of_below hb2)).snoc (x := ⟨(1, entL p.1 p.2), a3, k3⟩) r3 t3
          have z2 : w.heap.size + 1 ≤ W2.heap.size := (Array.getElem?_eq_some_iff.1 s2.o).1
          clear hpk y1 y2 c0 c1 c2 c3 own hat o3 r3 t3 s0 s1 hEp hb1 hb2
          go_wp2_with (at_builtin; refine wpList_lit _ rfl (.tmp 56) (.tmp 63) 97 rfl (w.heap.size + 1) 25 (.slice none 0 0) 1 24 lsT (by decide) u4 k (lsV xs) rfl own2 1 [.slice a3 (entL p.1 p.2).length k3] rfl rfl (one1 _ rfl) z2 (by omega) ?_; intro ao4 cap4 W4 o4 hg4 hb4 _)
          have hK : KeepR W2 W4 := (KeepR.of_below ((Below.refl _ _).alloc (Nat.le_refl _) _)).trans (kpr_row hg4 (own2.alloc _) (fun t ht e => by rcases ht with rfl | rfl | rfl <;> exact absurd e (by decide)))
          have hat4 := hat2.kpr hK
          have s4 := s2.turn hb4 (Nat.lt_succ_self _)
          have hp2 := HP.out
          go_roundw
          case rel =>
            refine ⟨k + 1, by omega, by go_num, s4, ⟨xs ++ [⟨(1, entL p.1 p.2), a3, k3⟩], ?_, ?_, hat4⟩, fun q hq => ?_⟩
            · rw [lsV_app]; exact o4
            · rw [elB_snoc, entLs_next _ _ _ hp2, Hel.out]
            · rw [List.take_add_one, hp2] at hq
              rcases List.mem_append.1 hq with hq | hq
              · exact Hall.out q hq
              · obtain rfl : q = p := by simpa using hq
                exact HM.out
          case measure => simp [intOf]; omega
      · have hke : k = v.en := by omega
        have hfull : c.ents.take k = c.ents := List.take_of_length_le (by rw [LX.out]; omega)
        have hallE : ∀ p ∈ c.ents, mayEntry p.1 p.2 = true := fun p hp => Hall.out p (by rw [hfull]; exact hp)
        have hC := HC.out
        have hmr := mayRes_yes hs hC.1 hC.2.1 hC.2.2.1 hC.2.2.2 HB.out hallE
        have HM := Lib.hid hmr
        have hlen : (entsB c.ents).length ≤ 4194304 := hs hallE
        obtain ⟨a4, k4, e4, r4⟩ := Rd.of_own own
        subst e4
        have htag : ofTag 1 (elB xs) = entsB c.ents := by rw [Hel.out, hfull, entsB_tag]
        have hlst := rLst_any 3 a4 _ k4 xs wr r4 (fun u hu => (hat u hu).1) (by rw [htag]; exact hlen)
        rw [htag] at hlst
        obtain ⟨cn, hcd⟩ : ∃ n : Nat, v.code = (n : Int) := ⟨v.code.toNat, by omega⟩
        have hcw : IntKind.wrap .u64 v.code = (cn : Int) := by rw [hcd, IntKind.wrap_u64]; omega
        have hcn64 : cn < 18446744073709551616 := by omega
        have hcnv : v.cn ≤ 4194304 := by omega
        obtain ⟨N1, hN1⟩ : ∃ V, val 1 (num8 cn) = V := ⟨_, rfl⟩
        obtain ⟨F2, hF2⟩ : ∃ V, val 2 [if v.yes then (1 : UInt8) else 0] = V := ⟨_, rfl⟩
        obtain ⟨L3, hL3⟩ : ∃ V, val 3 (entsB c.ents) = V := ⟨_, rfl⟩
        obtain ⟨C4, hC4⟩ : ∃ V, val 4 c.cursor = V := ⟨_, rfl⟩
        have ln1 : N1.length ≤ 100 := by rw [← hN1, val_len, num8_len]; omega
        have lf2 : F2.length ≤ 100 := by rw [← hF2, val_len]; simp
        have ll3 : L3.length ≤ 4194400 := by rw [← hL3, val_len]; omega
        have lc4 : C4.length ≤ 5000 := by rw [← hC4, val_len, LC.out]; omega
        have HR : Hid (resL v c = N1 ++ F2 ++ L3 ++ C4) := Lib.hid (by unfold resL; rw [hN1.symm, hF2.symm, hL3.symm, hC4.symm, show v.code.toNat = cn by omega]; simp)
        rw [hL3] at hlst
        have HN1 := Lib.hid hN1
        have HF2 := Lib.hid hF2
        have HC4 := Lib.hid hC4
        clear hke hfull hallE hmr hlen htag hC hcd hN1 hF2 hL3 hC4 Hel Hall own hen
        go_wp2_with fail
        refine hlst.mono ?_
        rintro e W5 ⟨v5, rfl, o5, hb5⟩
        obtain ⟨a5, k5, e5, r5⟩ := Rd.of_own o5
        subst e5
        have s5 := s0.step hb5
        clear hlst o5 hb5 c0 c1 c2 c3 s0 hat r4
        go_upto_region 11 with fail
        have s0 : QbAt w v W5.drew := s5.step (Below.refl _ _).drew
        have p0 := r5.later (Below.refl W5.heap.size W5).drew
        clear s5 r5
        refine wp_region_held (S := QbAt w v) hmo ?_
        change wpAnyH _ _ _ _ _ _ _ _ (World.drew W5)
        generalize World.drew W5 = X0 at *
        have hB : w.heap.size < X0.heap.size := (Array.getElem?_eq_some_iff.1 s0.o).1
        refine wpAnyH_take (i := 0) (v := .pointer (some ⟨w.heap.size, 0, none⟩)) rfl (by kernel_rfl) (by kernel_rfl) (by kernel_rfl) (fun _ _ _ h => h) (Or.inl ⟨by kernel_rfl, by intro _ _; kernel_rfl⟩) s0 ?_
        go_simp
        refine wpAnyH_take (i := 1) (v := .int .i64 v.code) rfl (by kernel_rfl) (by kernel_rfl) (by kernel_rfl) (fun _ _ _ h => h) (Or.inl ⟨by kernel_rfl, by rintro w2 h2; obtain ⟨c0, c1, c2, c3, -⟩ := qbox_all h2.o; go_simp⟩) s0 ?_
        go_simp
        refine wpAnyH_take (i := 2) (v := .int .u64 (cn : Int)) rfl (by kernel_rfl) (by kernel_rfl) (by kernel_rfl) (fun _ _ _ h => h) (Or.inl ⟨by kernel_rfl, by rintro w2 h2; obtain ⟨c0, c1, c2, c3, -⟩ := qbox_all h2.o; go_simp⟩) s0 ?_
        go_simp
        refine wpAnyH_take (i := 4) (v := .pointer (some ⟨w.heap.size, 1, none⟩)) rfl (by kernel_rfl) (by kernel_rfl) (by kernel_rfl) (fun _ _ _ h => h) (Or.inl ⟨by kernel_rfl, by intro _ _; kernel_rfl⟩) s0 ?_
        go_simp
        refine wpAnyH_take (i := 5) (v := .bool v.yes) rfl (by kernel_rfl) (by kernel_rfl) (by kernel_rfl) (fun _ _ _ h => h) (Or.inl ⟨by kernel_rfl, by rintro w2 h2; obtain ⟨c0, c1, c2, c3, -⟩ := qbox_all h2.o; go_simp⟩) s0 ?_
        go_simp
        refine wpAnyH_all (rs := [3]) (by kernel_rfl) (by simp) (fun j hj => ?_)
        rw [List.mem_singleton] at hj
        subst hj
        refine wpOp_step rfl (fun K hK => ?_)
        go_simp
        refine (rnumber_any 1 cn X0 hcn64).mono ?_
        rintro e X1 ⟨v3, rfl, o3, hb1⟩
        rw [HN1.out] at o3
        have s1 := s0.step hb1
        have p1 := p0.later hb1
        go_simp
        refine hK _ _ ⟨s1, ?_⟩
        clear hK K
        refine wpAnyH_all (rs := [6]) (by kernel_rfl) (by simp) (fun j hj => ?_)
        rw [List.mem_singleton] at hj
        subst hj
        refine wpOp_step rfl (fun K hK => ?_)
        go_simp
        refine (rflag_any 2 v.yes X1).mono ?_
        rintro e X2 ⟨v6, rfl, o6, hb2⟩
        rw [HF2.out] at o6
        have s2 := s1.step hb2
        have p2 := p1.later hb2
        have o3b := own_later o3 hb2
        have z2 : X0.heap.size ≤ X2.heap.size := Nat.le_trans hb1.size hb2.size
        go_simp
        refine hK _ _ ⟨s2, ?_⟩
        clear hK K
        refine wpAnyH_all (rs := [7]) (by kernel_rfl) (by simp) (fun j hj => ?_)
        rw [List.mem_singleton] at hj
        subst hj
        refine wpOp_step rfl (fun K hK => ?_)
        obtain ⟨ya, yk, e6, yr⟩ := Rd.of_own o6
        subst e6
        refine step_app rfl (.tmp 73) (.tmp 76) 25 rfl X0.heap.size 5 (.int .u8 0) 1 1 Tlv.byT v3 _ _ rfl o3b ya _ yk _ rfl yr (byV_one _) (by unfold maxLen; omega) (by omega) z2 ?_
        intro a7 k7 X3 o7 _ hb3 _
        have s3 := s2.turn hb3 hB
        have p3 := p2.below hb3 (fun h0 a ha => p0.lt h0 a ha)
        refine hK _ _ ⟨s3, ?_⟩
        clear hK K
        refine wpAnyH_take (i := 8) (v := .slice a7 (N1.length + F2.length) k7) rfl (by kernel_rfl) (by kernel_rfl) (by kernel_rfl) (fun _ _ _ h => h) (Or.inl ⟨by kernel_rfl, by intro _ _; kernel_rfl⟩) s3 ?_
        go_simp
        refine wpAnyH_done (by kernel_rfl) ?_ _
        go_upto_region 12 with fail
        have t0 : QbAt w v X3.drew := s3.step (Below.refl _ _).drew
        have P0 := p3.later (Below.refl X3.heap.size X3).drew
        have o7d := own_later o7 (Below.refl X3.heap.size X3).drew
        have zz : X0.heap.size ≤ X3.drew.heap.size := Nat.le_trans z2 hb3.size
        refine wp_region_held (S := QbAt w v) hmo ?_
        change wpAnyH _ _ _ _ _ _ _ _ (World.drew X3)
        generalize World.drew X3 = Y0 at *
        refine wpAnyH_take (i := 0) (v := .slice a7 (N1.length + F2.length) k7) rfl (by kernel_rfl) (by kernel_rfl) (by kernel_rfl) (fun _ _ _ h => h) (Or.inl ⟨by kernel_rfl, by intro _ _; kernel_rfl⟩) t0 ?_
        go_simp
        refine wpAnyH_take (i := 1) (v := .slice a5 L3.length k5) rfl (by kernel_rfl) (by kernel_rfl) (by kernel_rfl) (fun _ _ _ h => h) (Or.inl ⟨by kernel_rfl, by intro _ _; kernel_rfl⟩) t0 ?_
        go_simp
        refine wpAnyH_take (i := 3) (v := .pointer (some ⟨w.heap.size, 3, none⟩)) rfl (by kernel_rfl) (by kernel_rfl) (by kernel_rfl) (fun _ _ _ h => h) (Or.inl ⟨by kernel_rfl, by intro _ _; kernel_rfl⟩) t0 ?_
        go_simp
        refine wpAnyH_take (i := 4) (v := .slice v.co v.cn v.cc) rfl (by kernel_rfl) (by kernel_rfl) (by kernel_rfl) (fun _ _ _ h => h) (Or.inl ⟨by kernel_rfl, by rintro w2 h2; obtain ⟨c0, c1, c2, c3, -⟩ := qbox_all h2.o; go_simp⟩) t0 ?_
        go_simp
        refine wpAnyH_take (i := 7) (v := .bool true) rfl (by kernel_rfl) (by kernel_rfl) (by kernel_rfl) (fun _ _ _ h => h) (Or.inl ⟨by kernel_rfl, by intro _ _; kernel_rfl⟩) t0 ?_
        go_simp
        refine wpAnyH_all (rs := [2]) (by kernel_rfl) (by simp) (fun j hj => ?_)
        rw [List.mem_singleton] at hj
        subst hj
        refine wpOp_step rfl (fun K hK => ?_)
        refine step_app rfl (.tmp 78) (.tmp 79) 25 rfl X0.heap.size 5 (.int .u8 0) 1 1 Tlv.byT (.slice a7 (N1.length + F2.length) k7) _ _ rfl o7d a5 _ k5 _ rfl P0 (byV_one _) (by unfold maxLen; omega) (by omega) zz ?_
        intro a8 k8 Y1 o8 _ hbY1 _
        have t1 := t0.turn hbY1 hB
        refine hK _ _ ⟨t1, ?_⟩
        clear hK K
        refine wpAnyH_all (rs := [5]) (by kernel_rfl) (by simp) (fun j hj => ?_)
        rw [List.mem_singleton] at hj
        subst hj
        refine wpOp_step rfl (fun K hK => ?_)
        go_simp
        refine (rvalue_any 4 c.cursor _ _ _ Y1 hcnv (h.later t1.bel).c).mono ?_
        rintro e Y2 ⟨v9, rfl, o9, hbY2⟩
        rw [HC4.out] at o9
        have t2 := t1.step hbY2
        have o8b := own_later o8 hbY2
        have zz2 : X0.heap.size ≤ Y2.heap.size := Nat.le_trans (Nat.le_trans zz hbY1.size) hbY2.size
        go_simp
        refine hK _ _ ⟨t2, ?_⟩
        clear hK K
        refine wpAnyH_all (rs := [6]) (by kernel_rfl) (by simp) (fun j hj => ?_)
        rw [List.mem_singleton] at hj
        subst hj
        refine wpOp_step rfl (fun K hK => ?_)
        obtain ⟨ya9, yk9, e9, yr9⟩ := Rd.of_own o9
        subst e9
        refine step_app rfl (.tmp 80) (.tmp 83) 25 rfl X0.heap.size 5 (.int .u8 0) 1 1 Tlv.byT (.slice a8 (N1.length + F2.length + L3.length) k8) _ _ rfl o8b ya9 _ yk9 _ rfl yr9 (byV_one _) (by unfold maxLen; omega) (by omega) zz2 ?_
        intro a10 k10 Y3 o10 _ hbY3 _
        have t3 := t2.turn hbY3 hB
        refine hK _ _ ⟨t3, ?_⟩
        clear hK K
        refine wpAnyH_take (i := 8) (v := .slice a10 (N1.length + F2.length + L3.length + C4.length) k10) rfl (by kernel_rfl) (by kernel_rfl) (by kernel_rfl) (fun _ _ _ h => h) (Or.inl ⟨by kernel_rfl, by intro _ _; kernel_rfl⟩) t3 ?_
        go_simp
        refine wpAnyH_take (i := 9) (v := .bool true) rfl (by kernel_rfl) (by kernel_rfl) (by kernel_rfl) (fun _ _ _ h => h) (Or.inl ⟨by kernel_rfl, by intro _ _; kernel_rfl⟩) t3 ?_
        go_simp
        refine wpAnyH_done (by kernel_rfl) ?_ _
        go_wp2_with fail
        go_ret2
        have r10 := Rd.of_own_slice o10
        exact ⟨resL v c, a10, k10, true, by rw [HR.out]; simp only [List.length_append]; rfl, by rw [HR.out]; simp only [List.length_append, byV_app]; exact r10, t3.bel, fun _ => ⟨rfl, rfl⟩, fun h => (by rw [HM.out] at h; cases h)⟩
end Go.Proofs.YtgeafnggodkpaaaGreat.Msg
