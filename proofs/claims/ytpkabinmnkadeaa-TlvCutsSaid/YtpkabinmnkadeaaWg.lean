/-
  The walk of TlvMeans.
-/
import Derived.Test.YtpkabinmnkadeaaWf
import Derived.Test.YtpkabinmnkadeaaVk
import Derived.Sort.QuietIn
import Derived.LoopIn
namespace Go.Proofs.Ytpkabinmnkadeaa.Tlv
open Go.RowKit Go.Shelf Go.Proofs.Ytpkabinmnkadeaa.Mem
attribute [local go_sem] Oper.semAt_some

theorem wantL_split (ps : List Pt) {k : Nat} (_ : k ≤ ps.length) : ∃ r, wantL ps ps.length = wantL ps k ++ r :=
  ⟨(ps.drop k).flatMap fun p => (partB p).1, by
    unfold wantL
    rw [List.take_of_length_le (Nat.le_refl _), ← List.flatMap_append, List.take_append_drop]⟩
theorem okL_at (ps : List Pt) (h : okL ps ps.length = true) (k : Nat) (p : Pt) (hk : ps[k]? = some p) : (partB p).2 = true := by
  unfold okL at h
  rw [List.take_of_length_le (Nat.le_refl _)] at h
  exact List.all_eq_true.1 h p (List.mem_of_getElem? hk)

set_option maxRecDepth 100000 in
set_option maxHeartbeats 8000000 in
theorem means_any (ao : Option Addr) (cap : Nat) (ps : List Pt) (ac : Option Addr) (nc cc : Nat) (c : List UInt8) (W : World) (hp : Parts W ao cap ps) (hc : Rd W 1 ac nc cc (byV c)) :
    Calls Try.prog 11 #[.slice ao ps.length cap, .slice ac nc cc] W (Utf.GivesTrue W) := by
  have hcl : c.length = nc := by have := hc.len; rw [byV_len] at this; omega
  refine (callsIn_wide (n := 9)).1 ?_
  refine callsIn_of_wp_marks Try.func11 rfl trivial ?_ rfl
  simp only [Try.ntmps11, List.size_toArray, List.length_cons, List.length_nil, Nat.reduceAdd, Nat.reduceSub, Array.replicate_succ, Array.replicate_zero, List.push_toArray, List.append_toArray, List.nil_append, List.cons_append]
  gi_wp2_with fail
  refine ⟨trivial, ?_⟩
  gi_at_call 13
  refine (callsIn_wide.2 (known_any W)).mono ?_
  rintro e w1 ⟨rfl, hb1⟩
  gi_wp2_with fail
  refine ⟨trivial, ?_⟩
  gi_at_call 32
  refine (callsIn_wide.2 (much_any ao cap ps w1 (hp.later hb1))).mono ?_
  rintro e w2 ⟨r, rfl, hsm, hb2⟩
  have hb02 : Below W.heap.size W w2 := hb1.trans (hb2.mono hb1.size)
  have hfn : ∀ (a : Addr) (W : World), Sem.run Try.prog (binOp BinOp.eql 74 (.func (.func 63) #[] #[.pointer (some a)]) .nilFunc) W = .ok (.bool false) W := fun _ _ => by kernel_rfl
  cases r with
  | true =>
    gi_wp2
    exact ⟨_, results_tmp rfl _ _ _, rfl, hb02⟩
  | false =>
    by_cases hn : 9000 < nc
    · have f0 : decide ((9000 : Int) < (nc : Int)) = true := decide_eq_true (by omega)
      gi_wp2
      exact ⟨_, results_tmp rfl _ _ _, rfl, hb02⟩
    · have f0 : decide ((9000 : Int) < (nc : Int)) = false := decide_eq_false (by omega)
      obtain ⟨h30, hs⟩ := hsm rfl
      have Hs := Lib.hid hs
      clear hsm hs
      have hp2 := hp.later hb02
      gi_wp2_with fail
      refine ⟨trivial, ?_⟩
      gi_at_call 34
      refine (callsIn_wide.2 (lput_any ao cap ps w2 hp2 h30 Hs.out (fun p hp => ⟨(hp2.each p hp).1.lt, (hp2.each p hp).2.1.lt⟩))).mono ?_
      rintro e w3 ⟨rfl, hw3, hb3⟩
      have hb03 : Below W.heap.size W w3 := hb02.trans (hb3.mono hb02.size)
      have hlen3 := stP_len ps Hs.out ps.length
      have hl3 : (stP ps ps.length).l.length ≤ 100000000 := by omega
      clear hlen3
      have hst := st_want ps ps.length (Nat.le_refl _)
      cases hok : okL ps ps.length with
      | false =>
        have hbad := hst.2 hok
        obtain ⟨vw, hvw⟩ := hw3
        rw [hbad] at hvw
        have hend := wend_bad _ _ _ _ _ _ hvw (by decide)
        have Hend0 := Lib.hid hend
        clear hend hst
        gi_wp2_with fail
        refine ⟨trivial, ?_⟩
        gi_at_call 35
        refine (callsIn_wide.2 (Hend0.out)).mono ?_
        rintro e w4 ⟨v4, rfl, ho4, hb4⟩
        gi_wp2_with fail
        refine ⟨trivial, ?_⟩
        gi_at_call 36
        refine (callsIn_wide.2 (num_any 2 w4)).mono ?_
        rintro e w5 ⟨rfl, h9⟩
        obtain rfl := h9.symm
        clear h9
        have hb05 : Below W.heap.size W w4 := hb03.trans (hb4.mono hb03.size)
        have hct := hc.later hb05
        have hlowc : 0 < cc → ∀ a, ac = some a → a.block < w4.heap.size := hct.lt
        gi_wp2_with fail
        refine ⟨trivial, ?_⟩
        gi_at_call 40
        refine (callsIn_wide.2 (allF_any _ _ _ _)).mono ?_
        rintro e w6 ⟨rfl, rfl⟩
        gi_wp2_with fail
        refine ⟨trivial, ?_⟩
        gi_at_call 40
        refine (callsIn_wide.2 (allF_any _ _ _ _)).mono ?_
        rintro e w7 ⟨rfl, rfl⟩
        gi_wp2
        have hA : MeansAt w4 w4.heap.size w4.heap.size (w4.heap.size + 1) c [] ((((w4.alloc (.cells #[.slice none 0 0, .int .i64 0] 72)).alloc (.cells #[.pointer (some ⟨w4.heap.size, 0, none⟩)] 63)).alloc (.cells #[.slice ac nc cc] 22)).alloc (.cells #[.slice ac nc cc] 22)) := by
          have b1 := Boxed.new (w4.alloc (.cells #[.slice none 0 0, .int .i64 0] 72)) 63 (.pointer (some ⟨w4.heap.size, 0, none⟩))
          simp only [World.size_alloc] at b1
          have hb4 : ∀ (X : World) (o1 o2 o3 : Obj), Below X.heap.size X (((X.alloc o1).alloc o2).alloc o3) := fun X o1 o2 o3 => (((Below.refl _ X).alloc (Nat.le_refl _) _).alloc (by simp) _).alloc (by simp; omega) _
          have hw0 : WrS w4.heap.size w4.heap.size ⟨[], 0⟩ (w4.alloc (.cells #[.slice none 0 0, .int .i64 0] 72)) := ⟨_, WrAt.new w4⟩
          exact ⟨(b1.alloc _).alloc _, hw0.later (hb4 _ _ _ _), rfl, ((Below.refl _ w4).alloc (Nat.le_refl _) _).trans ((hb4 _ _ _ _).mono (by simp))⟩
        have bb := (Boxed.new (((w4.alloc (.cells #[.slice none 0 0, .int .i64 0] 72)).alloc (.cells #[.pointer (some ⟨w4.heap.size, 0, none⟩)] 63)).alloc (.cells #[.slice ac nc cc] 22)) 22 (.slice ac nc cc)).cell
        simp only [World.size_alloc] at bb
        refine range_G (F := Fence.wide) (n := 9) rfl (by omega) (gf := 63) (lb := #[.pointer (some ⟨w4.heap.size + 1 + 1 + 1, 0, none⟩)]) rfl trivial (enters_of Try.func63 (by kernel_rfl) rfl)
          (all1_seq 8 (by omega) w4.heap.size ac nc cc c (by omega) _ (hct.later hA.bel) hlowc hA.bel.size _ bb) (fun h k => belowK_t h k) (fun W l o o' hl h h1 h2 => belowK_b (w := w4) (Nat.le_refl _) W l o o' (Nat.le_trans hA.bel.size hl) h h1 h2) (Below.refl _ _) (fun _ => rfl)
          (MeansAt w4 w4.heap.size w4.heap.size (w4.heap.size + 1) c) (fun _ _ => False) (meansAt_own _ _ _ _ _ _ hA.bel.size (Nat.le_refl _)) (no_own _) (elG_own _) hA ?a1w4 ?assignw4 ?bodyw4 ?donew4 ?stopw4
        case assignw4 =>
          intro l x W K hK
          simp only [elV]
          gi_wp2
          exact hK
        case bodyw4 =>
          rintro l pre x W9 hgx hSx ⟨W0, hI0, hF0, hK0⟩ hI hlen
          have hap := apart_of hI0 hF0 hK0
          obtain ⟨bx, wrS, ips, ibel⟩ := hI
          obtain ⟨hg1, hg2⟩ := spart_good rfl hSx
          obtain ⟨_, hsn, _, _⟩ := ip_snoc rfl hSx
          have hvl := vals_part_len ips
          have cx := bx.cell
          have hgat : ∃ o, W9.heap[w4.heap.size]? = some o ∧ o.isCells = true := by obtain ⟨_, h⟩ := wrS; exact ⟨_, h.at_, rfl⟩
          obtain ⟨og, hog, hoc⟩ := hgat
          have hput := wput_any w4.heap.size w4.heap.size ⟨vals (came pre), 0⟩ x.it.1 x.it.2 x.ao x.it.2.length x.cap W9 wrS (by dsimp only; omega) hg2 hgx hap
          have Hput := Lib.hid hput
          have hpw : WS.put ⟨vals (came pre), 0⟩ x.it.1 x.it.2 = ⟨vals (came (pre ++ [x])), 0⟩ := by unfold WS.put; rw [if_pos rfl, if_neg (by omega), vals_snoc]
          have Hpw := Lib.hid hpw
          have Hsn := Lib.hid hsn
          clear hput hpw hsn hg1 hg2 hvl hap
          gi_wp2_with fail
          refine ⟨trivial, ?_⟩
          gi_at_call 41
          refine (CallsIn.inRound l (callsIn_wide.2 Hput.out)).mono ?_
          rintro e w' ⟨rfl, hS, hbB, hst⟩
          rw [Hpw.out] at hS
          have hbox : Boxed w' (w4.heap.size + 1) 63 (.pointer (some ⟨w4.heap.size, 0, none⟩)) := hst _ _ bx (by omega) (fun _ _ h => by cases h)
          have cx2 := hbox.cell
          have gx2 := hbox.frozen
          gi_wp2
          have hsg := grown_set w' (w4.heap.size + 1) 0 (.pointer (some ⟨w4.heap.size, 0, none⟩))
          refine ⟨(stays_others hst hbB.size hog hoc).trans (KeepsOthers.setCell _ _ _), hbB.setCell (p := ⟨w4.heap.size + 1, 0, none⟩) (by dsimp only; omega) _, hbox.set _, ?_, ?_, (ibel.trans hbB).setCell (p := ⟨w4.heap.size + 1, 0, none⟩) (by dsimp only; omega) _⟩
          · obtain ⟨v, hv⟩ := hS
            refine ⟨v, hv.grown hsg (fun e => by have := Option.some.inj e; omega) (fun k hk e => ?_)⟩
            exact own_oth (show w'.heap[w4.heap.size + 1]? = _ from hbox) (fun _ _ h => by cases h) hv.own (by rw [hk]; exact e)
          · rw [Hsn.out]; simp
        case donew4 =>
          rintro D xs W9 hD hS hI hK
          obtain ⟨bx, wrS, ips, ibel⟩ := hI
          have hcs : came xs = its c := hS
          rw [hcs] at wrS
          obtain ⟨v9, hv9⟩ := wrS
          dsimp only at hv9
          have cx := bx.cell
          obtain ⟨hvl, hvt⟩ := vals_take c
          have hend := wend_ok _ _ _ _ _ hv9 (by omega)
          have Hend := Lib.hid hend
          have Hvt := Lib.hid hvt
          clear hend hvt hcs
          generalize vals (its c) = d at *
          gi_wp2_with fail
          refine ⟨trivial, ?_⟩
          gi_at_call 35
          refine (callsIn_wide.2 Hend.out).mono ?_
          rintro e w8 ⟨v8, rfl, ho8, hb8⟩
          obtain ⟨ao8, cap8, rfl, hr8⟩ := Rd.of_own ho8
          have hc8 : Rd w8 1 ac nc cc (byV c) := (hct.later ibel).later hb8
          have hdle : d.length ≤ nc := by omega
          have f3 : decide ((d.length : Int) ≤ (nc : Int)) = true := decide_eq_true (by omega)
          have hb9 : Below W.heap.size W w8 := (hb05.trans (ibel.mono hb05.size)).trans (hb8.mono (Nat.le_trans hb05.size ibel.size))
          have hcap := hc8.le
          have hD8 : w8.heap[D]? = some (.deferred (some [])) := (hb8.block D (Array.getElem?_eq_some_iff.1 hK).1).trans hK
          have hDW : W.heap.size ≤ D := Nat.le_trans hb05.size (Nat.le_trans hA.bel.size hD)
          have hfr : Rd w8 1 ac d.length cc (byV d) := by
            have h1 : byV c = byV (c.take d.length) ++ byV (c.drop d.length) := by rw [← byV_app, List.take_append_drop]
            rw [h1] at hc8
            have h2 := rd_front (n := d.length) hc8 (by rw [byV_len, List.length_take]; omega) hdle
            rw [Hvt.out] at h2
            exact h2
          have s1 := fun q => run_strD ac _ cc d (w8.drewN q) (hfr.later (below_drewN (Below.refl _ _) q))
          have s2 := fun q => run_strD ao8 _ cap8 d (w8.drewN q) (hr8.later (below_drewN (Below.refl _ _) q))
          have i0 : (0 : Int) ≤ (d.length : Int) := by omega
          have i1 : (d.length : Int) ≤ (cc : Int) := by omega
          have HD8 := Lib.hid hD8
          have HB9 := Lib.hid hb9
          clear hD8 hb9
          cases ac with
          | none =>
            have hcc := hct.2.2.2.1 rfl
            obtain ⟨hn0, hx⟩ := hct.empty hcc
            have hd0 : d = [] := List.eq_nil_of_length_eq_zero (by omega)
            subst hcc hn0 hd0
            have s1' : ∀ q, (convert 22 9 (.slice none 0 0)).run Try.prog (w8.drewN q) = .ok (.string ⟨#[]⟩) (w8.drewN q) := s1
            have s2' : ∀ q, (convert 22 9 (.slice ao8 0 cap8)).run Try.prog (w8.drewN q) = .ok (.string ⟨#[]⟩) (w8.drewN q) := s2
            clear s1 s2
            gi_wp2_with fail
            refine wpIn_wide.2 ?_
            go_quiet ((go_at_call 36; exact Calls.quiet_of_same (num_any 0 _)))
            gi_wp2
            refine ⟨by simp, .inl ⟨_, _, rfl, run_takeDeferred (show (w8.drewN nq).heap[D]? = _ from HD8.out), ?_⟩⟩
            exact ⟨_, results_tmp rfl _ _ _, rfl, (below_drewN HB9.out nq).trans (belowK_b (w := W) (Nat.le_refl _) _ D _ _ hDW (show (w8.drewN nq).heap[D]? = _ from HD8.out) rfl rfl)⟩
          | some a =>
            gi_wp2_with fail
            refine wpIn_wide.2 ?_
            go_quiet ((go_at_call 36; exact Calls.quiet_of_same (num_any 0 _)))
            gi_wp2
            refine ⟨by simp, .inl ⟨_, _, rfl, run_takeDeferred (show (w8.drewN nq).heap[D]? = _ from HD8.out), ?_⟩⟩
            exact ⟨_, results_tmp rfl _ _ _, rfl, (below_drewN HB9.out nq).trans (belowK_b (w := W) (Nat.le_refl _) _ D _ _ hDW (show (w8.drewN nq).heap[D]? = _ from HD8.out) rfl rfl)⟩
        case stopw4 =>
          rintro D pre W9 hD hS hI hK
          exact hI.elim
      | true =>
        have hgood := hst.1 hok
        rw [hgood] at hw3 hl3
        obtain ⟨vw, hvw⟩ := hw3
        have hend := wend_ok _ _ _ _ _ hvw hl3
        have Hend0 := Lib.hid hend
        clear hend hst
        gi_wp2_with fail
        refine ⟨trivial, ?_⟩
        gi_at_call 35
        refine (callsIn_wide.2 (Hend0.out)).mono ?_
        rintro e w4 ⟨v4, rfl, ho4, hb4⟩
        obtain ⟨ao4, cap4, rfl, hr4⟩ := Rd.of_own ho4
        have hb04 : Below W.heap.size W w4 := hb03.trans (hb4.mono hb03.size)
        gi_wp2_with fail
        refine ⟨trivial, ?_⟩
        gi_at_call 36
        refine (callsIn_wide.2 (num_any 0 w4)).mono ?_
        rintro e w5 ⟨rfl, h9⟩
        obtain rfl := h9.symm
        clear h9
        gi_wp2_with fail
        refine ⟨trivial, ?_⟩
        gi_at_call 37
        refine (callsIn_wide.2 (read_any ao4 _ cap4 _ w4 hr4 (by omega))).mono ?_
        rintro e w5 ⟨g5, rfl, hr5, hb5⟩
        have hp4 := hp.later hb04
        gi_wp2_with fail
        gi_loopw [8] (fun p wr => ∃ (k : Nat) (rest : List UInt8), k ≤ ps.length ∧ p = .int .i64 (k : Int) ∧ wantL ps ps.length = wantL ps k ++ rest ∧ RdS w4.heap.size g5 ⟨rest, false⟩ wr ∧ Below w4.heap.size w4 wr) (fun p _ => (ps.length - intOf p).toNat)
        case atStart => exact ⟨0, wantL ps ps.length, by omega, rfl, rfl, hr5, hb5⟩
        case round =>
          obtain ⟨k, rest, hk, rfl, hrest, hrr, hbr⟩ := hrel
          have hrl : rest.length ≤ 100000000 := by have := congrArg List.length hrest; rw [List.length_append] at this; omega
          by_cases hkl : k = ps.length
          · have f1 : decide ((k : Int) < (ps.length : Int)) = false := decide_eq_false (by omega)
            have hre : rest = [] := by
              subst hkl
              have := congrArg List.length hrest
              rw [List.length_append] at this
              exact List.eq_nil_of_length_eq_zero (by omega)
            subst hre
            have hend2 := rend_any _ _ _ _ hrr
            have he0 : RS.ends ⟨[], false⟩ = 0 := by decide
            rw [he0] at hend2
            clear hrest he0
            gi_wp2_with fail
            refine ⟨trivial, ?_⟩
            gi_at_call 39
            refine (callsIn_wide.2 (hend2)).mono ?_
            rintro e w6 ⟨rfl, rfl⟩
            gi_wp2_with fail
            refine ⟨trivial, ?_⟩
            gi_at_call 36
            refine (callsIn_wide.2 (num_any 0 _)).mono ?_
            rintro e w7 ⟨rfl, h9⟩
            obtain rfl := h9.symm
            clear h9
            have hb05 : Below W.heap.size W wr := hb04.trans (hbr.mono hb04.size)
            have hct := hc.later hb05
            have hlowc : 0 < cc → ∀ a, ac = some a → a.block < wr.heap.size := hct.lt
            gi_wp2_with fail
            refine ⟨trivial, ?_⟩
            gi_at_call 40
            refine (callsIn_wide.2 (allF_any _ _ _ _)).mono ?_
            rintro e w6 ⟨rfl, rfl⟩
            gi_wp2_with fail
            refine ⟨trivial, ?_⟩
            gi_at_call 40
            refine (callsIn_wide.2 (allF_any _ _ _ _)).mono ?_
            rintro e w7 ⟨rfl, rfl⟩
            gi_wp2
            have hA : MeansAt wr wr.heap.size wr.heap.size (wr.heap.size + 1) c [] ((((wr.alloc (.cells #[.slice none 0 0, .int .i64 0] 72)).alloc (.cells #[.pointer (some ⟨wr.heap.size, 0, none⟩)] 63)).alloc (.cells #[.slice ac nc cc] 22)).alloc (.cells #[.slice ac nc cc] 22)) := by
              have b1 := Boxed.new (wr.alloc (.cells #[.slice none 0 0, .int .i64 0] 72)) 63 (.pointer (some ⟨wr.heap.size, 0, none⟩))
              simp only [World.size_alloc] at b1
              have hb4 : ∀ (X : World) (o1 o2 o3 : Obj), Below X.heap.size X (((X.alloc o1).alloc o2).alloc o3) := fun X o1 o2 o3 => (((Below.refl _ X).alloc (Nat.le_refl _) _).alloc (by simp) _).alloc (by simp; omega) _
              have hw0 : WrS wr.heap.size wr.heap.size ⟨[], 0⟩ (wr.alloc (.cells #[.slice none 0 0, .int .i64 0] 72)) := ⟨_, WrAt.new wr⟩
              exact ⟨(b1.alloc _).alloc _, hw0.later (hb4 _ _ _ _), rfl, ((Below.refl _ wr).alloc (Nat.le_refl _) _).trans ((hb4 _ _ _ _).mono (by simp))⟩
            have bb := (Boxed.new (((wr.alloc (.cells #[.slice none 0 0, .int .i64 0] 72)).alloc (.cells #[.pointer (some ⟨wr.heap.size, 0, none⟩)] 63)).alloc (.cells #[.slice ac nc cc] 22)) 22 (.slice ac nc cc)).cell
            simp only [World.size_alloc] at bb
            refine range_G (F := Fence.wide) (n := 9) rfl (by omega) (gf := 63) (lb := #[.pointer (some ⟨wr.heap.size + 1 + 1 + 1, 0, none⟩)]) rfl trivial (enters_of Try.func63 (by kernel_rfl) rfl)
              (all1_seq 8 (by omega) wr.heap.size ac nc cc c (by omega) _ (hct.later hA.bel) hlowc hA.bel.size _ bb) (fun h k => belowK_t h k) (fun W l o o' hl h h1 h2 => belowK_b (w := wr) (Nat.le_refl _) W l o o' (Nat.le_trans hA.bel.size hl) h h1 h2) (Below.refl _ _) (fun _ => rfl)
              (MeansAt wr wr.heap.size wr.heap.size (wr.heap.size + 1) c) (fun _ _ => False) (meansAt_own _ _ _ _ _ _ hA.bel.size (Nat.le_refl _)) (no_own _) (elG_own _) hA ?a1wr ?assignwr ?bodywr ?donewr ?stopwr
            case assignwr =>
              intro l x W K hK
              simp only [elV]
              gi_wp2
              exact hK
            case bodywr =>
              rintro l pre x W9 hgx hSx ⟨W0, hI0, hF0, hK0⟩ hI hlen
              have hap := apart_of hI0 hF0 hK0
              obtain ⟨bx, wrS, ips, ibel⟩ := hI
              obtain ⟨hg1, hg2⟩ := spart_good rfl hSx
              obtain ⟨_, hsn, _, _⟩ := ip_snoc rfl hSx
              have hvl := vals_part_len ips
              have cx := bx.cell
              have hgat : ∃ o, W9.heap[wr.heap.size]? = some o ∧ o.isCells = true := by obtain ⟨_, h⟩ := wrS; exact ⟨_, h.at_, rfl⟩
              obtain ⟨og, hog, hoc⟩ := hgat
              have hput := wput_any wr.heap.size wr.heap.size ⟨vals (came pre), 0⟩ x.it.1 x.it.2 x.ao x.it.2.length x.cap W9 wrS (by dsimp only; omega) hg2 hgx hap
              have Hput := Lib.hid hput
              have hpw : WS.put ⟨vals (came pre), 0⟩ x.it.1 x.it.2 = ⟨vals (came (pre ++ [x])), 0⟩ := by unfold WS.put; rw [if_pos rfl, if_neg (by omega), vals_snoc]
              have Hpw := Lib.hid hpw
              have Hsn := Lib.hid hsn
              clear hput hpw hsn hg1 hg2 hvl hap
              gi_wp2_with fail
              refine ⟨trivial, ?_⟩
              gi_at_call 41
              refine (CallsIn.inRound l (callsIn_wide.2 Hput.out)).mono ?_
              rintro e w' ⟨rfl, hS, hbB, hst⟩
              rw [Hpw.out] at hS
              have hbox : Boxed w' (wr.heap.size + 1) 63 (.pointer (some ⟨wr.heap.size, 0, none⟩)) := hst _ _ bx (by omega) (fun _ _ h => by cases h)
              have cx2 := hbox.cell
              have gx2 := hbox.frozen
              gi_wp2
              have hsg := grown_set w' (wr.heap.size + 1) 0 (.pointer (some ⟨wr.heap.size, 0, none⟩))
              refine ⟨(stays_others hst hbB.size hog hoc).trans (KeepsOthers.setCell _ _ _), hbB.setCell (p := ⟨wr.heap.size + 1, 0, none⟩) (by dsimp only; omega) _, hbox.set _, ?_, ?_, (ibel.trans hbB).setCell (p := ⟨wr.heap.size + 1, 0, none⟩) (by dsimp only; omega) _⟩
              · obtain ⟨v, hv⟩ := hS
                refine ⟨v, hv.grown hsg (fun e => by have := Option.some.inj e; omega) (fun k hk e => ?_)⟩
                exact own_oth (show w'.heap[wr.heap.size + 1]? = _ from hbox) (fun _ _ h => by cases h) hv.own (by rw [hk]; exact e)
              · rw [Hsn.out]; simp
            case donewr =>
              rintro D xs W9 hD hS hI hK
              obtain ⟨bx, wrS, ips, ibel⟩ := hI
              have hcs : came xs = its c := hS
              rw [hcs] at wrS
              obtain ⟨v9, hv9⟩ := wrS
              dsimp only at hv9
              have cx := bx.cell
              obtain ⟨hvl, hvt⟩ := vals_take c
              have hend := wend_ok _ _ _ _ _ hv9 (by omega)
              have Hend := Lib.hid hend
              have Hvt := Lib.hid hvt
              clear hend hvt hcs
              generalize vals (its c) = d at *
              gi_wp2_with fail
              refine ⟨trivial, ?_⟩
              gi_at_call 35
              refine (callsIn_wide.2 Hend.out).mono ?_
              rintro e w8 ⟨v8, rfl, ho8, hb8⟩
              obtain ⟨ao8, cap8, rfl, hr8⟩ := Rd.of_own ho8
              have hc8 : Rd w8 1 ac nc cc (byV c) := (hct.later ibel).later hb8
              have hdle : d.length ≤ nc := by omega
              have f3 : decide ((d.length : Int) ≤ (nc : Int)) = true := decide_eq_true (by omega)
              have hb9 : Below W.heap.size W w8 := (hb05.trans (ibel.mono hb05.size)).trans (hb8.mono (Nat.le_trans hb05.size ibel.size))
              have hcap := hc8.le
              have hD8 : w8.heap[D]? = some (.deferred (some [])) := (hb8.block D (Array.getElem?_eq_some_iff.1 hK).1).trans hK
              have hDW : W.heap.size ≤ D := Nat.le_trans hb05.size (Nat.le_trans hA.bel.size hD)
              have hfr : Rd w8 1 ac d.length cc (byV d) := by
                have h1 : byV c = byV (c.take d.length) ++ byV (c.drop d.length) := by rw [← byV_app, List.take_append_drop]
                rw [h1] at hc8
                have h2 := rd_front (n := d.length) hc8 (by rw [byV_len, List.length_take]; omega) hdle
                rw [Hvt.out] at h2
                exact h2
              have s1 := fun q => run_strD ac _ cc d (w8.drewN q) (hfr.later (below_drewN (Below.refl _ _) q))
              have s2 := fun q => run_strD ao8 _ cap8 d (w8.drewN q) (hr8.later (below_drewN (Below.refl _ _) q))
              have i0 : (0 : Int) ≤ (d.length : Int) := by omega
              have i1 : (d.length : Int) ≤ (cc : Int) := by omega
              have HD8 := Lib.hid hD8
              have HB9 := Lib.hid hb9
              clear hD8 hb9
              cases ac with
              | none =>
                have hcc := hct.2.2.2.1 rfl
                obtain ⟨hn0, hx⟩ := hct.empty hcc
                have hd0 : d = [] := List.eq_nil_of_length_eq_zero (by omega)
                subst hcc hn0 hd0
                have s1' : ∀ q, (convert 22 9 (.slice none 0 0)).run Try.prog (w8.drewN q) = .ok (.string ⟨#[]⟩) (w8.drewN q) := s1
                have s2' : ∀ q, (convert 22 9 (.slice ao8 0 cap8)).run Try.prog (w8.drewN q) = .ok (.string ⟨#[]⟩) (w8.drewN q) := s2
                clear s1 s2
                gi_wp2_with fail
                refine wpIn_wide.2 ?_
                go_quiet ((go_at_call 36; exact Calls.quiet_of_same (num_any 0 _)))
                gi_wp2
                refine ⟨by simp, .inl ⟨_, _, rfl, run_takeDeferred (show (w8.drewN nq).heap[D]? = _ from HD8.out), ?_⟩⟩
                exact ⟨_, results_tmp rfl _ _ _, rfl, (below_drewN HB9.out nq).trans (belowK_b (w := W) (Nat.le_refl _) _ D _ _ hDW (show (w8.drewN nq).heap[D]? = _ from HD8.out) rfl rfl)⟩
              | some a =>
                gi_wp2_with fail
                refine wpIn_wide.2 ?_
                go_quiet ((go_at_call 36; exact Calls.quiet_of_same (num_any 0 _)))
                gi_wp2
                refine ⟨by simp, .inl ⟨_, _, rfl, run_takeDeferred (show (w8.drewN nq).heap[D]? = _ from HD8.out), ?_⟩⟩
                exact ⟨_, results_tmp rfl _ _ _, rfl, (below_drewN HB9.out nq).trans (belowK_b (w := W) (Nat.le_refl _) _ D _ _ hDW (show (w8.drewN nq).heap[D]? = _ from HD8.out) rfl rfl)⟩
            case stopwr =>
              rintro D pre W9 hD hS hI hK
              exact hI.elim
          · have f1 : decide ((k : Int) < (ps.length : Int)) = true := decide_eq_true (by omega)
            have hkl2 : k < ps.length := by omega
            have hpk : ps[k]? = some ps[k] := List.getElem?_eq_getElem hkl2
            have hgk := (hp4.each _ (List.getElem_mem hkl2)).later hbr
            have hlk : ptLow w4.heap.size ps[k] := ⟨(hp4.each _ (List.getElem_mem hkl2)).1.lt, (hp4.each _ (List.getElem_mem hkl2)).2.1.lt⟩
            have hsk := Hs.out _ (List.getElem_mem hkl2)
            have hrd := hp4.rd.later hbr
            have hcap2 := hrd.le
            obtain ⟨lb, lf, rfl, llt, lc⟩ := hrd.some (by omega)
            have e0 := lc (k * 5 + 0) _ (ptsV_at ps k _ hpk 0 _ rfl)
            have e1 : wr.cell? ⟨lb, lf + k * 5 + 1, none⟩ = _ := lc (k * 5 + 1) _ (ptsV_at ps k _ hpk 1 _ rfl)
            have e2 : wr.cell? ⟨lb, lf + k * 5 + 2, none⟩ = _ := lc (k * 5 + 2) _ (ptsV_at ps k _ hpk 2 _ rfl)
            have e3 : wr.cell? ⟨lb, lf + k * 5 + 3, none⟩ = _ := lc (k * 5 + 3) _ (ptsV_at ps k _ hpk 3 _ rfl)
            have e4 : wr.cell? ⟨lb, lf + k * 5 + 4, none⟩ = _ := lc (k * 5 + 4) _ (ptsV_at ps k _ hpk 4 _ rfl)
            rw [Nat.add_zero] at e0
            have i0 : (0 : Int) ≤ (k : Int) := by omega
            have i1 : (k : Int) < (ps.length : Int) := by omega
            obtain ⟨rest', hr'⟩ := wantL_split ps (k := k + 1) (by omega)
            have hok1 := okL_at ps hok k _ hpk
            have hrr2 : rest = (partB ps[k]).1 ++ rest' := by
              rw [wantL_succ ps k _ hpk, List.append_assoc] at hr'
              rw [hr'] at hrest
              exact (List.append_cancel_left hrest).symm
            have hbk := back_any w4.heap.size g5 ⟨rest, false⟩ ps[k] wr hrr hrl hgk hsk hlk hok1
            have Hbk := Lib.hid hbk
            have Hrr2 := Lib.hid hrr2
            have Hr' := Lib.hid hr'
            clear hbk hrr2 hr' hpk hgk hlk hsk hok1 hrest
            generalize ps[k] = p at *
            gi_wp2_with fail
            refine ⟨trivial, ?_⟩
            gi_at_call 38
            refine (callsIn_wide.2 (Hbk.out)).mono ?_
            rintro e w6 ⟨r6, s6, rfl, hr6, hb6, hbks, _⟩
            obtain ⟨hr1, hs1⟩ := hbks.1 rest' (by rw [Hrr2.out])
            subst hr1 hs1
            gi_wp2
            go_roundw
            case rel => exact ⟨k + 1, rest', by omega, by go_num, Hr'.out, hr6, hbr.trans hb6⟩
            case measure => simp [intOf]; omega
/-- .. as it comes in. -/
theorem means_in (ao : Option Addr) (cap : Nat) (ps : List Pt) (ac : Option Addr) (nc cc : Nat) (zs : List Int) (W : World) (hp : Parts W ao cap ps) (hr : Rd W 1 ac nc cc (zs.map (Value.int .u8))) (hz : ∀ z ∈ zs, (Lit.int .u8 z).wf = true) : Calls Try.prog 11 #[.slice ao ps.length cap, .slice ac nc cc] W (Utf.GivesTrue W) := by
  obtain ⟨b, hb⟩ := bytes_of zs (fun z h => wf_u8 (hz z h))
  rw [hb] at hr
  exact means_any ao cap ps ac nc cc b W hp hr
end Go.Proofs.Ytpkabinmnkadeaa.Tlv
