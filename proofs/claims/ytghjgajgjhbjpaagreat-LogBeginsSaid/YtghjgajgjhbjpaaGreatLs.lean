/-
  The statement's own rows: known.
-/
import Derived.Test.YtghjgajgjhbjpaaGreatLr
namespace Go.Proofs.YtghjgajgjhbjpaaGreat.Msg
open Go.RowKit Go.Lib Go.Proofs.YtghjgajgjhbjpaaGreat.Mem Go.Proofs.YtghjgajgjhbjpaaGreat.Tlv Go.Proofs.YtghjgajgjhbjpaaGreat.Utf

/-- The lookup of 'a'. -/
def lookA : OV := ⟨6, ⟨#[97]⟩, ⟨#[]⟩, none, 0, 0, none, 0, 0, none, 0, 0, 0⟩
theorem lookA_plain : Plain lookA := ⟨rfl, rfl, rfl, rfl, rfl, rfl, rfl, rfl, rfl⟩
theorem lookA_name : mayName ⟨#[97]⟩ = true := by
  unfold mayName
  rw [decide_eq_true (by decide), decide_eq_true (by decide)]
  rfl
theorem empty_name : mayName ⟨#[]⟩ = true := by
  unfold mayName
  rw [decide_eq_true (by decide), decide_eq_true (by decide)]
  rfl
theorem lookA_may : mayOpA lookA noC false = true := by
  have h1 : fieldsOf lookA.k = [110] := rfl
  have h2 : sameOp lookA noC (keepL [110] lookA) (keepC [110] noC) = true := by
    unfold sameOp
    exact decide_eq_true (by decide)
  unfold mayOpA
  rw [h1, h2, show mayName lookA.name = true from lookA_name, show mayName lookA.to = true from empty_name]
  rfl
theorem lookA_fits : Fits lookA noC := by
  refine ⟨by decide, by decide, by decide, by decide, by decide, by decide, by decide, fun x => ?_⟩
  unfold letV
  repeat' split
  all_goals simp [val_len, num8_len, lookA, noC, attB, parB]
theorem lookA_ok : OpC lookA noC true (opL lookA noC) := by
  refine ⟨fun W ho => ?_, fun _ W ho => ?_, ?_⟩
  · have := mayOp_any lookA noC false W ho (fun h => absurd h (by decide))
    rw [lookA_may] at this
    exact this
  · exact opBytes_any lookA noC W ho lookA_fits (by intro x hx; have : x = 110 := by simpa [fieldsOf, lookA] using hx
                                                    subst this; decide)
  · decide
theorem lookA_len : (opL lookA noC).length = 19 := by decide
theorem reqA_ok (n : Int) (hn : 0 ≤ n) : ReqOk ⟨1, n, lookA⟩ 50 := ⟨lookA_plain, ⟨_, lookA_ok, by rw [lookA_len]; rfl⟩, (show (0 : Int) ≤ 1 by decide), hn⟩

set_option maxRecDepth 100000 in
theorem r_any (n : Int) (w : World) : Calls Tryz.prog 36 #[.int .u64 n] w fun e w' => e = .returned (RV.val ⟨1, n, lookA⟩) ∧ Below w.heap.size w w' := by
  go_enter Tryz.func36, Tryz.ntmps36
  go_wp2_with fail
  generalize hg : w.alloc _ = W0
  have e : w.alloc (RV.box ⟨1, n, lookA⟩) = W0 := by simp only [RV.box, RV.cells, lookA]; exact hg
  have hbel : Below w.heap.size w W0 := by rw [← e]; exact (Below.refl _ _).alloc (Nat.le_refl _) _
  have k1 : W0.heap[w.heap.size]? = some (RV.box ⟨1, n, lookA⟩) := by rw [← e]; show (w.heap.push _)[w.heap.size]? = some _; exact Array.getElem?_push_size
  exact bodyPost_ret (results_req (i := 2) rfl rfl k1) rfl ⟨rfl, hbel⟩

set_option maxRecDepth 100000 in
set_option maxHeartbeats 4000000 in
theorem known_any (w : World) : Calls Tryz.prog 8 #[] w (GivesB true w) := by
  go_enter Tryz.func8, Tryz.ntmps8
  go_wp2_with fail
  refine (r_any 1 w).mono ?_
  rintro e w1 ⟨rfl, hb1⟩
  go_wp2_with fail
  refine (r_any 2 w1).mono ?_
  rintro e w2 ⟨rfl, hb2⟩
  simp only [RV.val, RV.cells]
  go_wp2_with fail
  generalize hg : w2.alloc _ = W2
  have e : w2.alloc (.cells (reqV [⟨1, 1, lookA⟩, ⟨1, 2, lookA⟩]).toArray 42) = W2 := by simp only [reqV, RV.cells, List.flatMap_cons, List.flatMap_nil, List.cons_append, List.nil_append, List.append_nil]; exact hg
  have hb3 : Below w2.heap.size w2 W2 := by rw [← e]; exact (Below.refl _ _).alloc (Nat.le_refl _) _
  have hrd : Rd W2 9 (some ⟨w2.heap.size, 0, none⟩) 2 2 (reqV [⟨1, 1, lookA⟩, ⟨1, 2, lookA⟩]) := by rw [← e]; exact Rd.new w2 _ 42 (0, 0) 9 2 (by rw [reqV_len]; rfl) (by decide)
  clear hg e
  have hbW : Below w.heap.size w W2 := (hb1.trans (hb2.mono hb1.size)).trans (hb3.mono (Nat.le_trans hb1.size hb2.size))
  refine (of_ok 5 _ 2 2 [⟨1, 1, lookA⟩, ⟨1, 2, lookA⟩] [50, 50] W2 hrd rfl ?_ (by decide) (by decide) (by decide) (by decide)).mono ?_
  · intro k r hk
    rcases (by omega : k = 0 ∨ k = 1 ∨ 2 ≤ k) with rfl | rfl | h
    · obtain rfl := (Option.some.inj hk).symm
      exact ⟨50, rfl, reqA_ok 1 (by decide)⟩
    · obtain rfl := (Option.some.inj hk).symm
      exact ⟨50, rfl, reqA_ok 2 (by decide)⟩
    · rw [List.getElem?_eq_none (by simpa using h)] at hk; cases hk
  rintro e w3 ⟨g, l, s, rfl, hL, hb4⟩
  have hbX := hbW.trans (hb4.mono hbW.size)
  go_wp2_with fail
  refine (r_any 3 w3).mono ?_
  rintro e w4 ⟨rfl, hb5⟩
  have hL4 := hL.later hb5
  have hbY := hbX.trans (hb5.mono hbX.size)
  have happ := append_ok W2.heap.size g 5 l s [⟨1, 1, lookA⟩, ⟨1, 2, lookA⟩] [50, 50] ⟨1, 3, lookA⟩ noC (opL lookA noC) w4 hL4 (lookA_plain.at_ w4) lookA_ok (show (0 : Int) ≤ 1 by decide) (show (0 : Int) ≤ 3 by decide) (by decide) (by decide) (by rw [lookA_len]; decide) (lookA_plain.apart l) (by decide) (by decide)
  unfold RV.val RV.cells at happ
  simp only [RV.val, RV.cells]
  go_wp2_with fail
  refine happ.mono ?_
  rintro e w5 ⟨u, l5, s5, rfl, hL5, hcu, -, hb6, -⟩
  have hu := lookA_plain.copy hcu
  subst hu
  have hbZ := hbY.trans (hb6.mono hbW.size)
  rw [show (5 : Int) + (([⟨1, 1, lookA⟩, ⟨1, 2, lookA⟩] : List RV).length : Int) + 1 = 8 from rfl]
  obtain ⟨lo, lc, so, sc, e1, e2, hR⟩ := hL5.rd
  have hn1 := own_ne hL5.at_ (by decide) hL5.own
  have hn2 := own_ne hL5.at_ (by decide) hL5.owz
  have hle := hL5.le
  rw [e1] at hn1
  rw [e2] at hn2
  clear e1 e2 hL5 happ
  have q1 : 3 ≤ lc := hR.rl.2.1
  have q2 : 3 ≤ sc := hR.rz.2.1
  obtain ⟨b1, o1, rfl, -⟩ := hR.rl.some (by omega)
  obtain ⟨b2, o2, rfl, -⟩ := hR.rz.some (by omega)
  have m1 : b1 ≠ g := fun e => hn1 (by rw [e]; rfl)
  have m2 : b2 ≠ g := fun e => hn2 (by rw [e]; rfl)
  have hdrop := drop_ok W2.heap.size g 5 3 b1 o1 lc b2 o2 sc _ _ 6 1 w5 hR (by decide) (by decide) (by decide) (by decide) (by decide) (by omega) (by omega) hle m1 m2
  clear hn1 hn2
  go_wp2_with fail
  refine hdrop.mono ?_
  rintro e w6 ⟨rfl, hR6, hb7⟩
  have hbU := hbZ.trans (hb7.mono hbW.size)
  have hat := at_ok g 6 2 b1 (o1 + 1 * 9) (lc - 1) _ (sc - 1) _ _ 7 0 ⟨1, 2, lookA⟩ noC w6 hR6 (by decide) (by decide) (by decide) (by decide) (by decide) rfl (lookA_plain.at_ w6)
  clear hdrop
  go_wp2_with fail
  refine hat.mono ?_
  rintro e w7 ⟨u, rfl, hcu7, -, hb8⟩
  have hu7 := lookA_plain.copy hcu7
  subst hu7
  have hbV := hbU.trans (hb8.mono hbU.size)
  clear hat hcu7 hcu
  simp only [RV.val, RV.cells]
  go_wp2_with fail
  go_ret
  exact ⟨rfl, hbV.alloc hbV.size _⟩
end Go.Proofs.YtghjgajgjhbjpaaGreat.Msg
