/-
  A part of the proof: what this text holds is told at each of its declarations.
-/
import Derived.Laws.CopyOwn
import Derived.Test.YtgeafnggodkpaaaGreatZaba
import Derived.Test.YtgeafnggodkpaaaGreatZaan
import Derived.Test.YtgeafnggodkpaaaGreatZabb
import Derived.Test.YtgeafnggodkpaaaGreatZaau
namespace Go.Proofs.YtgeafnggodkpaaaGreat.Msg
open Go.RowKit Go.Lib Go.Proofs.YtgeafnggodkpaaaGreat.Mem Go.Proofs.YtgeafnggodkpaaaGreat.Tlv

theorem kpr_iter {wr w' : World} {it j : Nat} {s : ByteArray} (h : wr.heap[it]? = some (.stringIter s j)) (hg : wr.grownBy w' (some it)) : KeepR wr w' := by
  refine KeepR.of_belX (BelX.of_grown hg) (fun k hk => ?_)
  rw [List.mem_singleton.1 hk]
  exact ⟨_, h, fun c t fr _ e => by cases e⟩
def OV.cells (v : OV) : Array Value := #[.int .i64 v.k, .string v.name, .string v.to, .slice v.ao v.an v.ac, .slice v.bo v.bn v.bc, .slice v.co v.cn v.cc, .int .i64 v.n]
theorem OpGo.iter {B g ob it : Nat} {w : World} {b : List UInt8} {v : OV} {c : OC} {ls : List UInt8} {s : RS} {wr w' : World} {j : Nat} {x : ByteArray} (h : OpGo B g ob w b v c ls s wr) (hi : wr.heap[it]? = some (.stringIter x j)) (hg : wr.grownBy w' (some it)) (hw : w.heap.size ≤ it) : OpGo B g ob w b v c ls s w' := by
  have hk := kpr_iter hi hg
  have h1 : it ≠ ob := fun e => by have := h.box; unfold InO OV.box at this; rw [← e, hi] at this; cases this
  have h2 : g ≠ it := fun e => by obtain ⟨_, _, h⟩ := h.rd; have := h.at_; rw [e, hi] at this; cases this
  exact ⟨h.bel.trans (below_of_grown hg hw (Array.getElem?_eq_some_iff.1 hi).1), h.box.grown hg (fun e => h1 (Option.some.inj e).symm), h.rd.grown hg hi (fun c fr h => by cases h) h2, h.at_.kpr h.ty hk, h.ty.kpr hk, h.part⟩

end Go.Proofs.YtgeafnggodkpaaaGreat.Msg
namespace Go.Proofs.YtgeafnggodkpaaaGreat.Msg
open Go.RowKit Go.Lib Go.Proofs.YtgeafnggodkpaaaGreat.Mem Go.Proofs.YtgeafnggodkpaaaGreat.Tlv

/-- No entry that may be has these bytes. -/
def NoEnt (b : List UInt8) : Prop := ∀ v x, mayEntry v x = true → entL v x ≠ b
theorem ent_split (v : EV) (x : List (ByteArray × ByteArray)) : entL v x = val 1 v.name.data.toList ++ (val 2 (attB x) ++ []) := by unfold entL; simp
theorem mayEntry_name {v v' : EV} {x : List (ByteArray × ByteArray)} (h : v.name = v'.name) : mayEntry v x = mayEntry v' x := by unfold mayEntry; rw [h]
/-- No two entries have the same bytes. -/
theorem ent_inj {v v' : EV} {x x' : List (ByteArray × ByteArray)} (hm : mayEntry v x = true) (hm' : mayEntry v' x' = true) (h : entL v x = entL v' x') : sameEntry v x v' x' = true := by
  have f := FitE.of hm
  have f' := FitE.of hm'
  have n1 := f.name; have n2 := f'.name; have a1 := f.len; have a2 := f'.len
  have z1 : v.name.data.toList.length = v.name.size := sz_len _
  have z2 : v'.name.data.toList.length = v'.name.size := sz_len _
  rw [ent_split, ent_split] at h
  obtain ⟨h1, h⟩ := val_inj (by decide) (by omega) (by omega) h
  obtain ⟨h2, -⟩ := val_inj (by decide) (by omega) (by omega) h
  have h3 := attB_inj x x' (by omega) (by omega) h2
  unfold sameEntry
  rw [decide_eq_true (ba_data h1), decide_eq_true h3]
  rfl
section
variable {b y : List UInt8} {s1 s2 : RS} {xs : List (ByteArray × ByteArray)}
  (T1 : Took (val 1) (fun z => z.length ≤ 4194304) (fun z => z.length ≤ 4194304) ⟨b, false⟩ y s1)
  (T2 : Took (fun ys => val 2 (attB ys)) (fun ys => mayAttrs ys = true ∧ (attB ys).length ≤ 4194304) (fun ys => (attB ys).length ≤ 4194304) s1 xs s2)
include T1 T2
theorem ent_none {v0 : EV} (hv : v0.name = ⟨y.toArray⟩) (h : (s2.bad = true ∨ 0 < s2.l.length) ∨ mayEntry v0 xs = false) : NoEnt b := by
  intro v x hm e
  have f := FitE.of hm
  have n1 := f.name; have a1 := f.len
  have z1 : v.name.data.toList.length = v.name.size := sz_len _
  have hma : mayAttrs x = true := by
    unfold mayEntry at hm
    simp only [Bool.and_eq_true] at hm
    exact hm.2
  rw [ent_split] at e
  cases h1 : s1.bad with
  | true =>
    rcases T1.no h1 with h | h
    · cases h
    · exact h _ _ (by omega) e.symm
  | false =>
    obtain ⟨-, e1, g1⟩ := T1.yes h1
    dsimp only at e1
    rw [e1] at e
    obtain ⟨en, e⟩ := val_inj (by decide) (by omega) g1 e
    cases h2 : s2.bad with
    | true =>
      rcases T2.no h2 with h | h
      · rw [h1] at h; cases h
      · exact h x [] ⟨hma, by omega⟩ e.symm
    | false =>
      obtain ⟨-, e2, g2⟩ := T2.yes h2
      rw [e2] at e
      obtain ⟨ea, e⟩ := val_inj (by decide) (by omega) g2 e
      have hx := attB_inj x xs (by omega) g2 ea
      rcases h with (h | h) | h
      · rw [h2] at h; cases h
      · rw [← e] at h; simp at h
      · have hn : v.name = v0.name := by
          rw [hv]
          refine ba_data ?_
          rw [en]
        rw [← hx, ← mayEntry_name hn, hm] at h
        cases h
theorem ent_done {v0 : EV} (hv : v0.name = ⟨y.toArray⟩) (h2 : s2.bad = false) (hl : s2.l = []) : entL v0 xs = b := by
  obtain ⟨h1, e2, -⟩ := T2.yes h2
  obtain ⟨-, e1, -⟩ := T1.yes h1
  dsimp only at e1
  rw [ent_split, hv, e1, e2, hl]
end
theorem took_weaken {α : Type} {body : α → List UInt8} {may may' good good' : α → Prop} {s s' : RS} {y : α} (h : Took body may good s y s') (h1 : ∀ z, may' z → may z) (h2 : ∀ z, good z → good' z) : Took body may' good' s y s' :=
  ⟨fun hb => by obtain ⟨a, b, c⟩ := h.yes hb; exact ⟨a, b, h2 _ c⟩, fun hb => (h.no hb).imp id (fun k z r hz => k z r (h1 z hz)), h.le⟩

/-- An entry was read, or these bytes are none's. -/
def GivesEo (ok bad : Value) (b : List UInt8) (w : World) (e : Ending) (w' : World) : Prop := Below w.heap.size w w' ∧
  ((∃ v x, e = .returned (.tuple #[EV.val v, ok]) ∧ EAt w' v x ∧ TyX 53 w' v.ao v.ac ∧ mayEntry v x = true ∧ entL v x = b) ∨ (e = .returned (.tuple #[zeroE.val, bad]) ∧ NoEnt b))
theorem kpr_ent {W W' : World} {b : Nat} {r : EV} (h : W.heap[b]? = some r.box) (hs : W.heap.size ≤ W'.heap.size) (ho : ∀ k, k ≠ b → W'.heap[k]? = W.heap[k]?) : KeepR W W' := by
  refine ⟨hs, fun k c t fr ht hk => ?_⟩
  have hne : k ≠ b := fun e => by
    subst e
    rw [h] at hk
    cases hk
    rcases ht with h | h | h <;> exact absurd h (by decide)
  exact (ho k hne).trans hk

set_option maxRecDepth 100000 in
set_option maxHeartbeats 8000000 in
theorem entOf_any (b : List UInt8) (ao : Option Addr) (n cap : Nat) (w : World) (hr : Rd w 1 ao n cap (byV b)) (hn : n ≤ 100000000) :
    Calls Tryz.prog 92 #[.slice ao n cap] w (GivesEo (.int .i64 0) (.int .i64 4) b w) := by
  have hbn : b.length = n := by have := hr.1; rw [byV_len] at this; omega
  have hb0 : Below w.heap.size w (w.alloc zeroE.box) := (Below.refl _ _).alloc (Nat.le_refl _) _
  have k0 : (w.alloc zeroE.box).heap[w.heap.size]? = some zeroE.box := by show (w.heap.push _)[w.heap.size]? = some _; exact Array.getElem?_push_size
  have hz0 : (w.alloc zeroE.box).heap.size = w.heap.size + 1 := by simp
  have hr0 := hr.later hb0
  unfold zeroE EV.box EV.cells at hb0 k0 hz0 hr0
  dsimp only at hb0 k0 hz0 hr0
  clear hr
  go_enter Tryz.func92, Tryz.ntmps92
  go_upto_region 1 with fail
  generalize hg : w.alloc _ = W0 at *
  have k0f : W0.heap[w.heap.size]? = some zeroE.box := k0
  clear hg k0
  go_wp2_with fail
  refine (read_any ao n cap b W0 hr0 (by omega)).mono ?_
  rintro e W1 ⟨g, rfl, hr1, hb1⟩
  have hg0 : W0.heap.size ≤ g := by obtain ⟨_, _, h⟩ := hr1; exact h.le
  have T1 := took_bytes ⟨b, false⟩ 1 (by decide)
  have htx := rtext_any W0.heap.size g ⟨b, false⟩ 1 W1 hr1 (by dsimp only; omega)
  generalize RS.bytes ⟨b, false⟩ 1 = nm at *
  obtain ⟨y, s1⟩ := nm
  dsimp only at T1 htx
  go_wp2_with fail
  refine htx.mono ?_
  rintro e W2 ⟨rfl, hr2, hg2⟩
  have l1 := T1.le
  dsimp only at l1
  have hb2 : Below W0.heap.size W0 W2 := hb1.trans (below_of_grown hg2 hg0 (by obtain ⟨_, _, h⟩ := hr1; exact h.lt))
  go_wp2_with fail
  refine (entTake_any W0.heap.size g s1 2 W2 (by decide) hr2 (by omega)).mono ?_
  rintro e W3 ⟨a3, n3, c3, xs, s2, rfl, hrd3, hn3, hty3, hr3, hg3, T2'⟩
  have T2 := took_weaken T2' (may' := fun ys => mayAttrs ys = true ∧ (attB ys).length ≤ 4194304) (good' := fun ys => (attB ys).length ≤ 4194304) (fun _ h => h) (fun _ h => h.2)
  have hb3 : Below W0.heap.size W0 W3 := hb2.trans (below_of_grown hg3 hg0 (by obtain ⟨_, _, h⟩ := hr2; exact h.lt))
  clear T2' htx hg2 hg3 hr1 hr2 hb1 hb2
  go_upto_region 3 with (refine wpList_store_new rfl rfl rfl rfl (by kernel_rfl) rfl (by kernel_rfl) ?_; go_simp)
  generalize hg : W3.alloc _ = W4
  have e4 : W3.alloc (EV.box ⟨⟨y.toArray⟩, a3, n3, c3⟩) = W4 := hg
  have hb4' : Below W3.heap.size W3 W4 := by rw [← e4]; exact (Below.refl _ _).alloc (Nat.le_refl _) _
  have q4 : W4.heap[W3.heap.size]? = some (EV.box ⟨⟨y.toArray⟩, a3, n3, c3⟩) := by rw [← e4]; show (W3.heap.push _)[W3.heap.size]? = some _; exact Array.getElem?_push_size
  have hr4 := hr3.later hb4'
  have hb4 := hb3.trans (hb4'.mono hb3.size)
  have hE : EAt W4 ⟨⟨y.toArray⟩, a3, n3, c3⟩ xs := ⟨hrd3.later hb4', by dsimp only; omega⟩
  have hT : TyX 53 W4 a3 c3 := hty3.kpr (.inr (.inr rfl)) (KeepR.of_below hb4')
  clear hg e4 hr3 hb3 hb4' hrd3 hty3
  generalize W3.heap.size = ob at *
  have hrz : W4.heap[w.heap.size]? = some zeroE.box := (hb4.block _ (by omega)).trans k0f
  have hbel := hb0.trans (hb4.mono (by omega))
  go_wp2_with fail
  refine (rend_any W0.heap.size g s2 W4 hr4).mono ?_
  rintro e w9 ⟨rfl, rfl⟩
  by_cases he : s2.bad = true ∨ 0 < s2.l.length
  · have e4 : s2.ends = 4 := if_pos he
    have hno := ent_none T1 T2 (v0 := ⟨⟨y.toArray⟩, a3, n3, c3⟩) rfl (.inl he)
    rw [e4]
    have f1 : (W4.setRow w.heap.size zeroE.cells).heap[w.heap.size]? = some (.cells zeroE.cells 119) := setRow_at' hrz
    have f2 := below_setRow hbel (Nat.le_refl _) zeroE.cells
    go_wp2_with (refine wpList_store_row hrz rfl rfl rfl rfl (by kernel_rfl) rfl (by kernel_rfl) ?_; go_simp)
    exact bodyPost_ret (w := W4.setRow w.heap.size zeroE.cells) (results_row2 (i := 2) (j := 3) (t := 119) rfl rfl rfl (by kernel_rfl) (by kernel_rfl) f1) rfl ⟨f2, .inr ⟨rfl, hno⟩⟩
  · have e4 : s2.ends = 0 := if_neg he
    have hs1 : s2.bad = false := by cases h : s2.bad with
      | true => exact absurd (.inl h) he
      | false => rfl
    have hs2 : s2.l = [] := List.eq_nil_of_length_eq_zero (by
      have : ¬ 0 < s2.l.length := fun h => he (.inr h)
      omega)
    rw [e4]
    have hdone := ent_done T1 T2 (v0 := ⟨⟨y.toArray⟩, a3, n3, c3⟩) rfl hs1 hs2
    have HD := Lib.hid hdone
    have hme := mayEntry_any ⟨⟨y.toArray⟩, a3, n3, c3⟩ xs W4 hE
    have HN : mayEntry ⟨⟨y.toArray⟩, a3, n3, c3⟩ xs = false → NoEnt b := fun h => ent_none T1 T2 (v0 := ⟨⟨y.toArray⟩, a3, n3, c3⟩) rfl (.inr h)
    have HNo := Lib.hid HN
    clear hdone he HN T1 T2
    unfold EV.val EV.cells at hme
    go_wp2_with (refine wpList_load_row q4 rfl rfl rfl (by kernel_rfl) (by kernel_rfl) ?_; go_simp)
    refine hme.mono ?_
    rintro e W5 ⟨rfl, hb5⟩
    have hrz5 := (hb5.block _ (Array.getElem?_eq_some_iff.1 hrz).1).trans hrz
    have q5 := (hb5.block _ (Array.getElem?_eq_some_iff.1 q4).1).trans q4
    have hbel5 := hbel.trans (hb5.mono hbel.size)
    have hE5 := hE.later hb5
    have hT5 : TyX 53 W5 a3 c3 := hT.kpr (.inr (.inr rfl)) (KeepR.of_below hb5)
    clear hme hE hT hrz q4 hbel hb5
    cases hm : mayEntry ⟨⟨y.toArray⟩, a3, n3, c3⟩ xs with
    | false =>
      have hno := HNo.out hm
      have f1 : (W5.setRow w.heap.size zeroE.cells).heap[w.heap.size]? = some (.cells zeroE.cells 119) := setRow_at' hrz5
      have f2 := below_setRow hbel5 (Nat.le_refl _) zeroE.cells
      clear hm
      go_wp2_with (refine wpList_store_row hrz5 rfl rfl rfl rfl (by kernel_rfl) rfl (by kernel_rfl) ?_; go_simp)
      exact bodyPost_ret (w := W5.setRow w.heap.size zeroE.cells) (results_row2 (i := 2) (j := 3) (t := 119) rfl rfl rfl (by kernel_rfl) (by kernel_rfl) f1) rfl ⟨f2, .inr ⟨rfl, hno⟩⟩
    | true =>
      have HM := Lib.hid hm
      have f1 : (W5.setRow w.heap.size (EV.cells ⟨⟨y.toArray⟩, a3, n3, c3⟩)).heap[w.heap.size]? = some (.cells (EV.cells ⟨⟨y.toArray⟩, a3, n3, c3⟩) 119) := setRow_at' hrz5
      have f2 := below_setRow hbel5 (Nat.le_refl _) (EV.cells ⟨⟨y.toArray⟩, a3, n3, c3⟩)
      have hkr := kpr_ent hrz5 (below_setRow (Below.refl w.heap.size W5) (Nat.le_refl _) (EV.cells ⟨⟨y.toArray⟩, a3, n3, c3⟩)).size (fun k hk => setRow_other W5 w.heap.size k (EV.cells ⟨⟨y.toArray⟩, a3, n3, c3⟩) hk)
      have hEF : EAt (W5.setRow w.heap.size (EV.cells ⟨⟨y.toArray⟩, a3, n3, c3⟩)) ⟨⟨y.toArray⟩, a3, n3, c3⟩ xs := ⟨rd_kpr (.inr (.inr rfl)) hE5.a hT5 hkr, hE5.la⟩
      have hTF : TyX 53 (W5.setRow w.heap.size (EV.cells ⟨⟨y.toArray⟩, a3, n3, c3⟩)) a3 c3 := hT5.kpr (.inr (.inr rfl)) hkr
      clear hm
      go_wp2_with (first | (refine wpList_load_row q5 rfl rfl rfl (by kernel_rfl) (by kernel_rfl) ?_; go_simp) | (refine wpList_store_row hrz5 rfl rfl rfl rfl (by kernel_rfl) rfl (by kernel_rfl) ?_; go_simp))
      exact bodyPost_ret (w := W5.setRow w.heap.size (EV.cells ⟨⟨y.toArray⟩, a3, n3, c3⟩)) (results_row2 (i := 2) (j := 3) (t := 119) rfl rfl rfl (by kernel_rfl) (by kernel_rfl) f1) rfl ⟨f2, .inl ⟨_, xs, rfl, hEF, hTF, HM.out, HD.out⟩⟩
end Go.Proofs.YtgeafnggodkpaaaGreat.Msg
