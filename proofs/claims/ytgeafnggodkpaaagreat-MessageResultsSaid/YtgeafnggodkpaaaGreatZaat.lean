/-
  A part of the proof: what this text holds is told at each of its declarations.
-/
import Derived.Deep.Cut
import Derived.Test.YtgeafnggodkpaaaGreatZaaq
import Derived.Test.YtgeafnggodkpaaaGreatZaas
import Derived.Test.YtgeafnggodkpaaaGreatZaan
namespace Go.Proofs.YtgeafnggodkpaaaGreat.Msg
open Go.RowKit Go.Lib Go.Proofs.YtgeafnggodkpaaaGreat.Mem Go.Proofs.YtgeafnggodkpaaaGreat.Tlv

/-- A request without anything. -/
def zeroR : RV := ⟨0, 0, zeroV⟩
def GivesR (r : RV) (c : OC) (w : World) (e : Ending) (w' : World) : Prop := ∃ u : OV, e = .returned (RV.val ⟨r.cl, r.nu, u⟩) ∧ CopyOf w r.op u ∧ OpAt w' u c ∧ Below w.heap.size w w'
theorem CopyOf.low {w W : World} {v u : OV} (h : CopyOf W v u) (hb : w.heap.size ≤ W.heap.size) : CopyOf w v u :=
  ⟨h.ek, h.ename, h.eto, h.en, h.ean, h.ebn, h.ecn, fun a ha => Nat.le_trans hb (h.fa a ha), fun a ha => Nat.le_trans hb (h.fb a ha), fun a ha => Nat.le_trans hb (h.fc a ha), h.na, h.nb, h.nc⟩

end Go.Proofs.YtgeafnggodkpaaaGreat.Msg
namespace Go.Proofs.YtgeafnggodkpaaaGreat.Msg
open Go.RowKit Go.Lib Go.Proofs.YtgeafnggodkpaaaGreat.Mem Go.Proofs.YtgeafnggodkpaaaGreat.Tlv

/-- An entry's cells. -/
structure EV where
  name : ByteArray
  ao : Option Addr
  an : Nat
  ac : Nat
def EV.cells (v : EV) : Array Value := #[.string v.name, .slice v.ao v.an v.ac]
def EV.val (v : EV) : Value := .agg v.cells
def EV.box (v : EV) : Obj := .cells v.cells 119
/-- What its slice holds. -/
structure EAt (W : World) (v : EV) (x : List (ByteArray × ByteArray)) : Prop where
  a : Rd W 2 v.ao v.an v.ac (atV x)
  la : v.an ≤ 1000000000
theorem EAt.later {W W' : World} {v : EV} {x : List (ByteArray × ByteArray)} (h : EAt W v x) (hb : Below W.heap.size W W') : EAt W' v x := ⟨h.a.later hb, h.la⟩
theorem ebox_all {W : World} {B : Nat} {v : EV} (h : W.heap[B]? = some v.box) : W.cell? ⟨B, 0, none⟩ = some (.string v.name) ∧ W.cell? ⟨B, 1, none⟩ = some (.slice v.ao v.an v.ac) ∧ ∀ i, W.frozen? ⟨B, i, none⟩ = false := by
  unfold EV.box EV.cells at h
  simp [World.cell?, World.frozen?, h]
def sameEntry (v : EV) (x : List (ByteArray × ByteArray)) (v' : EV) (x' : List (ByteArray × ByteArray)) : Bool := decide (v.name = v'.name) && decide (x = x')
def mayEntry (v : EV) (x : List (ByteArray × ByteArray)) : Bool := mayName v.name && mayAttrs x

set_option maxRecDepth 100000 in
set_option maxHeartbeats 4000000 in
theorem sameEntry_any (v v' : EV) (x x' : List (ByteArray × ByteArray)) (w : World) (h : EAt w v x) (h' : EAt w v' x') : Calls Tryz.prog 99 #[v.val, v'.val] w (GivesB (sameEntry v x v' x') w) := by
  have hb0 : Below w.heap.size w ((w.alloc v.box).alloc v'.box) := below_two w _ _
  obtain ⟨k1, k2⟩ := two_boxes w v.box v'.box
  have hsame := equal_att v.ao v'.ao v.an v'.an v.ac v'.ac x x' _ (h.a.later hb0) (h'.a.later hb0) h.la
  unfold EV.box EV.cells at hb0 k1 k2 hsame
  unfold EV.val EV.cells
  by_cases e1 : v.name = v'.name
  case neg =>
    have f1 : (v.name.toList == v'.name.toList) = false := tol_no e1
    have Hs : Hid (sameEntry v x v' x' = false) := Lib.hid (by unfold sameEntry; rw [decide_eq_false e1]; simp)
    clear e1 hsame
    go_enter Tryz.func99, Tryz.ntmps99
    go_wp2_with fail
    go_ret
    exact ⟨by rw [Hs.out]; rfl, hb0⟩
  have f1 : (v.name.toList == v'.name.toList) = true := by simp [e1]
  have Hs : Hid (sameEntry v x v' x' = decide (x = x')) := Lib.hid (by unfold sameEntry; rw [decide_eq_true e1]; simp)
  clear e1
  go_enter Tryz.func99, Tryz.ntmps99
  go_wp2_with fail
  refine hsame.mono ?_
  rintro e w1 ⟨rfl, hb1⟩
  rw [← Hs.out]
  go_wp2_with fail
  go_ret
  exact ⟨rfl, hb0.trans (hb1.mono hb0.size)⟩
set_option maxRecDepth 100000 in
set_option maxHeartbeats 4000000 in
theorem rSameEntry_any (v v' : EV) (x x' : List (ByteArray × ByteArray)) (w : World) (h : EAt w v x) (h' : EAt w v' x') : Calls Tryz.prog 100 #[v.val, v'.val] w (GivesB (sameEntry v x v' x') w) := by
  have hb0 : Below w.heap.size w ((w.alloc v.box).alloc v'.box) := below_two w _ _
  obtain ⟨k1, k2⟩ := two_boxes w v.box v'.box
  have hsame := rSameAttrs_any v.ao v'.ao v.an v'.an v.ac v'.ac x x' _ (h.a.later hb0) (h'.a.later hb0) h.la
  unfold EV.box EV.cells at hb0 k1 k2 hsame
  unfold EV.val EV.cells
  by_cases e1 : v.name = v'.name
  case neg =>
    have f1 : (v.name.toList == v'.name.toList) = false := tol_no e1
    have Hs : Hid (sameEntry v x v' x' = false) := Lib.hid (by unfold sameEntry; rw [decide_eq_false e1]; simp)
    clear e1 hsame
    go_enter Tryz.func100, Tryz.ntmps100
    go_wp2_with fail
    go_ret
    exact ⟨by rw [Hs.out]; rfl, hb0⟩
  have f1 : (v.name.toList == v'.name.toList) = true := by simp [e1]
  have Hs : Hid (sameEntry v x v' x' = decide (x = x')) := Lib.hid (by unfold sameEntry; rw [decide_eq_true e1]; simp)
  clear e1
  go_enter Tryz.func100, Tryz.ntmps100
  go_wp2_with fail
  refine hsame.mono ?_
  rintro e w1 ⟨rfl, hb1⟩
  rw [← Hs.out]
  go_wp2_with fail
  go_ret
  exact ⟨rfl, hb0.trans (hb1.mono hb0.size)⟩
set_option maxRecDepth 100000 in
set_option maxHeartbeats 4000000 in
theorem mayEntry_any (v : EV) (x : List (ByteArray × ByteArray)) (w : World) (h : EAt w v x) : Calls Tryz.prog 97 #[v.val] w (GivesB (mayEntry v x) w) := by
  have hb0 : Below w.heap.size w (w.alloc v.box) := (Below.refl _ _).alloc (Nat.le_refl _) _
  have k0 : (w.alloc v.box).heap[w.heap.size]? = some v.box := by show (w.heap.push _)[w.heap.size]? = some _; exact Array.getElem?_push_size
  unfold EV.box EV.cells at hb0 k0
  unfold EV.val EV.cells
  go_enter Tryz.func97, Tryz.ntmps97
  go_upto_region 1 with fail
  generalize hg : w.alloc _ = W0 at *
  have k0f : W0.heap[w.heap.size]? = some v.box := k0
  clear hg k0
  obtain ⟨c0, c1, -⟩ := ebox_all k0f
  go_wp2_with fail
  refine (mayName_any v.name W0).mono ?_
  rintro e W1 ⟨rfl, hb1⟩
  have k1f := (hb1.block _ (Array.getElem?_eq_some_iff.1 k0f).1).trans k0f
  have hb1' := hb0.trans (hb1.mono hb0.size)
  clear c0 c1
  obtain ⟨c0, c1, -⟩ := ebox_all k1f
  cases hm : mayName v.name with
  | false =>
    have HM := Lib.hid hm
    clear hm
    go_wp2_with fail
    go_ret
    exact ⟨by unfold mayEntry; rw [HM.out]; rfl, hb1'⟩
  | true =>
    have HM := Lib.hid hm
    clear hm
    go_wp2_with fail
    refine (mayAttrs_any v.ao v.an v.ac x W1 (h.a.later hb1') h.la).mono ?_
    rintro e W2 ⟨rfl, hb2⟩
    go_wp2_with fail
    go_ret
    exact ⟨by unfold mayEntry; rw [HM.out]; rfl, hb1'.trans (hb2.mono hb1'.size)⟩
set_option maxRecDepth 100000 in
set_option maxHeartbeats 4000000 in
theorem rMayEntry_any (v : EV) (x : List (ByteArray × ByteArray)) (w : World) (h : EAt w v x) : Calls Tryz.prog 86 #[v.val] w (GivesB (mayEntry v x) w) := by
  have hb0 : Below w.heap.size w (w.alloc v.box) := (Below.refl _ _).alloc (Nat.le_refl _) _
  have k0 : (w.alloc v.box).heap[w.heap.size]? = some v.box := by show (w.heap.push _)[w.heap.size]? = some _; exact Array.getElem?_push_size
  unfold EV.box EV.cells at hb0 k0
  unfold EV.val EV.cells
  go_enter Tryz.func86, Tryz.ntmps86
  go_upto_region 1 with fail
  generalize hg : w.alloc _ = W0 at *
  have k0f : W0.heap[w.heap.size]? = some v.box := k0
  clear hg k0
  obtain ⟨c0, c1, -⟩ := ebox_all k0f
  go_wp2_with fail
  refine (rMayName_any v.name W0).mono ?_
  rintro e W1 ⟨rfl, hb1⟩
  have k1f := (hb1.block _ (Array.getElem?_eq_some_iff.1 k0f).1).trans k0f
  have hb1' := hb0.trans (hb1.mono hb0.size)
  clear c0 c1
  obtain ⟨c0, c1, -⟩ := ebox_all k1f
  cases hm : mayName v.name with
  | false =>
    have HM := Lib.hid hm
    clear hm
    go_wp2_with fail
    go_ret
    exact ⟨by unfold mayEntry; rw [HM.out]; rfl, hb1'⟩
  | true =>
    have HM := Lib.hid hm
    clear hm
    go_wp2_with fail
    refine (rMayAttrs_any v.ao v.an v.ac x W1 (h.a.later hb1')).mono ?_
    rintro e W2 ⟨rfl, hb2⟩
    go_wp2_with fail
    go_ret
    exact ⟨by unfold mayEntry; rw [HM.out]; rfl, hb1'.trans (hb2.mono hb1'.size)⟩

/-- MayResult's question of an entry. -/
theorem mayResult1_any (v : EV) (x : List (ByteArray × ByteArray)) (w : World) (h : EAt w v x) : Calls Tryz.prog 96 #[v.val] w (GivesB (!mayEntry v x) w) := by
  have hb0 : Below w.heap.size w (w.alloc v.box) := (Below.refl _ _).alloc (Nat.le_refl _) _
  have k0 : (w.alloc v.box).heap[w.heap.size]? = some v.box := by show (w.heap.push _)[w.heap.size]? = some _; exact Array.getElem?_push_size
  have hc := mayEntry_any v x _ (h.later hb0)
  unfold EV.box EV.cells at hb0 k0 hc
  unfold EV.val EV.cells at hc
  unfold EV.val EV.cells
  go_enter Tryz.func96, Tryz.ntmps96
  go_wp2_with fail
  refine hc.mono ?_
  rintro e W1 ⟨rfl, hb1⟩
  go_wp2_with fail
  go_ret
  exact ⟨rfl, hb0.trans (hb1.mono hb0.size)⟩
end Go.Proofs.YtgeafnggodkpaaaGreat.Msg
namespace Go.Proofs.YtgeafnggodkpaaaGreat.Msg
open Go.RowKit Go.Lib Go.Proofs.YtgeafnggodkpaaaGreat.Mem Go.Proofs.YtgeafnggodkpaaaGreat.Tlv

/-- An entry's bytes. -/
def entL (v : EV) (x : List (ByteArray × ByteArray)) : List UInt8 := val 1 v.name.data.toList ++ val 2 (attB x)
/-- An entry that may be: how great it is. -/
structure FitE (v : EV) (x : List (ByteArray × ByteArray)) : Prop where
  name : v.name.size ≤ 1000
  n : x.length ≤ 50
  attrs : ∀ u ∈ x, u.1.size ≤ 1000 ∧ u.2.size ≤ 1000
  len : (attB x).length ≤ 100750
theorem attB_fits {x : List (ByteArray × ByteArray)} (h1 : x.length ≤ 50) (h2 : ∀ u ∈ x, u.1.size ≤ 1000 ∧ u.2.size ≤ 1000) : (attB x).length ≤ 100750 := by
  have := atE_all x x.length (Nat.le_refl _)
  rw [List.take_length] at this
  rw [← this]
  have h9 := allIt_le (atE x) 2015 x.length (fun i hi => by
    have := h2 x[i] (List.getElem_mem hi)
    simp only [atE, List.getElem?_eq_getElem hi, Option.getD_some, val_len, List.length_append, sz_len]
    omega)
  exact Nat.le_trans h9 (Nat.mul_le_mul_right 2015 h1)
theorem FitE.of {v : EV} {x : List (ByteArray × ByteArray)} (h : mayEntry v x = true) : FitE v x := by
  unfold mayEntry mayAttrs at h
  simp only [Bool.and_eq_true, decide_eq_true_eq] at h
  obtain ⟨h1, ⟨h2, -⟩, h3⟩ := h
  have ha : ∀ u ∈ x, u.1.size ≤ 1000 ∧ u.2.size ≤ 1000 := fun u hu => mayAttr_le (List.all_eq_true.1 h2 u hu)
  exact ⟨mayName_le h1, h3, ha, attB_fits h3 ha⟩
theorem entL_len {v : EV} {x : List (ByteArray × ByteArray)} (h : mayEntry v x = true) : (entL v x).length ≤ 101760 := by
  have f := FitE.of h
  have h1 := f.name
  have h2 := f.len
  have h3 : v.name.data.toList.length = v.name.size := sz_len _
  unfold entL
  rw [List.length_append, val_len, val_len]
  omega

/-- An entry's bytes, or the error. -/
def GivesEB (v : EV) (x : List (ByteArray × ByteArray)) (w : World) (e : Ending) (w' : World) : Prop := ∃ (l : List UInt8) (ax : Option Addr) (cx : Nat) (ex : Int), e = .returned (.tuple #[.slice ax l.length cx, .int .i64 ex]) ∧ Rd w' 1 ax l.length cx (byV l) ∧ Below w.heap.size w w' ∧ (∀ a, ax = some a → w.heap.size ≤ a.block) ∧ (mayEntry v x = true → l = entL v x ∧ ex = 0) ∧ (mayEntry v x = false → l = [] ∧ ex = 2)
set_option maxRecDepth 100000 in
set_option maxHeartbeats 4000000 in
theorem entBytes_any (v : EV) (x : List (ByteArray × ByteArray)) (w : World) (h : EAt w v x) : Calls Tryz.prog 133 #[v.val] w (GivesEB v x w) := by
  have lx : x.length = v.an := by have := h.a.1; rw [atV_len] at this; omega
  have hb0 : Below w.heap.size w (w.alloc v.box) := (Below.refl _ _).alloc (Nat.le_refl _) _
  have k0 : (w.alloc v.box).heap[w.heap.size]? = some v.box := by show (w.heap.push _)[w.heap.size]? = some _; exact Array.getElem?_push_size
  unfold EV.box EV.cells at hb0 k0
  unfold EV.val EV.cells
  go_enter Tryz.func133, Tryz.ntmps133
  go_upto_region 1 with fail
  generalize hg : w.alloc _ = W0 at *
  have k0f : W0.heap[w.heap.size]? = some v.box := k0
  have hh := h.later hb0
  clear hg k0
  have hc := mayEntry_any v x W0 hh
  unfold EV.val EV.cells at hc
  obtain ⟨c0, c1, -⟩ := ebox_all k0f
  go_wp2_with fail
  refine hc.mono ?_
  rintro e W1 ⟨rfl, hb1⟩
  have k1f := (hb1.block _ (Array.getElem?_eq_some_iff.1 k0f).1).trans k0f
  have hb1' := hb0.trans (hb1.mono hb0.size)
  clear hc c0 c1
  cases hm : mayEntry v x with
  | false =>
    have HM := Lib.hid hm
    clear hm
    go_wp2_with fail
    go_ret2
    exact ⟨[], none, 0, 2, rfl, Rd.nil _ _, hb1', (fun a ha => by cases ha), fun h => (by rw [HM.out] at h; cases h), fun _ => ⟨rfl, rfl⟩⟩
  | true =>
    have HM := Lib.hid hm
    have F := FitE.of hm
    have f1 := F.name
    clear hm
    obtain ⟨c0, c1, -⟩ := ebox_all k1f
    have hw : WrS W1.heap.size W1.heap.size ⟨[], 0⟩ (W1.alloc (.cells #[.slice none 0 0, .int .i64 0] 114)) := ⟨_, by show (W1.heap.push _)[W1.heap.size]? = some _; exact Array.getElem?_push_size, Nat.le_refl _, World.ownsRow_nil _ _ _ _⟩
    have hbw : Below W1.heap.size W1 (W1.alloc (.cells #[.slice none 0 0, .int .i64 0] 114)) := (Below.refl _ _).alloc (Nat.le_refl _) _
    have k2f := (hbw.block _ (Array.getElem?_eq_some_iff.1 k1f).1).trans k1f
    obtain ⟨g0, g1, -⟩ := ebox_all k2f
    go_wp2_with fail
    refine (wtext_any W1.heap.size W1.heap.size ⟨[], 0⟩ 1 v.name _ hw (by decide) (by omega)).mono ?_
    rintro e W3 ⟨rfl, hw3, hb3, -⟩
    have hb13 := hbw.trans hb3
    have k3f := (hb13.block _ (Array.getElem?_eq_some_iff.1 k1f).1).trans k1f
    clear c0 c1 g0 g1
    obtain ⟨c0, c1, -⟩ := ebox_all k3f
    go_wp2_with fail
    have e1 : (WS.put ⟨[], 0⟩ 1 v.name.data.toList) = ⟨val 1 v.name.data.toList, 0⟩ := rfl
    rw [e1] at hw3
    have h3 := hh.later (hb1.trans (hb13.mono hb1.size))
    refine (attPut_any W1.heap.size W1.heap.size _ 2 v.ao v.an v.ac x W3 hw3 rfl (by dsimp only; rw [val_len, sz_len]; omega) h3.a (by rw [← lx]; exact F.n) F.attrs).mono ?_
    rintro e W4 ⟨⟨r, rfl⟩, hw4, hb4, -⟩
    have hb14 := hb13.trans hb4
    have e2 : (WS.put ⟨val 1 v.name.data.toList, 0⟩ 2 (attB x)) = ⟨entL v x, 0⟩ := rfl
    rw [e2] at hw4
    obtain ⟨vw, hw4⟩ := hw4
    have hln := entL_len HM.out
    go_wp2_with fail
    refine (wend_ok _ _ _ _ _ hw4 (by omega)).mono ?_
    rintro e W5 ⟨v5, rfl, ho5, hb5⟩
    obtain ⟨a5, c5, rfl, hr5⟩ := Rd.of_own ho5
    have hf5 := own_fresh ho5
    have hz := (hb1'.trans (hb14.mono hb1'.size))
    go_wp2_with fail
    go_ret2
    exact ⟨_, a5, c5, 0, rfl, hr5, hz.trans (hb5.mono hz.size), fun a ha => Nat.le_trans hz.size (hf5 a ha), fun _ => ⟨rfl, rfl⟩, fun h => (by rw [HM.out] at h; cases h)⟩
end Go.Proofs.YtgeafnggodkpaaaGreat.Msg
namespace Go.Proofs.YtgeafnggodkpaaaGreat.Msg
open Go.RowKit Go.Lib Go.Proofs.YtgeafnggodkpaaaGreat.Mem Go.Proofs.YtgeafnggodkpaaaGreat.Utf Go.Proofs.YtgeafnggodkpaaaGreat.Tlv

/-- An entry's box. -/
structure EbAt (w : World) (v : EV) (W : World) : Prop where
  o : W.heap[w.heap.size]? = some v.box
  bel : Below w.heap.size w W
theorem EbAt.step {w W W' : World} {v : EV} (h : EbAt w v W) (hb : Below W.heap.size W W') : EbAt w v W' := ⟨(hb.block _ (Array.getElem?_eq_some_iff.1 h.o).1).trans h.o, h.bel.trans (hb.mono h.bel.size)⟩
theorem EbAt.turn {w W W' : World} {v : EV} {B : Nat} (h : EbAt w v W) (hb : Below B W W') (hB : w.heap.size < B) : EbAt w v W' := ⟨(hb.block _ hB).trans h.o, h.bel.trans (hb.mono (by omega))⟩

set_option maxRecDepth 100000 in
set_option maxHeartbeats 8000000 in
theorem rPack_any (v : EV) (x : List (ByteArray × ByteArray)) (w : World) (h : EAt w v x) (hf : FitE v x) : Calls Tryz.prog 87 #[v.val] w (GivesO w (entL v x)) := by
  have hmo : Tryz.prog.follows .mixedOrders = true := by kernel_rfl
  have lx : x.length = v.an := by have := h.a.1; rw [atV_len] at this; omega
  have hmn : v.name.size ≤ maxLen := by have := hf.name; unfold maxLen; omega
  have hnN : v.name.size ≤ 4194304 := by have := hf.name; omega
  have han : v.an ≤ 1000 := by have := hf.n; omega
  have hattr := hf.attrs
  have hA1 : (attB x).length ≤ 200000 := by have := hf.len; omega
  obtain ⟨Vn, hVn⟩ : ∃ V, val 1 v.name.data.toList = V := ⟨_, rfl⟩
  obtain ⟨Va, hVa⟩ : ∃ V, val 2 (attB x) = V := ⟨_, rfl⟩
  have ln : Vn.length ≤ 300000 := by rw [← hVn, val_len, len_data]; have := hf.name; omega
  have lA : Va.length ≤ 300000 := by rw [← hVa, val_len]; omega
  have hent : entL v x = Vn ++ Va := by unfold entL; rw [hVn, hVa]
  have HE := Lib.hid hent
  have HVn := Lib.hid hVn
  have HVa := Lib.hid hVa
  clear hent hVn hVa hf lx
  have hb0 : Below w.heap.size w (w.alloc v.box) := (Below.refl _ _).alloc (Nat.le_refl _) _
  have k0 : (w.alloc v.box).heap[w.heap.size]? = some v.box := by show (w.heap.push _)[w.heap.size]? = some _; exact Array.getElem?_push_size
  unfold EV.box EV.cells at hb0 k0
  unfold EV.val EV.cells
  go_enter Tryz.func87, Tryz.ntmps87
  go_upto_region 1 with fail
  generalize hg : w.alloc _ = W0 at *
  have s0 : EbAt w v W0.drew := (⟨k0, hb0⟩ : EbAt w v W0).step (Below.refl _ _).drew
  clear hg k0 hb0
  refine wp_region_held (S := EbAt w v) hmo ?_
  change wpAnyH _ _ _ _ _ _ _ _ (World.drew W0)
  generalize World.drew W0 = X0 at *
  refine wpAnyH_take (i := 0) (v := .pointer (some ⟨w.heap.size, 0, none⟩)) rfl (by kernel_rfl) (by kernel_rfl) (by kernel_rfl) (fun _ _ _ h => h) (Or.inl ⟨by kernel_rfl, by intro _ _; kernel_rfl⟩) s0 ?_
  go_simp
  refine wpAnyH_take (i := 1) (v := .string v.name) rfl (by kernel_rfl) (by kernel_rfl) (by kernel_rfl) (fun _ _ _ h => h) (Or.inl ⟨by kernel_rfl, by rintro w2 h2; obtain ⟨c0, c1, -⟩ := ebox_all h2.o; go_simp⟩) s0 ?_
  go_simp
  refine wpAnyH_take (i := 4) (v := .pointer (some ⟨w.heap.size, 1, none⟩)) rfl (by kernel_rfl) (by kernel_rfl) (by kernel_rfl) (fun _ _ _ h => h) (Or.inl ⟨by kernel_rfl, by intro _ _; kernel_rfl⟩) s0 ?_
  go_simp
  refine wpAnyH_take (i := 5) (v := .slice v.ao v.an v.ac) rfl (by kernel_rfl) (by kernel_rfl) (by kernel_rfl) (fun _ _ _ h => h) (Or.inl ⟨by kernel_rfl, by rintro w2 h2; obtain ⟨c0, c1, -⟩ := ebox_all h2.o; go_simp⟩) s0 ?_
  go_simp
  refine wpAnyH_all (rs := [2]) (by kernel_rfl) (by simp) (fun j hj => ?_)
  rw [List.mem_singleton] at hj
  subst hj
  refine wpOp_step rfl (fun K hK => ?_)
  obtain ⟨k2, X1, hrun, r2, hb1⟩ := run_txt v.name hmn X0
  go_simp
  have s1 := s0.step hb1
  clear hrun
  refine hK _ _ ⟨s1, ?_⟩
  clear hK K
  refine wpAnyH_all (rs := [3]) (by kernel_rfl) (by simp) (fun j hj => ?_)
  rw [List.mem_singleton] at hj
  subst hj
  refine wpOp_step rfl (fun K hK => ?_)
  go_simp
  refine (rvalue_any 1 v.name.data.toList _ _ _ X1 hnN r2).mono ?_
  rintro e X2 ⟨v3, rfl, o3, hb2⟩
  rw [HVn.out] at o3
  have s2 := s1.step hb2
  have hB : w.heap.size < X1.heap.size := (Array.getElem?_eq_some_iff.1 s1.o).1
  go_simp
  refine hK _ _ ⟨s2, ?_⟩
  clear hK K
  refine wpAnyH_all (rs := [6]) (by kernel_rfl) (by simp) (fun j hj => ?_)
  rw [List.mem_singleton] at hj
  subst hj
  refine wpOp_step rfl (fun K hK => ?_)
  go_simp
  refine (rAttrs_any 2 _ _ _ x X2 (h.later s2.bel).a han hattr hA1).mono ?_
  rintro e X3 ⟨v6, rfl, o6, hb3⟩
  rw [HVa.out] at o6
  have s3 := s2.step hb3
  have o4 := own_later o3 hb3
  have z3 : X1.heap.size ≤ X3.heap.size := Nat.le_trans hb2.size hb3.size
  go_simp
  refine hK _ _ ⟨s3, ?_⟩
  clear hK K
  refine wpAnyH_all (rs := [7]) (by kernel_rfl) (by simp) (fun j hj => ?_)
  rw [List.mem_singleton] at hj
  subst hj
  refine wpOp_step rfl (fun K hK => ?_)
  obtain ⟨ya, yk, e6, yr⟩ := Rd.of_own o6
  subst e6
  refine step_app rfl (.tmp 6) (.tmp 9) 25 rfl X1.heap.size 5 (.int .u8 0) 1 1 Tlv.byT v3 _ _ rfl o4 ya _ yk _ rfl yr (byV_one _) (by unfold maxLen; omega) (by omega) z3 ?_
  intro a7 k7 X4 x7 _ hb4 _
  have s4 := s3.turn hb4 hB
  refine hK _ _ ⟨s4, ?_⟩
  clear hK K
  refine wpAnyH_take (i := 8) (v := .slice a7 (Vn.length + Va.length) k7) rfl (by kernel_rfl) (by kernel_rfl) (by kernel_rfl) (fun _ _ _ h => h) (Or.inl ⟨by kernel_rfl, by intro _ _; kernel_rfl⟩) s4 ?_
  go_simp
  refine wpAnyH_done (by kernel_rfl) ?_ _
  go_wp2_with fail
  go_ret
  refine ⟨_, rfl, own_base ?_ (Nat.le_of_lt hB), s4.bel⟩
  rw [HE.out]
  simp only [List.length_append, byV_app]
  exact x7
end Go.Proofs.YtgeafnggodkpaaaGreat.Msg
