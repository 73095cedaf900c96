/-
  A part of the proof: what this text holds is told at each of its declarations.
-/
import Derived.Test.YtgeafnggodkpaaaGreatZaat
import Derived.Test.YtgeafnggodkpaaaGreatZaai
namespace Go.Proofs.YtgeafnggodkpaaaGreat.Msg
open Go.RowKit Go.Lib Go.Proofs.YtgeafnggodkpaaaGreat.Mem Go.Proofs.YtgeafnggodkpaaaGreat.Utf Go.Proofs.YtgeafnggodkpaaaGreat.Tlv

def zeroE : EV := ⟨⟨#[]⟩, none, 0, 0⟩
/-- An entry laid anew. -/
def GivesEC (v : EV) (x : List (ByteArray × ByteArray)) (w : World) (e : Ending) (w' : World) : Prop := ∃ u : EV, e = .returned u.val ∧ u.name = v.name ∧ u.an = v.an ∧ EAt w' u x ∧ (∀ a, u.ao = some a → w.heap.size ≤ a.block) ∧ Below w.heap.size w w'
structure EcAt (w : World) (v : EV) (W : World) : Prop where
  o : W.heap[w.heap.size]? = some v.box
  z : W.heap[w.heap.size + 1]? = some zeroE.box
  bel : Below w.heap.size w W
theorem EcAt.step {w W W' : World} {v : EV} (h : EcAt w v W) (hb : Below W.heap.size W W') : EcAt w v W' := ⟨(hb.block _ (Array.getElem?_eq_some_iff.1 h.o).1).trans h.o, (hb.block _ (Array.getElem?_eq_some_iff.1 h.z).1).trans h.z, h.bel.trans (hb.mono h.bel.size)⟩
theorem results_ent {f : Func} {i : Nat} {tmps : Array Value} {W : World} {b : Nat} {r : EV} (hr : f.results = #[.cell i 119]) (hp : tmps.getD i undef = .pointer (some ⟨b, 0, none⟩)) (h : W.heap[b]? = some r.box) : (results f tmps).run Tryz.prog W = .ok r.val W := by
  obtain ⟨c0, c1, -⟩ := ebox_all h
  simp only [results, hr]
  have hp' : tmps[i]?.getD undef = .pointer (some ⟨b, 0, none⟩) := by simpa using hp
  unfold EV.val EV.cells
  simp [hp', asAddr]
  go_simp

set_option maxRecDepth 100000 in
set_option maxHeartbeats 8000000 in
theorem copyEnt_any (v : EV) (x : List (ByteArray × ByteArray)) (w : World) (h : EAt w v x) : Calls Tryz.prog 101 #[v.val] w (GivesEC v x w) := by
  have hmo : Tryz.prog.follows .mixedOrders = true := by kernel_rfl
  have hb0 : Below w.heap.size w ((w.alloc v.box).alloc zeroE.box) := below_two w _ _
  obtain ⟨k1, k2⟩ := two_boxes w v.box zeroE.box
  unfold zeroE EV.box EV.cells at hb0 k1 k2
  unfold EV.val EV.cells
  go_enter Tryz.func101, Tryz.ntmps101
  go_upto_region 1 with fail
  generalize hg : World.alloc _ _ = W0 at *
  have s0 : EcAt w v W0.drew := (⟨k1, k2, hb0⟩ : EcAt w v W0).step (Below.refl _ _).drew
  clear hg k1 k2 hb0
  refine wp_region_T (k := 6) (S := EcAt w v) hmo ?_
  change wpAnyT _ _ _ _ _ _ _ _ _ (World.drew W0)
  generalize World.drew W0 = X0 at *
  refine wpAnyT_take (i := 0) (v := .pointer (some ⟨w.heap.size, 0, none⟩)) rfl (by kernel_rfl) (by kernel_rfl) (by kernel_rfl) (by kernel_rfl) (by decide) (by kernel_rfl) (by kernel_rfl) (fun _ _ _ h => h) (Or.inl ⟨by kernel_rfl, by intro _ _; kernel_rfl⟩) s0 ?_
  go_simp
  refine wpAnyT_take (i := 1) (v := .string v.name) rfl (by kernel_rfl) (by kernel_rfl) (by kernel_rfl) (by kernel_rfl) (by decide) (by kernel_rfl) (by kernel_rfl) (fun _ _ _ h => h) (Or.inl ⟨by kernel_rfl, by rintro w2 h2; obtain ⟨c0, c1, -⟩ := ebox_all h2.o; go_simp⟩) s0 ?_
  go_simp
  refine wpAnyT_take (i := 2) (v := .pointer (some ⟨w.heap.size, 1, none⟩)) rfl (by kernel_rfl) (by kernel_rfl) (by kernel_rfl) (by kernel_rfl) (by decide) (by kernel_rfl) (by kernel_rfl) (fun _ _ _ h => h) (Or.inl ⟨by kernel_rfl, by intro _ _; kernel_rfl⟩) s0 ?_
  go_simp
  refine wpAnyT_take (i := 3) (v := .slice v.ao v.an v.ac) rfl (by kernel_rfl) (by kernel_rfl) (by kernel_rfl) (by kernel_rfl) (by decide) (by kernel_rfl) (by kernel_rfl) (fun _ _ _ h => h) (Or.inl ⟨by kernel_rfl, by rintro w2 h2; obtain ⟨c0, c1, -⟩ := ebox_all h2.o; go_simp⟩) s0 ?_
  go_simp
  refine wpAnyT_all (rs := [4]) (by kernel_rfl) (by simp) (fun j hj => ?_)
  rw [List.mem_singleton] at hj
  subst hj
  refine wpOp_step rfl (fun K hK => ?_)
  go_simp
  refine (clone_att v.ao v.an v.ac x X0 (h.later s0.bel).a h.la).mono ?_
  rintro e X1 ⟨a4, k4, rfl, r4, hb1, hf4, -⟩
  have s1 := s0.step hb1
  go_simp
  refine hK _ _ ⟨.inr s1, ?_⟩
  clear hK K
  refine wpAnyT_take (i := 5) (v := .agg #[.string v.name, .slice a4 v.an k4]) rfl (by kernel_rfl) (by kernel_rfl) (by kernel_rfl) (by kernel_rfl) (by decide) (by kernel_rfl) (by kernel_rfl) (fun _ _ _ h => h) (Or.inl ⟨by kernel_rfl, by rintro w2 h2; obtain ⟨c0, c1, -⟩ := ebox_all h2.o; go_simp⟩) s1 ?_
  go_simp
  refine wpAnyT_last (by kernel_rfl) (by kernel_rfl) ?_
  refine wpAny_all (rs := [6]) (by kernel_rfl) (by simp) (fun j hj => ?_)
  rw [List.mem_singleton] at hj
  subst hj
  refine wpOp_step rfl (fun K hK => ?_)
  go_simp
  obtain ⟨d0, d1, d2⟩ := ebox_all s1.z
  unfold zeroE at d0 d1
  dsimp only at d0 d1
  go_simp
  refine hK _ _ ?_
  clear hK K
  refine wpAny_done (by kernel_rfl) ?_ _
  have hB : w.heap.size + 1 < X0.heap.size := (Array.getElem?_eq_some_iff.1 s0.z).1
  have hz := s0.bel.size
  have hF : ((X1.setCell ⟨w.heap.size + 1, 0, none⟩ (.string v.name)).setCell ⟨w.heap.size + 1, 1, none⟩ (.slice a4 v.an k4)).heap[w.heap.size + 1]? = some (EV.box ⟨v.name, a4, v.an, k4⟩) := (at_set (at_set s1.z)).trans (by kernel_rfl)
  have hne : ∀ a, a4 = some a → a.block ≠ w.heap.size + 1 := fun a ha => by have := hf4 a ha; omega
  have hR := rd_set (rd_set r4 ⟨w.heap.size + 1, 0, none⟩ (.string v.name) hne) ⟨w.heap.size + 1, 1, none⟩ (.slice a4 v.an k4) hne
  have hB2 := (s1.bel.setCell (p := ⟨w.heap.size + 1, 0, none⟩) (Nat.le_succ _) (.string v.name)).setCell (p := ⟨w.heap.size + 1, 1, none⟩) (Nat.le_succ _) (.slice a4 v.an k4)
  generalize World.setCell _ _ _ = W4 at *
  go_wp2_with fail
  exact bodyPost_ret (w := W4) (results_ent (i := 2) rfl rfl hF) rfl ⟨⟨v.name, a4, v.an, k4⟩, rfl, rfl, rfl, ⟨hR, h.la⟩, fun a ha => Nat.le_trans hz (hf4 a ha), hB2⟩
end Go.Proofs.YtgeafnggodkpaaaGreat.Msg
namespace Go.Proofs.YtgeafnggodkpaaaGreat.Msg
open Go.RowKit Go.Lib Go.Proofs.YtgeafnggodkpaaaGreat.Mem Go.Proofs.YtgeafnggodkpaaaGreat.Tlv

/-- An entry, and what its slice holds. -/
abbrev EP := EV × List (ByteArray × ByteArray)
def enV (l : List EP) : List Value := l.flatMap fun p => p.1.cells.toList
theorem enV_len (l : List EP) : (enV l).length = l.length * 2 := by
  induction l with
  | nil => rfl
  | cons p l ih => simp only [enV, List.flatMap_cons, List.length_append, EV.cells, List.length_cons] at ih ⊢; simp only [List.length_nil]; omega
theorem enV_at : ∀ (l : List EP) (k : Nat) (p : EP), l[k]? = some p → (enV l)[k * 2]? = some (.string p.1.name) ∧ (enV l)[k * 2 + 1]? = some (.slice p.1.ao p.1.an p.1.ac)
  | [], k, p, h => by simp at h
  | q :: l, 0, p, h => by
    obtain rfl : q = p := by simpa using h
    exact ⟨rfl, rfl⟩
  | q :: l, k + 1, p, h => by
    obtain ⟨h1, h2⟩ := enV_at l k p (by simpa using h)
    have e1 : (k + 1) * 2 = k * 2 + 1 + 1 := by omega
    have e : enV (q :: l) = .string q.1.name :: .slice q.1.ao q.1.an q.1.ac :: enV l := rfl
    rw [e, e1]
    exact ⟨h1, h2⟩
/-- A slice of entries that can be read, and each of them. -/
structure EnAt (W : World) (ao : Option Addr) (n cap : Nat) (l : List EP) : Prop where
  r : Rd W 2 ao n cap (enV l)
  each : ∀ p ∈ l, EAt W p.1 p.2
theorem EnAt.later {W W' : World} {ao : Option Addr} {n cap : Nat} {l : List EP} (h : EnAt W ao n cap l) (hb : Below W.heap.size W W') : EnAt W' ao n cap l := ⟨h.r.later hb, fun p hp => (h.each p hp).later hb⟩
theorem EnAt.len {W : World} {ao : Option Addr} {n cap : Nat} {l : List EP} (h : EnAt W ao n cap l) : l.length = n := by have := h.r.1; rw [enV_len] at this; omega

set_option maxRecDepth 100000 in
set_option maxHeartbeats 2000000 in
theorem index_ent (ao : Option Addr) (n cap : Nat) (x : List EP) (w : World) (h : EnAt w ao n cap x) :
    Calls Tryz.prog 135 #[.slice ao n cap, .func (.func 96) #[] #[]] w (GivesI (x.any fun u => !mayEntry u.1 u.2) w) := by
  have lx := h.len
  have hx := h.r
  have LX := Lib.hid lx
  have hcap : n ≤ 9223372036854775807 := by have := hx.2.1; have := hx.2.2.1; unfold maxLen at this; omega
  clear lx
  go_enter Tryz.func135, Tryz.ntmps135
  go_wp2_with fail
  go_loopw [8] (fun p wr => ∃ k : Nat, k ≤ n ∧ p = .int .i64 (k : Int) ∧ Hid ((x.take k).any (fun u => !mayEntry u.1 u.2) = false) ∧ Below w.heap.size w wr) (fun p _ => n - (intOf p).toNat)
  case atStart => exact ⟨0, Nat.zero_le _, rfl, Lib.hid rfl, Below.refl _ _⟩
  case round =>
    obtain ⟨k, hk, rfl, Ht, hbr⟩ := hrel
    by_cases hkn : k < n
    · obtain ⟨b1, o1, rfl, hl1, hc1⟩ := hx.some (by have := hx.le; omega)
      obtain ⟨u, hu⟩ : ∃ u, x[k]? = some u := ⟨_, List.getElem?_eq_getElem (by rw [LX.out]; exact hkn)⟩
      obtain ⟨v1, v2⟩ := enV_at x k u hu
      have c1 := (hbr.cell (p := ⟨b1, o1 + k * 2, none⟩) hl1).trans (hc1 (k * 2) _ v1)
      have c2 : wr.cell? ⟨b1, o1 + k * 2 + 1, none⟩ = _ := (hbr.cell (p := ⟨b1, o1 + (k * 2 + 1), none⟩) hl1).trans (hc1 (k * 2 + 1) _ v2)
      have hE := (h.each u (List.mem_of_getElem? hu)).later hbr
      have hc := fun W (hb : Below wr.heap.size wr W) => mayResult1_any u.1 u.2 W (hE.later hb)
      unfold EV.val EV.cells at hc
      clear v1 v2
      have i0 : (0 : Int) ≤ (k : Int) := by omega
      have i1 : (k : Int) < (n : Int) := by omega
      go_wp2_with fail
      refine (hc _ (by first | exact Below.refl _ _ | exact (Below.refl _ _).alloc (Nat.le_refl _) _)).mono ?_
      rintro e w1 ⟨rfl, hb1⟩
      have hb2 := hbr.trans (hb1.mono hbr.size)
      by_cases hm : (!mayEntry u.1 u.2) = true
      · have Hs := Lib.hid (any_here (fun u : EP => !mayEntry u.1 u.2) x k u hu hm)
        rw [hm]
        go_wp2_with fail
        go_ret
        exact ⟨k, rfl, by rw [Hs.out]; simp, hb2⟩
      · have hm2 : (!mayEntry u.1 u.2) = false := by simpa using hm
        have Hs := Lib.hid (any_next (fun u : EP => !mayEntry u.1 u.2) x k u hu Ht.out hm2)
        rw [hm2]
        go_wp2_with fail
        go_roundw
        case rel => exact ⟨k + 1, by omega, by go_num, Hs, hb2⟩
        case measure => simp [intOf]; omega
    · have Hs : Hid (x.any (fun u => !mayEntry u.1 u.2) = false) := Lib.hid (by have := Ht.out; rw [List.take_of_length_le (by rw [LX.out]; omega)] at this; exact this)
      have hkn2 : k = n := by omega
      subst hkn2
      go_wp2_with fail
      go_ret
      exact ⟨-1, rfl, by rw [Hs.out]; rfl, hbr⟩
set_option maxRecDepth 100000 in
theorem contains_ent (ao : Option Addr) (n cap : Nat) (x : List EP) (w : World) (hx : EnAt w ao n cap x) :
    Calls Tryz.prog 95 #[.slice ao n cap, .func (.func 96) #[] #[]] w (GivesB (x.any fun u => !mayEntry u.1 u.2) w) := by
  go_enter Tryz.func95, Tryz.ntmps95
  go_wp2_with fail
  refine (index_ent _ _ _ x _ hx).mono ?_
  rintro e w1 ⟨r, rfl, hr, hb1⟩
  have Hr := Lib.hid hr
  clear hr
  go_wp2_with fail
  go_ret
  exact ⟨by rw [← Hr.out]; rfl, hb1⟩
end Go.Proofs.YtgeafnggodkpaaaGreat.Msg
namespace Go.Proofs.YtgeafnggodkpaaaGreat.Msg
open Go.RowKit Go.Lib Go.Proofs.YtgeafnggodkpaaaGreat.Mem Go.Proofs.YtgeafnggodkpaaaGreat.Tlv

/-- The same entries. -/
def sameEnts : List EP → List EP → Bool
  | [], [] => true
  | p :: l, q :: m => sameEntry p.1 p.2 q.1 q.2 && sameEnts l m
  | _, _ => false
theorem sameEnts_len : ∀ {l m : List EP}, sameEnts l m = true → l.length = m.length
  | [], [], _ => rfl
  | p :: l, q :: m, h => by
    unfold sameEnts at h
    simp only [Bool.and_eq_true] at h
    simp [sameEnts_len h.2]
  | [], _ :: _, h => by cases h
  | _ :: _, [], h => by cases h
theorem sameEnts_cut : ∀ (l m : List EP) (k : Nat), sameEnts (l.take k) (m.take k) = false → l.length = m.length → sameEnts l m = false
  | [], [], _, h, _ => by simp [sameEnts] at h
  | p :: l, q :: m, 0, h, _ => by simp [sameEnts] at h
  | p :: l, q :: m, k + 1, h, hl => by
    rw [List.take_succ_cons, List.take_succ_cons] at h
    unfold sameEnts at h ⊢
    cases h1 : sameEntry p.1 p.2 q.1 q.2 with
    | false => rfl
    | true =>
      rw [h1, Bool.true_and] at h
      rw [Bool.true_and]
      exact sameEnts_cut l m k h (by simpa using hl)
  | [], _ :: _, _, _, hl => by simp at hl
  | _ :: _, [], _, _, hl => by simp at hl
theorem sameEnts_next : ∀ (l m : List EP) (k : Nat) (p q : EP), l[k]? = some p → m[k]? = some q → sameEnts (l.take (k + 1)) (m.take (k + 1)) = (sameEnts (l.take k) (m.take k) && sameEntry p.1 p.2 q.1 q.2)
  | [], _, k, p, q, h, _ => by simp at h
  | _ :: _, [], k, p, q, _, h => by simp at h
  | a :: l, b :: m, 0, p, q, h1, h2 => by
    obtain rfl : a = p := by simpa using h1
    obtain rfl : b = q := by simpa using h2
    simp [sameEnts]
  | a :: l, b :: m, k + 1, p, q, h1, h2 => by
    have := sameEnts_next l m k p q (by simpa using h1) (by simpa using h2)
    rw [List.take_succ_cons, List.take_succ_cons, List.take_succ_cons, List.take_succ_cons]
    unfold sameEnts
    rw [this, Bool.and_assoc]

set_option maxRecDepth 100000 in
set_option maxHeartbeats 4000000 in
theorem eqfEnt_any (ao bo : Option Addr) (n m cap cbp : Nat) (x y : List EP) (w : World) (hx : EnAt w ao n cap x) (hy : EnAt w bo m cbp y) :
    Calls Tryz.prog 98 #[.slice ao n cap, .slice bo m cbp, .func (.func 99) #[] #[]] w (GivesB (sameEnts x y) w) := by
  have lx := hx.len
  have ly := hy.len
  have hcap : n ≤ 9223372036854775807 := by have := hx.r.2.1; have := hx.r.2.2.1; unfold maxLen at this; omega
  by_cases hnm : n = m
  case neg =>
    have f1 : ((n : Int) == (m : Int)) = false := by rw [beq_eq_false_iff_ne]; omega
    have Hs : Hid (sameEnts x y = false) := Lib.hid (by
      cases h : sameEnts x y with
      | false => rfl
      | true => have := sameEnts_len h; omega)
    clear lx ly
    go_enter Tryz.func98, Tryz.ntmps98
    go_wp2_with fail
    go_ret
    exact ⟨by rw [Hs.out]; rfl, Below.refl _ _⟩
  subst hnm
  have LX := Lib.hid lx
  have LY := Lib.hid ly
  clear lx ly
  go_enter Tryz.func98, Tryz.ntmps98
  go_wp2_with fail
  go_loopw [17] (fun p wr => ∃ k : Nat, k ≤ n ∧ p = .int .i64 (k : Int) ∧ Hid (sameEnts (x.take k) (y.take k) = true) ∧ Below w.heap.size w wr) (fun p _ => n - (intOf p).toNat)
  case atStart => exact ⟨0, Nat.zero_le _, rfl, Lib.hid rfl, Below.refl _ _⟩
  case round =>
    obtain ⟨k, hk, rfl, Ht, hbr⟩ := hrel
    by_cases hkn : k < n
    · obtain ⟨b1, o1, rfl, hl1, hc1⟩ := hx.r.some (by have := hx.r.le; omega)
      obtain ⟨b2, o2, rfl, hl2, hc2⟩ := hy.r.some (by have := hy.r.le; omega)
      obtain ⟨u, hu⟩ : ∃ u, x[k]? = some u := ⟨_, List.getElem?_eq_getElem (by rw [LX.out]; exact hkn)⟩
      obtain ⟨v, hv⟩ : ∃ v, y[k]? = some v := ⟨_, List.getElem?_eq_getElem (by rw [LY.out]; exact hkn)⟩
      obtain ⟨v1, v2⟩ := enV_at x k u hu
      obtain ⟨v3, v4⟩ := enV_at y k v hv
      have c1 := (hbr.cell (p := ⟨b1, o1 + k * 2, none⟩) hl1).trans (hc1 (k * 2) _ v1)
      have c2 : wr.cell? ⟨b1, o1 + k * 2 + 1, none⟩ = _ := (hbr.cell (p := ⟨b1, o1 + (k * 2 + 1), none⟩) hl1).trans (hc1 (k * 2 + 1) _ v2)
      have hbA : Below wr.heap.size wr (wr.alloc u.1.box) := (Below.refl _ _).alloc (Nat.le_refl _) _
      have c3 := ((hbr.trans (hbA.mono hbr.size)).cell (p := ⟨b2, o2 + k * 2, none⟩) hl2).trans (hc2 (k * 2) _ v3)
      have c4 : (wr.alloc u.1.box).cell? ⟨b2, o2 + k * 2 + 1, none⟩ = _ := ((hbr.trans (hbA.mono hbr.size)).cell (p := ⟨b2, o2 + (k * 2 + 1), none⟩) hl2).trans (hc2 (k * 2 + 1) _ v4)
      have hb0 : Below wr.heap.size wr ((wr.alloc u.1.box).alloc v.1.box) := below_two wr _ _
      obtain ⟨k1, k2⟩ := two_boxes wr u.1.box v.1.box
      have hE1 := (hx.each u (List.mem_of_getElem? hu)).later hbr
      have hE2 := (hy.each v (List.mem_of_getElem? hv)).later hbr
      have hc := sameEntry_any u.1 v.1 u.2 v.2 _ (hE1.later hb0) (hE2.later hb0)
      have hnx := sameEnts_next x y k u v hu hv
      rw [Ht.out, Bool.true_and] at hnx
      have HN := Lib.hid hnx
      unfold EV.val EV.box EV.cells at hc
      unfold EV.box EV.cells at c3 c4 hb0 k1 k2 hbA
      clear v1 v2 v3 v4 hnx
      have i0 : (0 : Int) ≤ (k : Int) := by omega
      have i1 : (k : Int) < (n : Int) := by omega
      go_wp2_with fail
      refine hc.mono ?_
      rintro e w1 ⟨rfl, hb1⟩
      have hb2 := hbr.trans ((hb0.trans (hb1.mono hb0.size)).mono hbr.size)
      cases hm : sameEntry u.1 u.2 v.1 v.2 with
      | false =>
        have Hs : Hid (sameEnts x y = false) := Lib.hid (sameEnts_cut x y (k + 1) (by rw [HN.out]; exact hm) (by rw [LX.out, LY.out]))
        clear hm
        go_wp2_with fail
        go_ret
        exact ⟨by rw [Hs.out]; rfl, hb2⟩
      | true =>
        have Hs : Hid (sameEnts (x.take (k + 1)) (y.take (k + 1)) = true) := Lib.hid (by rw [HN.out]; exact hm)
        clear hm
        go_wp2_with fail
        go_roundw
        case rel => exact ⟨k + 1, by omega, by go_num, Hs, hb2⟩
        case measure => simp [intOf]; omega
    · have Hs : Hid (sameEnts x y = true) := Lib.hid (by have := Ht.out; rw [List.take_of_length_le (by rw [LX.out]; omega), List.take_of_length_le (by rw [LY.out]; omega)] at this; exact this)
      have hkn2 : k = n := by omega
      subst hkn2
      go_wp2_with fail
      go_ret
      exact ⟨by rw [Hs.out]; rfl, hbr⟩
end Go.Proofs.YtgeafnggodkpaaaGreat.Msg
namespace Go.Proofs.YtgeafnggodkpaaaGreat.Msg
open Go.RowKit Go.Lib Go.Proofs.YtgeafnggodkpaaaGreat.Mem Go.Proofs.YtgeafnggodkpaaaGreat.Tlv

/-- A result's cells. -/
structure QV where
  code : Int
  yes : Bool
  eo : Option Addr
  en : Nat
  ec : Nat
  co : Option Addr
  cn : Nat
  cc : Nat
def QV.cells (v : QV) : Array Value := #[.int .i64 v.code, .bool v.yes, .slice v.eo v.en v.ec, .slice v.co v.cn v.cc]
def QV.val (v : QV) : Value := .agg v.cells
def QV.box (v : QV) : Obj := .cells v.cells 58
/-- What its slices hold. -/
structure QC where
  ents : List EP
  cursor : List UInt8
structure QAt (W : World) (v : QV) (c : QC) : Prop where
  e : EnAt W v.eo v.en v.ec c.ents
  c : Rd W 1 v.co v.cn v.cc (byV c.cursor)
  lc : v.cn ≤ 1000000000
theorem QAt.later {W W' : World} {v : QV} {c : QC} (h : QAt W v c) (hb : Below W.heap.size W W') : QAt W' v c := ⟨h.e.later hb, h.c.later hb, h.lc⟩
theorem qbox_all {W : World} {B : Nat} {v : QV} (h : W.heap[B]? = some v.box) : W.cell? ⟨B, 0, none⟩ = some (.int .i64 v.code) ∧ W.cell? ⟨B, 1, none⟩ = some (.bool v.yes) ∧ W.cell? ⟨B, 2, none⟩ = some (.slice v.eo v.en v.ec) ∧ W.cell? ⟨B, 3, none⟩ = some (.slice v.co v.cn v.cc) ∧ ∀ i, W.frozen? ⟨B, i, none⟩ = false := by
  unfold QV.box QV.cells at h
  simp [World.cell?, World.frozen?, h]
def sameRes (v : QV) (c : QC) (v' : QV) (c' : QC) : Bool := decide (v.code = v'.code) && (decide (v.yes = v'.yes) && (sameEnts c.ents c'.ents && decide (c.cursor = c'.cursor)))
theorem qtwo_step {w W W' : World} {v v' : QV} (h1 : W.heap[w.heap.size]? = some v.box) (h2 : W.heap[w.heap.size + 1]? = some v'.box) (hb : Below W.heap.size W W') : W'.heap[w.heap.size]? = some v.box ∧ W'.heap[w.heap.size + 1]? = some v'.box :=
  ⟨(hb.block _ (Array.getElem?_eq_some_iff.1 h1).1).trans h1, (hb.block _ (Array.getElem?_eq_some_iff.1 h2).1).trans h2⟩

set_option maxRecDepth 100000 in
set_option maxHeartbeats 4000000 in
theorem sameRes_any (v v' : QV) (c c' : QC) (w : World) (h : QAt w v c) (h' : QAt w v' c') : Calls Tryz.prog 32 #[v.val, v'.val] w (GivesB (sameRes v c v' c') w) := by
  have hb0 : Below w.heap.size w ((w.alloc v.box).alloc v'.box) := below_two w _ _
  obtain ⟨k1, k2⟩ := two_boxes w v.box v'.box
  have hE := eqfEnt_any v.eo v'.eo v.en v'.en v.ec v'.ec c.ents c'.ents _ (h.e.later hb0) (h'.e.later hb0)
  unfold QV.box QV.cells at hb0 k1 k2 hE
  unfold QV.val QV.cells
  by_cases e1 : v.code = v'.code
  case neg =>
    have f1 : (v.code == v'.code) = false := by simp [e1]
    have Hs : Hid (sameRes v c v' c' = false) := Lib.hid (by unfold sameRes; rw [decide_eq_false e1]; simp)
    clear e1 hE
    go_enter Tryz.func32, Tryz.ntmps32
    go_wp2_with fail
    go_ret
    exact ⟨by rw [Hs.out]; rfl, hb0⟩
  have f1 : (v.code == v'.code) = true := by simp [e1]
  by_cases e2 : v.yes = v'.yes
  case neg =>
    have f2 : (v.yes == v'.yes) = false := by simp [e2]
    have Hs : Hid (sameRes v c v' c' = false) := Lib.hid (by unfold sameRes; rw [decide_eq_false e2]; simp)
    clear e1 e2 hE
    go_enter Tryz.func32, Tryz.ntmps32
    go_wp2_with fail
    go_ret
    exact ⟨by rw [Hs.out]; rfl, hb0⟩
  have f2 : (v.yes == v'.yes) = true := by simp [e2]
  have Hs : Hid (sameRes v c v' c' = (sameEnts c.ents c'.ents && decide (c.cursor = c'.cursor))) := Lib.hid (by unfold sameRes; rw [decide_eq_true e1, decide_eq_true e2]; simp)
  clear e1 e2
  go_enter Tryz.func32, Tryz.ntmps32
  go_upto_region 1 with fail
  generalize hg : World.alloc _ _ = W0 at *
  have q1 : W0.heap[w.heap.size]? = some v.box := k1
  have q2 : W0.heap[w.heap.size + 1]? = some v'.box := k2
  clear hg k1 k2
  obtain ⟨c0, c1, c2, c3, -⟩ := qbox_all q1
  obtain ⟨d0, d1, d2, d3, -⟩ := qbox_all q2
  go_wp2_with fail
  refine hE.mono ?_
  rintro e W1 ⟨rfl, hb1⟩
  obtain ⟨q1', q2'⟩ := qtwo_step q1 q2 hb1
  have hbel := hb0.trans (hb1.mono hb0.size)
  clear c0 c1 c2 c3 d0 d1 d2 d3 hE q1 q2
  obtain ⟨c0, c1, c2, c3, -⟩ := qbox_all q1'
  obtain ⟨d0, d1, d2, d3, -⟩ := qbox_all q2'
  cases hm : sameEnts c.ents c'.ents with
  | false =>
    have HM := Lib.hid hm
    clear hm
    go_wp2_with fail
    go_ret
    exact ⟨by rw [Hs.out, HM.out]; rfl, hbel⟩
  | true =>
    have HM := Lib.hid hm
    clear hm
    go_wp2_with fail
    refine (equal_byt v.co v'.co v.cn v'.cn v.cc v'.cc c.cursor c'.cursor W1 (h.c.later hbel) (h'.c.later hbel) h.lc).mono ?_
    rintro e W2 ⟨rfl, hb2⟩
    go_wp2_with fail
    go_ret
    exact ⟨by rw [Hs.out, HM.out, Bool.true_and]; rfl, hbel.trans (hb2.mono hbel.size)⟩
end Go.Proofs.YtgeafnggodkpaaaGreat.Msg
