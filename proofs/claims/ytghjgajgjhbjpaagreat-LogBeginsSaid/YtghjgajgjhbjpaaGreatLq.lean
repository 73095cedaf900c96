/-
  Of, of requests whose operations have no slices.
-/
import Derived.Deep.Cut
import Derived.Test.YtghjgajgjhbjpaaGreatLp
namespace Go.Proofs.YtghjgajgjhbjpaaGreat.Msg
open Go.RowKit Go.Lib Go.Proofs.YtghjgajgjhbjpaaGreat.Mem Go.Proofs.YtghjgajgjhbjpaaGreat.Tlv

/-- An operation without slices. -/
structure Plain (v : OV) : Prop where
  a : v.ao = none
  a1 : v.an = 0
  a2 : v.ac = 0
  b : v.bo = none
  b1 : v.bn = 0
  b2 : v.bc = 0
  c : v.co = none
  c1 : v.cn = 0
  c2 : v.cc = 0
def noC : OC := ⟨[], [], []⟩
theorem Plain.at_ {v : OV} (h : Plain v) (W : World) : OpAt W v noC := by
  obtain ⟨h1, h2, h3, h4, h5, h6, h7, h8, h9⟩ := h
  refine ⟨?_, ?_, ?_, by omega, by omega, by omega⟩
  · rw [h1, h2, h3]; exact Rd.nil _ _
  · rw [h4, h5, h6]; exact Rd.nil _ _
  · rw [h7, h8, h9]; exact Rd.nil _ _
theorem Plain.copy {w : World} {v u : OV} (h : Plain v) (hc : CopyOf w v u) : u = v := by
  obtain ⟨h1, h2, h3, h4, h5, h6, h7, h8, h9⟩ := h
  obtain ⟨e1, e2, e3, e4, e5, e6, e7, -, -, -, n1, n2, n3⟩ := hc
  have m1 := n1 h1
  have m2 := n2 h4
  have m3 := n3 h7
  cases u; cases v
  simp_all
theorem Plain.apart {v : OV} (h : Plain v) (l : Value) : Apart v l := ⟨fun x hx => (by rw [h.a] at hx; cases hx), fun x hx => (by rw [h.b] at hx; cases hx), fun x hx => (by rw [h.c] at hx; cases hx)⟩

/-- A request that may be, of so many bytes. -/
structure ReqOk (r : RV) (z : Int) : Prop where
  pl : Plain r.op
  op : ∃ bl, OpC r.op noC true bl ∧ z = ((bl.length + 31 : Nat) : Int)
  c0 : 0 ≤ r.cl
  n0 : 0 ≤ r.nu

theorem rcell (l : List RV) (k : Nat) (y : RV) (h : l[k]? = some y) (i : Nat) (hi : i < 9) {W : World} {b o : Nat} (hc : ∀ (j : Nat) (u : Value), (reqV l)[j]? = some u → W.cell? ⟨b, o + j, none⟩ = some u) {x : Value} (hx : y.cells[i]? = some x) : W.cell? ⟨b, o + k * 9 + i, none⟩ = some x := by
  rw [Nat.add_assoc]
  exact hc (k * 9 + i) x (by rw [reqV_at l k y h i hi, hx])
theorem rcells (l : List RV) (k : Nat) (y : RV) (h : l[k]? = some y) {W : World} {b o : Nat} (hc : ∀ (j : Nat) (u : Value), (reqV l)[j]? = some u → W.cell? ⟨b, o + j, none⟩ = some u) :
    W.cell? ⟨b, o + k * 9, none⟩ = some (.int .u64 y.cl) ∧ W.cell? ⟨b, o + k * 9 + 1, none⟩ = some (.int .u64 y.nu) ∧ W.cell? ⟨b, o + k * 9 + 2, none⟩ = some (.int .i64 y.op.k) ∧ W.cell? ⟨b, o + k * 9 + 3, none⟩ = some (.string y.op.name) ∧ W.cell? ⟨b, o + k * 9 + 4, none⟩ = some (.string y.op.to) ∧ W.cell? ⟨b, o + k * 9 + 5, none⟩ = some (.slice y.op.ao y.op.an y.op.ac) ∧ W.cell? ⟨b, o + k * 9 + 6, none⟩ = some (.slice y.op.bo y.op.bn y.op.bc) ∧ W.cell? ⟨b, o + k * 9 + 7, none⟩ = some (.slice y.op.co y.op.cn y.op.cc) ∧ W.cell? ⟨b, o + k * 9 + 8, none⟩ = some (.int .i64 y.op.n) :=
  ⟨rcell l k y h 0 (by omega) hc rfl, rcell l k y h 1 (by omega) hc rfl, rcell l k y h 2 (by omega) hc rfl, rcell l k y h 3 (by omega) hc rfl, rcell l k y h 4 (by omega) hc rfl, rcell l k y h 5 (by omega) hc rfl, rcell l k y h 6 (by omega) hc rfl, rcell l k y h 7 (by omega) hc rfl, rcell l k y h 8 (by omega) hc rfl⟩

/-- No request is odd. -/
theorem indexReq_no (ao : Option Addr) (n cap : Nat) (rs : List RV) (w : World) (hx : Rd w 9 ao n cap (reqV rs)) (hok : ∀ (k : Nat) (r : RV), rs[k]? = some r → ∃ z, ReqOk r z) :
    Calls Tryz.prog 103 #[.slice ao n cap, .func (.func 41) #[] #[]] w fun e w' => e = .returned (.int .i64 (-1)) ∧ Below w.heap.size w w' := by
  have lx : rs.length = n := by have := hx.1; rw [reqV_len] at this; omega
  have LX := Lib.hid lx
  have HOK := Lib.hid hok
  have hcap : n ≤ 9223372036854775807 := by have := hx.2.1; have := hx.2.2.1; unfold maxLen at this; omega
  clear lx hok
  go_enter Tryz.func103, Tryz.ntmps103
  go_wp2_with fail
  go_loopw [8] (fun p wr => ∃ k : Nat, k ≤ n ∧ p = .int .i64 (k : Int) ∧ Below w.heap.size w wr) (fun p _ => n - (intOf p).toNat)
  case atStart => exact ⟨0, Nat.zero_le _, rfl, Below.refl _ _⟩
  case round =>
    obtain ⟨k, hk, rfl, hbr⟩ := hrel
    by_cases hkn : k < n
    · obtain ⟨b1, o1, rfl, hl1, hc1⟩ := hx.some (by have := hx.le; omega)
      obtain ⟨u, hu⟩ : ∃ u, rs[k]? = some u := ⟨_, List.getElem?_eq_getElem (by rw [LX.out]; exact hkn)⟩
      obtain ⟨z, hz⟩ := HOK.out k u hu
      obtain ⟨bl, hop, -⟩ := hz.op
      obtain ⟨c0, c1, c2, c3, c4, c5, c6, c7, c8⟩ := rcells rs k u hu (W := wr) (b := b1) (o := o1) (fun j x hj => (hbr.cell (p := ⟨b1, o1 + j, none⟩) hl1).trans (hc1 j x hj))
      have i0 : (0 : Int) ≤ (k : Int) := by omega
      have i1 : (k : Int) < (n : Int) := by omega
      have hcall := of1_any u noC true bl wr (hz.pl.at_ wr) hop
      unfold RV.val RV.cells at hcall
      go_wp2_with fail
      refine hcall.mono ?_
      rintro e w1 ⟨rfl, hb1⟩
      have hb2 := hbr.trans (hb1.mono hbr.size)
      go_wp2_with fail
      go_roundw
      case rel => exact ⟨k + 1, by omega, by go_num, hb2⟩
      case measure => simp [intOf]; omega
    · have hkn2 : k = n := by omega
      subst hkn2
      go_wp2_with fail
      go_ret
      exact ⟨rfl, hbr⟩
theorem containsReq_no (ao : Option Addr) (n cap : Nat) (rs : List RV) (w : World) (hx : Rd w 9 ao n cap (reqV rs)) (hok : ∀ (k : Nat) (r : RV), rs[k]? = some r → ∃ z, ReqOk r z) :
    Calls Tryz.prog 40 #[.slice ao n cap, .func (.func 41) #[] #[]] w (GivesB false w) := by
  go_enter Tryz.func40, Tryz.ntmps40
  go_wp2_with fail
  refine (indexReq_no _ _ _ rs _ hx hok).mono ?_
  rintro e w1 ⟨rfl, hb1⟩
  go_wp2_with fail
  go_ret
  exact ⟨rfl, hb1⟩

theorem LogW.of_len {B g : Nat} {base : Int} {l s : Value} {rs : List RV} {zs : List Int} {W : World} (h : LogW B g base l s rs zs W) {k : Nat} (hk : rs.length = k) : ∃ lo lc so sc, l = .slice lo k lc ∧ s = .slice so k sc ∧ W.ownsRow B 42 9 (.slice lo k lc) k (reqV rs) ∧ W.ownsRow B 3 1 (.slice so k sc) k (intV zs) := by
  subst hk
  obtain ⟨lo, lc, so, sc, e1, e2, -⟩ := h.rd
  subst e1 e2
  exact ⟨lo, lc, so, sc, rfl, rfl, h.own, h.owz⟩

/-- Behind k requests. -/
structure OfAt (w : World) (g : Nat) (base : Int) (rs : List RV) (zs : List Int) (k : Nat) (wr : World) : Prop where
  log : ∃ l s, LogW w.heap.size g base l s (rs.take k) (zs.take k) wr
  bel : Below w.heap.size w wr


set_option maxRecDepth 100000 in
set_option maxHeartbeats 20000000 in
theorem of_ok (base : Int) (ao : Option Addr) (n cap : Nat) (rs : List RV) (zs : List Int) (w : World) (hx : Rd w 9 ao n cap (reqV rs)) (hzl : zs.length = n) (hok : ∀ (k : Nat) (r : RV), rs[k]? = some r → ∃ z, zs[k]? = some z ∧ ReqOk r z)
    (hn : n ≤ 4096) (hsum : zs.sum ≤ 2097152) (hb0 : 0 ≤ base) (hb1 : base ≤ 4611686018427387904) :
    Calls Tryz.prog 9 #[.int .u64 base, .slice ao n cap] w fun e w' => ∃ g l s, e = .returned (.tuple #[.pointer (some ⟨g, 0, none⟩), .int .i64 0]) ∧ LogW w.heap.size g base l s rs zs w' ∧ Below w.heap.size w w' := by
  have hmo : Tryz.prog.follows .mixedOrders = true := by kernel_rfl
  have lx : rs.length = n := by have := hx.1; rw [reqV_len] at this; omega
  have LX := Lib.hid lx
  have HZ := Lib.hid hzl
  have HOK := Lib.hid hok
  have hcont := containsReq_no ao n cap rs w hx (fun k r h => by obtain ⟨z, -, h⟩ := hok k r h; exact ⟨z, h⟩)
  have f1 : decide ((4611686018427387904 : Int) < base) = false := decide_eq_false (by omega)
  have f2 : decide ((4096 : Int) < (n : Int)) = false := decide_eq_false (by omega)
  have hzz : ∀ z ∈ zs, 0 ≤ z ∧ z ≤ 5000000 := by
    intro z hz
    obtain ⟨k, hk, e⟩ := List.getElem_of_mem hz
    have hk2 : k < rs.length := by omega
    obtain ⟨z', h1, h2⟩ := hok k rs[k] (List.getElem?_eq_getElem hk2)
    obtain ⟨bl, h3, h4⟩ := h2.op
    rw [List.getElem?_eq_getElem hk] at h1
    have := Option.some.inj h1
    have := h3.len
    omega
  clear lx hzl hok
  go_enter Tryz.func9, Tryz.ntmps9
  go_wp2_with fail
  refine hcont.mono ?_
  rintro e w1 ⟨rfl, hbc⟩
  go_wp2_with fail
  generalize hWN : w1.alloc _ = WN
  have hbN : Below w1.heap.size w1 WN := by rw [← hWN]; exact (Below.refl _ _).alloc (Nat.le_refl _) _
  have hatN : WN.heap[w1.heap.size]? = some (.cells #[.bool true, .int .u64 base, .slice none 0 0, .slice none 0 0] 84) := by rw [← hWN]; show (w1.heap.push _)[w1.heap.size]? = some _; exact Array.getElem?_push_size
  clear hWN
  have hgw := hbc.size
  have hbw := hbc.trans (hbN.mono hbc.size)
  obtain ⟨g, hg⟩ : ∃ g, w1.heap.size = g := ⟨_, rfl⟩
  rw [hg] at hatN hgw ⊢
  clear hbN hbc hg
  go_loopw [25] (fun p wr => ∃ k : Nat, k ≤ n ∧ p = .int .i64 (k : Int) ∧ OfAt w g base rs zs k wr) (fun p _ => n - (intOf p).toNat)
  case atStart => exact ⟨0, Nat.zero_le _, rfl, ⟨_, _, hatN, hgw, World.ownsRow_nil _ _ _ _, World.ownsRow_nil _ _ _ _⟩, hbw⟩
  case round =>
    obtain ⟨k, hk, rfl, hO⟩ := hrel
    obtain ⟨⟨l, s, hL⟩, hbr⟩ := hO
    have hlk : (rs.take k).length = k := by rw [List.length_take, LX.out]; omega
    obtain ⟨lo, lc, so, sc, rfl, rfl, hol, hos⟩ := hL.of_len hlk
    have hgr := hL.lt
    by_cases hkn : k < n
    · obtain ⟨b1, o1, rfl, hl1, hc1⟩ := hx.some (by have := hx.le; omega)
      obtain ⟨r, hu⟩ : ∃ u, rs[k]? = some u := ⟨_, List.getElem?_eq_getElem (by rw [LX.out]; exact hkn)⟩
      obtain ⟨z, hzk, hz⟩ := HOK.out k r hu
      obtain ⟨bl, hop, hzb⟩ := hz.op
      have Hzb := Lib.hid hzb
      clear hzb
      obtain ⟨c0, c1, c2, c3, c4, c5, c6, c7, c8⟩ := rcells rs k r hu (W := wr) (b := b1) (o := o1) (fun j x hj => (hbr.cell (p := ⟨b1, o1 + j, none⟩) hl1).trans (hc1 j x hj))
      have i0 : (0 : Int) ≤ (k : Int) := by omega
      have i1 : (k : Int) < (n : Int) := by omega
      have hat0 := hL.at_
      go_upto_region 9 with fail
      generalize hgw0 : wr.alloc _ = W0
      have e : wr.alloc r.box = W0 := by simp only [RV.box, RV.cells]; exact hgw0
      have hb0w : Below wr.heap.size wr W0 := by rw [← e]; exact (Below.refl _ _).alloc (Nat.le_refl _) _
      have k1 : W0.heap[wr.heap.size]? = some r.box := by rw [← e]; show (wr.heap.push _)[wr.heap.size]? = some _; exact Array.getElem?_push_size
      clear hgw0 e c0 c1 c2 c3 c4 c5 c6 c7 c8
      have t0 : InApp wr g base (.slice lo k lc) (.slice so k sc) r W0.drew := ⟨k1, (hb0w.block g hgr).trans hat0⟩
      have hb4 : Below wr.heap.size wr W0.drew := hb0w.drew
      have hol4 := own_later hol hb4
      have hos4 := own_later hos hb4
      have hlne : some wr.heap.size ≠ (Value.slice lo k lc).ownBlock := fun e => by have := own_under hol _ e.symm; omega
      have hsne : some wr.heap.size ≠ (Value.slice so k sc).ownBlock := fun e => by have := own_under hos _ e.symm; omega
      have hgne : some g ≠ (Value.slice lo k lc).ownBlock := fun e => own_ne hat0 (by decide) hol e.symm
      have hgne2 : some g ≠ (Value.slice so k sc).ownBlock := fun e => own_ne hat0 (by decide) hos e.symm
      have hsl := rows_ne hos hol (by decide)
      have hpl := hz.pl
      have h1 := hz.c0
      have h2 := hz.n0
      have hbB := hbr.size
      clear k1 hb0w
      refine wp_region_T (k := 20) (S := InApp wr g base (.slice lo k lc) (.slice so k sc) r) hmo ?_
      change wpAnyT _ _ _ _ _ _ _ _ _ (World.drew W0)
      generalize W0.drew = V0 at *
      refine wpAnyT_take (i := 0) (v := .pointer (some ⟨g, 0, none⟩)) rfl (by kernel_rfl) (by kernel_rfl) (by kernel_rfl) (by kernel_rfl) (by decide) (by kernel_rfl) (by kernel_rfl) (fun _ _ _ h => h) (Or.inl ⟨by kernel_rfl, by intro _ _; kernel_rfl⟩) t0 ?_
      go_simp
      refine wpAnyT_take0 (i := 1) (v := .pointer (some ⟨g, 0, none⟩)) rfl (by kernel_rfl) (by kernel_rfl) (by kernel_rfl) (by decide) (fun _ _ _ h => h) (Or.inl ⟨by kernel_rfl, by intro _ _; kernel_rfl⟩) (.inr t0) ?_
      go_simp
      refine wpAnyT_take (i := 2) (v := .pointer (some ⟨g, 0, none⟩)) rfl (by kernel_rfl) (by kernel_rfl) (by kernel_rfl) (by kernel_rfl) (by decide) (by kernel_rfl) (by kernel_rfl) (fun _ _ _ h => h) (Or.inl ⟨by kernel_rfl, by intro _ _; kernel_rfl⟩) t0 ?_
      go_simp
      refine wpAnyT_take (i := 3) (v := .pointer (some ⟨g, 0, none⟩)) rfl (by kernel_rfl) (by kernel_rfl) (by kernel_rfl) (by kernel_rfl) (by decide) (by kernel_rfl) (by kernel_rfl) (fun _ _ _ h => h) (Or.inl ⟨by kernel_rfl, by intro _ _; kernel_rfl⟩) t0 ?_
      go_simp
      refine wpAnyT_take (i := 4) (v := .pointer (some ⟨g, 2, none⟩)) rfl (by kernel_rfl) (by kernel_rfl) (by kernel_rfl) (by kernel_rfl) (by decide) (by kernel_rfl) (by kernel_rfl) (fun _ _ _ h => h) (Or.inl ⟨by kernel_rfl, by intro _ _; kernel_rfl⟩) t0 ?_
      go_simp
      refine wpAnyT_take (i := 5) (v := .slice lo k lc) rfl (by kernel_rfl) (by kernel_rfl) (by kernel_rfl) (by kernel_rfl) (by decide) (by kernel_rfl) (by kernel_rfl) (fun _ _ _ h => h) (Or.inl ⟨by kernel_rfl, by rintro w h; obtain ⟨c0, c1, c2, c3, c4, c5, c6, c7, c8, -⟩ := rbox_all h.1; obtain ⟨d2, d3⟩ := box_cells2 h; go_simp⟩) t0 ?_
      go_simp
      refine wpAnyT_take (i := 6) (v := .agg #[.int .u64 r.cl, .int .u64 r.nu, .int .i64 r.op.k, .string r.op.name, .string r.op.to, .slice r.op.ao r.op.an r.op.ac, .slice r.op.bo r.op.bn r.op.bc, .slice r.op.co r.op.cn r.op.cc, .int .i64 r.op.n]) rfl (by kernel_rfl) (by kernel_rfl) (by kernel_rfl) (by kernel_rfl) (by decide) (by kernel_rfl) (by kernel_rfl) (fun _ _ _ h => h) (Or.inl ⟨by kernel_rfl, by rintro w h; obtain ⟨c0, c1, c2, c3, c4, c5, c6, c7, c8, -⟩ := rbox_all h.1; obtain ⟨d2, d3⟩ := box_cells2 h; go_simp⟩) t0 ?_
      go_simp
      refine wpAnyT_take (i := 10) (v := .pointer (some ⟨g, 0, none⟩)) rfl (by kernel_rfl) (by kernel_rfl) (by kernel_rfl) (by kernel_rfl) (by decide) (by kernel_rfl) (by kernel_rfl) (fun _ _ _ h => h) (Or.inl ⟨by kernel_rfl, by intro _ _; kernel_rfl⟩) t0 ?_
      go_simp
      refine wpAnyT_take (i := 11) (v := .pointer (some ⟨g, 0, none⟩)) rfl (by kernel_rfl) (by kernel_rfl) (by kernel_rfl) (by kernel_rfl) (by decide) (by kernel_rfl) (by kernel_rfl) (fun _ _ _ h => h) (Or.inl ⟨by kernel_rfl, by intro _ _; kernel_rfl⟩) t0 ?_
      go_simp
      refine wpAnyT_take (i := 12) (v := .pointer (some ⟨g, 3, none⟩)) rfl (by kernel_rfl) (by kernel_rfl) (by kernel_rfl) (by kernel_rfl) (by decide) (by kernel_rfl) (by kernel_rfl) (fun _ _ _ h => h) (Or.inl ⟨by kernel_rfl, by intro _ _; kernel_rfl⟩) t0 ?_
      go_simp
      refine wpAnyT_take (i := 13) (v := .slice so k sc) rfl (by kernel_rfl) (by kernel_rfl) (by kernel_rfl) (by kernel_rfl) (by decide) (by kernel_rfl) (by kernel_rfl) (fun _ _ _ h => h) (Or.inl ⟨by kernel_rfl, by rintro w h; obtain ⟨c0, c1, c2, c3, c4, c5, c6, c7, c8, -⟩ := rbox_all h.1; obtain ⟨d2, d3⟩ := box_cells2 h; go_simp⟩) t0 ?_
      go_simp
      refine wpAnyT_take (i := 14) (v := .agg #[.int .u64 r.cl, .int .u64 r.nu, .int .i64 r.op.k, .string r.op.name, .string r.op.to, .slice r.op.ao r.op.an r.op.ac, .slice r.op.bo r.op.bn r.op.bc, .slice r.op.co r.op.cn r.op.cc, .int .i64 r.op.n]) rfl (by kernel_rfl) (by kernel_rfl) (by kernel_rfl) (by kernel_rfl) (by decide) (by kernel_rfl) (by kernel_rfl) (fun _ _ _ h => h) (Or.inl ⟨by kernel_rfl, by rintro w h; obtain ⟨c0, c1, c2, c3, c4, c5, c6, c7, c8, -⟩ := rbox_all h.1; obtain ⟨d2, d3⟩ := box_cells2 h; go_simp⟩) t0 ?_
      go_simp
      refine wpAnyT_all (rs := [7]) (by kernel_rfl) (by simp) (fun j hj => ?_)
      rw [List.mem_singleton] at hj
      subst hj
      refine wpOp_step rfl (fun K hK => ?_)
      go_simp
      have hcp := copyReq_any r noC V0 (hpl.at_ V0)
      unfold RV.val RV.cells at hcp
      refine hcp.mono ?_
      rintro e V1 ⟨u, rfl, hcu, -, hv1⟩
      have hur := hpl.copy hcu
      subst hur
      clear hcu
      have t1 := t0.step hv1
      simp only [RV.val, RV.cells]
      go_simp
      refine hK _ _ ⟨.inr t1, ?_⟩
      clear hK K
      refine wpAnyT_all (rs := [8]) (by kernel_rfl) (by simp) (fun j hj => ?_)
      rw [List.mem_singleton] at hj
      subst hj
      refine wpOp_step rfl (fun K hK => ?_)
      go_simp
      generalize hgw8 : V1.alloc _ = V1a
      have e8 : V1.alloc (.cells r.cells 42) = V1a := by simp only [RV.cells]; exact hgw8
      have hb8 : Below V1.heap.size V1 V1a := by rw [← e8]; exact (Below.refl _ _).alloc (Nat.le_refl _) _
      have hr8 : Rd V1a 9 (some ⟨V1.heap.size, 0, none⟩) 1 1 r.cells.toList := by rw [← e8]; exact Rd.new V1 r.cells.toList 42 (0, 0) 9 1 (by simp [RV.cells]) (by decide)
      clear hgw8 e8
      have t2 := t1.step hb8
      refine hK _ _ ⟨.inr t2, ?_⟩
      clear hK K
      refine wpAnyT_all (rs := [9]) (by kernel_rfl) (by simp) (fun j hj => ?_)
      rw [List.mem_singleton] at hj
      subst hj
      refine wpOp_step rfl (fun K hK => ?_)
      refine step_app rfl (.tmp 34) (.tmp 37) 23 rfl w.heap.size 42 zeroR.val 9 136 sliceT_req (.slice lo k lc) k (reqV (rs.take k)) rfl (own_later (own_later hol4 hv1) hb8) (some ⟨V1.heap.size, 0, none⟩) 1 1 r.cells.toList rfl hr8 (cells_one _) (by unfold maxLen; omega) (by omega) (by have := hb4.size; have := hv1.size; have := hb8.size; omega) ?_
      intro ao1 cap1 V2 own1 gr1 bel1 _
      have t3 := t2.grown gr1 (fun e => hlne e) (hgne)
      refine hK _ _ ⟨.inr t3, ?_⟩
      clear hK K
      refine wpAnyT_all (rs := [15]) (by kernel_rfl) (by simp) (fun j hj => ?_)
      rw [List.mem_singleton] at hj
      subst hj
      refine wpOp_step rfl (fun K hK => ?_)
      go_simp
      have hby2 := bytes_any r noC bl V2 (hpl.at_ V2) hop h1 h2
      rw [← Hzb.out] at hby2
      unfold RV.val RV.cells at hby2
      refine hby2.mono ?_
      rintro e V3 ⟨rfl, hv3⟩
      have t4 := t3.step hv3
      go_simp
      refine hK _ _ ⟨.inr t4, ?_⟩
      clear hK K
      refine wpAnyT_all (rs := [16]) (by kernel_rfl) (by simp) (fun j hj => ?_)
      rw [List.mem_singleton] at hj
      subst hj
      refine wpOp_step rfl (fun K hK => ?_)
      go_simp
      generalize hgw16 : V3.alloc _ = V3a
      have e16 : V3.alloc (.cells #[.int .i64 z] 3) = V3a := hgw16
      have hb16 : Below V3.heap.size V3 V3a := by rw [← e16]; exact (Below.refl _ _).alloc (Nat.le_refl _) _
      have hr16 : Rd V3a 1 (some ⟨V3.heap.size, 0, none⟩) 1 1 [.int .i64 z] := by rw [← e16]; exact Rd.new V3 [.int .i64 z] 3 (0, 0) 1 1 rfl (by decide)
      clear hgw16 e16
      have t5 := t4.step hb16
      refine hK _ _ ⟨.inr t5, ?_⟩
      clear hK K
      refine wpAnyT_all (rs := [17]) (by kernel_rfl) (by simp) (fun j hj => ?_)
      rw [List.mem_singleton] at hj
      subst hj
      refine wpOp_step rfl (fun K hK => ?_)
      refine step_app rfl (.tmp 42) (.tmp 45) 82 rfl w.heap.size 3 (.int .i64 0) 1 8 sliceT_int (.slice so k sc) k (intV (zs.take k)) rfl (own_later (own_later (own_grown (own_later (own_later hos4 hv1) hb8) gr1 hsl) hv3) hb16) (some ⟨V3.heap.size, 0, none⟩) 1 1 [.int .i64 z] rfl hr16 (one1 _ rfl) (by unfold maxLen; omega) (by omega) (by have := hb4.size; have := hv1.size; have := hb8.size; have := gr1.size; have := hv3.size; have := hb16.size; omega) ?_
      intro ao2 cap2 V5 own2 gr2 bel2 _
      have t6 := t5.grown gr2 (fun e => hsne e) (hgne2)
      refine hK _ _ ⟨.inr t6, ?_⟩
      clear hK K
      refine wpAnyT_take (i := 18) (v := .pointer (some ⟨g, 0, none⟩)) rfl (by kernel_rfl) (by kernel_rfl) (by kernel_rfl) (by kernel_rfl) (by decide) (by kernel_rfl) (by kernel_rfl) (fun _ _ _ h => h) (Or.inl ⟨by kernel_rfl, by intro _ _; kernel_rfl⟩) t6 ?_
      go_simp
      refine wpAnyT_take (i := 19) (v := .pointer (some ⟨g, 2, none⟩)) rfl (by kernel_rfl) (by kernel_rfl) (by kernel_rfl) (by kernel_rfl) (by decide) (by kernel_rfl) (by kernel_rfl) (fun _ _ _ h => h) (Or.inl ⟨by kernel_rfl, by intro _ _; kernel_rfl⟩) t6 ?_
      go_simp
      have hat5 := t6.2
      have d2 : V5.cell? ⟨g, 2, none⟩ = some (.slice lo k lc) := by simp [World.cell?, hat5]
      have d3 : V5.cell? ⟨g, 3, none⟩ = some (.slice so k sc) := by simp [World.cell?, hat5]
      have dF : ∀ i, V5.frozen? ⟨g, i, none⟩ = false := by simp [World.frozen?, hat5]
      refine wpAnyT_last (by kernel_rfl) (by kernel_rfl) ?_
      refine wpAny_all (rs := [20]) (by kernel_rfl) (by simp) (fun j hj => ?_)
      rw [List.mem_singleton] at hj
      subst hj
      refine wpOp_step rfl (fun K hK => ?_)
      go_simp
      refine hK _ _ ?_
      clear hK K
      refine wpAny_all (rs := [21]) (by kernel_rfl) (by simp) (fun j hj => ?_)
      rw [List.mem_singleton] at hj
      subst hj
      refine wpOp_step rfl (fun K hK => ?_)
      go_simp
      refine hK _ _ ?_
      clear hK K
      refine wpAny_all (rs := [22]) (by kernel_rfl) (by simp) (fun j hj => ?_)
      rw [List.mem_singleton] at hj
      subst hj
      refine wpOp_step rfl (fun K hK => ?_)
      go_simp
      refine hK _ _ ?_
      clear hK K
      refine wpAny_all (rs := [23]) (by kernel_rfl) (by simp) (fun j hj => ?_)
      rw [List.mem_singleton] at hj
      subst hj
      refine wpOp_step rfl (fun K hK => ?_)
      go_simp
      refine hK _ _ ?_
      clear hK K
      refine wpAny_done (by kernel_rfl) ?_ _
      have q0 := hv1.size
      have q1 := hb8.size
      have q2 := gr1.size
      have q3 := hv3.size
      have q4 := hb16.size
      have q5 := gr2.size
      have qv := hb4.size
      have own1b := own_later (own_later own1 hv3) hb16
      have owzb := own_later (own_later (own_grown (own_later (own_later hos4 hv1) hb8) gr1 hsl) hv3) hb16
      have own5 := own_grown own1b gr2 (rows_ne own1b owzb (by decide))
      have hne1 := own_ne hat5 (by decide) own5
      have hne2 := own_ne hat5 (by decide) own2
      have own6 := ownsRow_setCell_other (ownsRow_setCell_other own5 (a := ⟨g, 2, none⟩) hne1 (.slice ao1 (k + 1) cap1)) (a := ⟨g, 3, none⟩) hne1 (.slice ao2 (k + 1) cap2)
      have owz6 := ownsRow_setCell_other (ownsRow_setCell_other own2 (a := ⟨g, 2, none⟩) hne2 (.slice ao1 (k + 1) cap1)) (a := ⟨g, 3, none⟩) hne2 (.slice ao2 (k + 1) cap2)
      have hat6 := (at_set (i := 3) (x := .slice ao2 (k + 1) cap2) (at_set (i := 2) (x := .slice ao1 (k + 1) cap1) hat5)).trans (by kernel_rfl : _ = some (Obj.cells #[.bool true, .int .u64 base, .slice ao1 (k + 1) cap1, .slice ao2 (k + 1) cap2] 84))
      have hB5 : Below w.heap.size w V5 := by
        have x1 : Below w.heap.size w V1a := ((hbr.trans (hb4.mono (by omega))).trans (hv1.mono (by omega))).trans (hb8.mono (by omega))
        exact ((x1.trans bel1).trans ((hv3.mono (by omega)).trans (hb16.mono (by omega)))).trans bel2
      have hB6 := (hB5.setCell (p := ⟨g, 2, none⟩) hgw (.slice ao1 (k + 1) cap1)).setCell (p := ⟨g, 3, none⟩) hgw (.slice ao2 (k + 1) cap2)
      have ht1 : rs.take (k + 1) = rs.take k ++ [r] := by
        obtain ⟨hl', he'⟩ := List.getElem?_eq_some_iff.1 hu
        rw [List.take_succ_eq_append_getElem hl', he']
      have ht2 : zs.take (k + 1) = zs.take k ++ [z] := by
        obtain ⟨hl', he'⟩ := List.getElem?_eq_some_iff.1 hzk
        rw [List.take_succ_eq_append_getElem hl', he']
      have hnext : OfAt w g base rs zs (k + 1) ((V5.setCell ⟨g, 2, none⟩ (.slice ao1 (k + 1) cap1)).setCell ⟨g, 3, none⟩ (.slice ao2 (k + 1) cap2)) := by
        refine ⟨⟨_, _, hat6, hgw, ?_, ?_⟩, hB6⟩
        · rw [ht1, show (rs.take k ++ [r]).length = k + 1 from by rw [List.length_append, hlk]; rfl, show reqV (rs.take k ++ [r]) = reqV (rs.take k) ++ r.cells.toList from by simp [reqV]]
          exact own6
        · rw [ht1, ht2, show (rs.take k ++ [r]).length = k + 1 from by rw [List.length_append, hlk]; rfl, show intV (zs.take k ++ [z]) = intV (zs.take k) ++ [.int .i64 z] from by simp [intV]]
          exact owz6
      have Hn := Lib.hid hnext
      clear hnext own6 owz6 own5 own1b owzb own1 own2 bel1 bel2 hB5 hB6 t0 t1 t2 t3 t4 t5 t6 d2 d3 dF hr8 hr16 hat5 hat6 ht1 ht2
      generalize (V5.setCell ⟨g, 2, none⟩ (.slice ao1 (k + 1) cap1)).setCell ⟨g, 3, none⟩ (.slice ao2 (k + 1) cap2) = V6 at *
      go_wp2_with fail
      go_roundw
      case rel => exact ⟨k + 1, by omega, by go_num, Hn.out⟩
      case measure => simp [intOf]; omega
    · have hkn2 : k = n := by omega
      subst hkn2
      rw [List.take_of_length_le (by rw [LX.out]; omega), List.take_of_length_le (by rw [HZ.out]; omega)] at hL
      obtain ⟨lo', lc', so', sc', e1, e2, hR⟩ := hL.rd
      rw [LX.out] at e1 e2 hR
      have f6 : decide ((2097152 : Int) < zs.sum) = false := decide_eq_false (by omega)
      clear hos hol
      go_wp2_with fail
      refine (size_any true g base k _ _ _ _ rs zs wr hR (by omega) hzz).mono ?_
      rintro e w2 ⟨rfl, rfl⟩
      go_wp2_with fail
      go_ret2
      exact ⟨g, _, _, rfl, hL, hbr⟩
end Go.Proofs.YtghjgajgjhbjpaaGreat.Msg
