/-
  The document's log: Append.
-/
import Derived.Test.YtghjgajgjhbjpaaGreatPk
namespace Go.Proofs.YtghjgajgjhbjpaaGreat.Msg
open Go.RowKit Go.Lib Go.Proofs.YtghjgajgjhbjpaaGreat.Mem Go.Proofs.YtghjgajgjhbjpaaGreat.Utf Go.Proofs.YtghjgajgjhbjpaaGreat.Tlv

/-- All blocks stay but one. -/
structure ButG (B g : Nat) (w W : World) : Prop where
  bel : Below B w W
  oth : ∀ k, k < w.heap.size → k ≠ g → W.heap[k]? = w.heap[k]?
/-- A string, or a byte: what an operation's slices hold. -/
def plainCell : Value → Bool
  | .string _ => true
  | .int .u8 _ => true
  | _ => false
theorem rd_apart {W W' : World} {g size : Nat} {ao : Option Addr} {n cap : Nat} {xs : List Value} (h : Rd W size ao n cap xs) (hz : W.heap.size ≤ W'.heap.size) (hg : ∀ i u, W.cell? ⟨g, i, none⟩ = some u → plainCell u = false) (ho : ∀ k, k < W.heap.size → k ≠ g → W'.heap[k]? = W.heap[k]?) (hx : ∀ u ∈ xs, plainCell u = true) : Rd W' size ao n cap xs := by
  obtain ⟨h1, h2, h3, h4, h5⟩ := h
  refine ⟨h1, h2, h3, h4, fun h0 a ha => ?_⟩
  obtain ⟨s, l, c⟩ := h5 h0 a ha
  refine ⟨s, Nat.lt_of_lt_of_le l hz, fun j u hu => ?_⟩
  have hc := c j u hu
  by_cases hb : a.block = g
  · rw [hb] at hc
    have := hg _ u hc
    rw [hx u (List.mem_of_getElem? hu)] at this
    cases this
  · exact (World.cell?_of_block (a := ⟨a.block, a.off + j, none⟩) (ho _ l hb)).trans hc
theorem OpAt.apart {W W' : World} {g : Nat} {v : OV} {c : OC} (h : OpAt W v c) (hz : W.heap.size ≤ W'.heap.size) (hg : ∀ i u, W.cell? ⟨g, i, none⟩ = some u → plainCell u = false) (ho : ∀ k, k < W.heap.size → k ≠ g → W'.heap[k]? = W.heap[k]?) : OpAt W' v c := by
  refine ⟨rd_apart h.a hz hg ho ?_, rd_apart h.b hz hg ho ?_, rd_apart h.c hz hg ho ?_, h.la, h.lb, h.lc⟩
  · intro u hu
    simp only [atV, List.mem_flatMap, List.mem_cons, List.not_mem_nil, or_false] at hu
    obtain ⟨x, -, rfl | rfl⟩ := hu <;> rfl
  · intro u hu
    simp only [txV, List.mem_map] at hu
    obtain ⟨x, -, rfl⟩ := hu
    rfl
  · intro u hu
    simp only [byV, List.mem_map] at hu
    obtain ⟨x, -, rfl⟩ := hu
    rfl
theorem log_cells {W : World} {g : Nat} {base : Int} {lo : Option Addr} {n lc : Nat} {t : TypeId} (h : W.heap[g]? = some (.cells #[.int .u64 base, .slice lo n lc] t)) : ∀ i u, W.cell? ⟨g, i, none⟩ = some u → plainCell u = false := by
  intro i u hu
  simp only [World.cell?, h] at hu
  match i, hu with
  | 0, hu => cases hu; rfl
  | 1, hu => cases hu; rfl
  | k + 2, hu => simp at hu
theorem own_ge {W : World} {B size n : Nat} {e : TypeId} {v : Value} {xs : List Value} (h : W.ownsRow B e size v n xs) : ∀ k, v.ownBlock = some k → B ≤ k := by
  intro k hk
  rcases h.2 with ⟨rfl, -⟩ | ⟨g, cap, cur, rfl, hb, -, -⟩
  · cases hk
  · have : g = k := by simpa [Value.ownBlock] using hk
    omega
theorem reqV_one (l : List RV) : ∀ u ∈ reqV l, u.oneCell' = true := by
  intro u hu
  simp only [reqV, List.mem_flatMap] at hu
  obtain ⟨r, -, hr⟩ := hu
  exact cells_one r u hr

/-- What the document's Append answers. -/
def apErr (ps : List RP) (p : RP) : Int := if mayP p = false then 2 else if 4096 ≤ ps.length ∨ 2097152 < (ps.map szP).sum + szP p then 10 else 0
def GivesAp (B g : Nat) (base : Int) (n : Nat) (ps : List RP) (p : RP) (w : World) (e : Ending) (w' : World) : Prop :=
  if apErr ps p = 0 then e = .returned (.tuple #[.int .u64 (base + n + 1), .int .i64 0]) ∧ ∃ a lc', RefAt g base (some a) (n + 1) lc' (ps ++ [p]) w' ∧ ButG B g w w' ∧ w.heap.size ≤ a.block
  else e = .returned (.tuple #[.int .u64 0, .int .i64 (apErr ps p)]) ∧ Below w.heap.size w w'

set_option maxRecDepth 100000 in
set_option maxHeartbeats 20000000 in
theorem rAppend_any (B g : Nat) (base : Int) (lo : Option Addr) (n lc : Nat) (ps : List RP) (r : RV) (c : OC) (w : World) (h : RefAt g base lo n lc ps w) (hBg : B ≤ g) (ho : OpAt w r.op c) (hf1 : FitP (r, c)) (hn : n ≤ 4096) (hm : ∀ p ∈ ps, mayP p = true) (hf : ∀ p ∈ ps, FitP p) (h0 : 0 ≤ base) (h1 : base ≤ 9000000000000000000) :
    Calls Tryz.prog 46 #[.pointer (some ⟨g, 0, none⟩), r.val] w (GivesAp B g base n ps (r, c) w) := by
  have hmo : Tryz.prog.follows .mixedOrders = true := by kernel_rfl
  have LX := Lib.hid h.rq.len
  have hgw : g < w.heap.size := (Array.getElem?_eq_some_iff.1 h.at_).1
  have hsz := sum_le (ps.map szP) h.rq.sizes
  have hlenm : (ps.map szP).length ≤ 4096 := by rw [List.length_map, LX.out]; exact hn
  have hsp := szP_le (p := (r, c)) ho
  have hb0 : Below w.heap.size w (w.alloc r.box) := (Below.refl _ _).alloc (Nat.le_refl _) _
  have k0 : (w.alloc r.box).heap[w.heap.size]? = some r.box := by show (w.heap.push _)[w.heap.size]? = some _; exact Array.getElem?_push_size
  unfold RV.box RV.cells at hb0 k0
  unfold RV.val RV.cells
  go_enter Tryz.func46, Tryz.ntmps46
  go_upto_region 1 with fail
  generalize hg : w.alloc _ = W0 at *
  have k1 : W0.heap[w.heap.size]? = some r.box := k0
  clear hg k0
  obtain ⟨c0, c1, c2, c3, c4, c5, c6, c7, c8, -⟩ := rbox_all k1
  have hmay := rmay_any r c W0 (ho.later hb0)
  unfold RV.val RV.cells at hmay
  go_wp2_with fail
  refine hmay.mono ?_
  rintro e w1 ⟨rfl, hb1⟩
  have hB1 := hb0.trans (hb1.mono hb0.size)
  have q1 := (hb1.block _ (Array.getElem?_eq_some_iff.1 k1).1).trans k1
  clear c0 c1 c2 c3 c4 c5 c6 c7 c8 hmay hb1 k1 hb0
  cases hmy : mayOp r.op c
  · have HE : Hid (apErr ps (r, c) = 2) := Lib.hid (by unfold apErr mayP; rw [if_pos hmy])
    clear hmy
    go_wp2_with fail
    go_ret2
    unfold GivesAp
    rw [HE.out, if_neg (by decide)]
    exact ⟨rfl, hB1⟩
  have HMY := Lib.hid hmy
  have HE0 : Hid (apErr ps (r, c) = if 4096 ≤ ps.length ∨ 2097152 < (ps.map szP).sum + szP (r, c) then 10 else 0) := Lib.hid (by unfold apErr mayP; rw [if_neg (by rw [hmy]; decide)])
  clear hmy
  go_upto_region 3 with fail
  have s0 : RefAt g base lo n lc ps w1.drew ∧ w1.drew.heap[w.heap.size]? = some r.box := ⟨h.later hB1.drew, q1⟩
  have hBd : Below w.heap.size w w1.drew := hB1.drew
  by_cases hlong : 4096 ≤ n
  · have f2 : decide ((4096 : Int) ≤ (n : Int)) = true := decide_eq_true (by omega)
    have HE : Hid (apErr ps (r, c) = 10) := Lib.hid (by rw [HE0.out, if_pos (.inl (by rw [LX.out]; exact hlong))])
    clear hlong
    refine wp_region_held (S := fun W => RefAt g base lo n lc ps W ∧ W.heap[w.heap.size]? = some r.box) hmo ?_
    change wpAnyH _ _ _ _ _ _ _ _ (World.drew w1)
    generalize World.drew w1 = W1 at *
    refine wpAnyH_take (i := 0) (v := .pointer (some ⟨g, 0, none⟩)) rfl (by kernel_rfl) (by kernel_rfl) (by kernel_rfl) (fun _ _ _ h => h) (Or.inl ⟨by kernel_rfl, by intro _ _; kernel_rfl⟩) s0 ?_
    go_simp
    refine wpAnyH_take (i := 1) (v := .pointer (some ⟨g, 0, none⟩)) rfl (by kernel_rfl) (by kernel_rfl) (by kernel_rfl) (fun _ _ _ h => h) (Or.inl ⟨by kernel_rfl, by intro _ _; kernel_rfl⟩) s0 ?_
    go_simp
    refine wpAnyH_take (i := 2) (v := .pointer (some ⟨g, 1, none⟩)) rfl (by kernel_rfl) (by kernel_rfl) (by kernel_rfl) (fun _ _ _ h => h) (Or.inl ⟨by kernel_rfl, by intro _ _; kernel_rfl⟩) s0 ?_
    go_simp
    refine wpAnyH_take (i := 3) (v := .slice lo n lc) rfl (by kernel_rfl) (by kernel_rfl) (by kernel_rfl) (fun _ _ _ h => h) (Or.inl ⟨by kernel_rfl, by rintro w h; obtain ⟨e0, e1, -⟩ := h.1.cells; obtain ⟨c0, c1, c2, c3, c4, c5, c6, c7, c8, -⟩ := rbox_all h.2; go_simp⟩) s0 ?_
    go_simp
    refine wpAnyH_take (i := 4) (v := .int .i64 (n : Int)) rfl (by kernel_rfl) (by kernel_rfl) (by kernel_rfl) (fun _ _ _ h => h) (Or.inl ⟨by kernel_rfl, by rintro w h; obtain ⟨e0, e1, -⟩ := h.1.cells; obtain ⟨c0, c1, c2, c3, c4, c5, c6, c7, c8, -⟩ := rbox_all h.2; go_simp⟩) s0 ?_
    go_simp
    refine wpAnyH_take (i := 5) (v := .bool true) rfl (by kernel_rfl) (by kernel_rfl) (by kernel_rfl) (fun _ _ _ h => h) (Or.inl ⟨by kernel_rfl, by rintro w h; obtain ⟨e0, e1, -⟩ := h.1.cells; obtain ⟨c0, c1, c2, c3, c4, c5, c6, c7, c8, -⟩ := rbox_all h.2; go_simp⟩) s0 ?_
    go_simp
    refine wpAnyH_take (i := 6) (v := .bool true) rfl (by kernel_rfl) (by kernel_rfl) (by kernel_rfl) (fun _ _ _ h => h) (Or.inl ⟨by kernel_rfl, by intro _ _; kernel_rfl⟩) s0 ?_
    go_simp
    refine wpAnyH_take (i := 7) (v := undef) rfl (by kernel_rfl) (by kernel_rfl) (by kernel_rfl) (fun _ _ _ h => h) (Or.inr ⟨by kernel_rfl, rfl⟩) s0 ?_
    go_simp
    refine wpAnyH_take (i := 8) (v := undef) rfl (by kernel_rfl) (by kernel_rfl) (by kernel_rfl) (fun _ _ _ h => h) (Or.inr ⟨by kernel_rfl, rfl⟩) s0 ?_
    go_simp
    refine wpAnyH_take (i := 9) (v := undef) rfl (by kernel_rfl) (by kernel_rfl) (by kernel_rfl) (fun _ _ _ h => h) (Or.inr ⟨by kernel_rfl, rfl⟩) s0 ?_
    go_simp
    refine wpAnyH_take (i := 10) (v := undef) rfl (by kernel_rfl) (by kernel_rfl) (by kernel_rfl) (fun _ _ _ h => h) (Or.inr ⟨by kernel_rfl, rfl⟩) s0 ?_
    go_simp
    refine wpAnyH_take (i := 11) (v := undef) rfl (by kernel_rfl) (by kernel_rfl) (by kernel_rfl) (fun _ _ _ h => h) (Or.inr ⟨by kernel_rfl, rfl⟩) s0 ?_
    go_simp
    refine wpAnyH_take (i := 12) (v := undef) rfl (by kernel_rfl) (by kernel_rfl) (by kernel_rfl) (fun _ _ _ h => h) (Or.inr ⟨by kernel_rfl, rfl⟩) s0 ?_
    go_simp
    refine wpAnyH_take (i := 13) (v := undef) rfl (by kernel_rfl) (by kernel_rfl) (by kernel_rfl) (fun _ _ _ h => h) (Or.inr ⟨by kernel_rfl, rfl⟩) s0 ?_
    go_simp
    refine wpAnyH_take (i := 14) (v := .bool true) rfl (by kernel_rfl) (by kernel_rfl) (by kernel_rfl) (fun _ _ _ h => h) (Or.inl ⟨by kernel_rfl, by intro _ _; kernel_rfl⟩) s0 ?_
    go_simp
    refine wpAnyH_done (by kernel_rfl) ?_ _
    go_wp2_with fail
    go_ret2
    unfold GivesAp
    rw [HE.out, if_neg (by decide)]
    exact ⟨rfl, hBd⟩
  have f2 : decide ((4096 : Int) ≤ (n : Int)) = false := decide_eq_false (by omega)
  have hsum : IntKind.wrap .i64 ((ps.map szP).sum + szP (r, c)) = (ps.map szP).sum + szP (r, c) := by rw [IntKind.wrap_i64]; omega
  obtain ⟨Z, hZ⟩ : ∃ Z, reqL r (opBy r.op c) = Z := ⟨_, rfl⟩
  have HZ : Hid ((Z.length : Int) = szP (r, c)) := Lib.hid (by rw [← hZ, reqL_len]; rfl)
  have hcallZ : ∀ W, OpAt W r.op c → Calls Tryz.prog 34 #[r.val] W (GivesO W Z) := fun W hW => by
    have := rReqBytes_any r c W hW HMY.out hf1.c0 hf1.c1 hf1.n0 hf1.n1
    rw [hZ] at this
    exact this
  unfold RV.val RV.cells at hcallZ
  have hnn : n ≤ 1000000 := by omega
  have LN := Lib.hid hlong
  clear hZ hlong hsz hlenm hsp
  by_cases hbig : 2097152 < (ps.map szP).sum + szP (r, c)
  · have f3 : decide (2097152 < (ps.map szP).sum + szP (r, c)) = true := decide_eq_true hbig
    have HE : Hid (apErr ps (r, c) = 10) := Lib.hid (by rw [HE0.out, if_pos (.inr hbig)])
    clear hbig
    refine wp_region_held (S := fun W => RefAt g base lo n lc ps W ∧ W.heap[w.heap.size]? = some r.box) hmo ?_
    change wpAnyH _ _ _ _ _ _ _ _ (World.drew w1)
    generalize World.drew w1 = W1 at *
    refine wpAnyH_take (i := 0) (v := .pointer (some ⟨g, 0, none⟩)) rfl (by kernel_rfl) (by kernel_rfl) (by kernel_rfl) (fun _ _ _ h => h) (Or.inl ⟨by kernel_rfl, by intro _ _; kernel_rfl⟩) s0 ?_
    go_simp
    refine wpAnyH_take (i := 1) (v := .pointer (some ⟨g, 0, none⟩)) rfl (by kernel_rfl) (by kernel_rfl) (by kernel_rfl) (fun _ _ _ h => h) (Or.inl ⟨by kernel_rfl, by intro _ _; kernel_rfl⟩) s0 ?_
    go_simp
    refine wpAnyH_take (i := 2) (v := .pointer (some ⟨g, 1, none⟩)) rfl (by kernel_rfl) (by kernel_rfl) (by kernel_rfl) (fun _ _ _ h => h) (Or.inl ⟨by kernel_rfl, by intro _ _; kernel_rfl⟩) s0 ?_
    go_simp
    refine wpAnyH_take (i := 3) (v := .slice lo n lc) rfl (by kernel_rfl) (by kernel_rfl) (by kernel_rfl) (fun _ _ _ h => h) (Or.inl ⟨by kernel_rfl, by rintro w h; obtain ⟨e0, e1, -⟩ := h.1.cells; obtain ⟨c0, c1, c2, c3, c4, c5, c6, c7, c8, -⟩ := rbox_all h.2; go_simp⟩) s0 ?_
    go_simp
    refine wpAnyH_take (i := 4) (v := .int .i64 (n : Int)) rfl (by kernel_rfl) (by kernel_rfl) (by kernel_rfl) (fun _ _ _ h => h) (Or.inl ⟨by kernel_rfl, by rintro w h; obtain ⟨e0, e1, -⟩ := h.1.cells; obtain ⟨c0, c1, c2, c3, c4, c5, c6, c7, c8, -⟩ := rbox_all h.2; go_simp⟩) s0 ?_
    go_simp
    refine wpAnyH_take (i := 5) (v := .bool false) rfl (by kernel_rfl) (by kernel_rfl) (by kernel_rfl) (fun _ _ _ h => h) (Or.inl ⟨by kernel_rfl, by rintro w h; obtain ⟨e0, e1, -⟩ := h.1.cells; obtain ⟨c0, c1, c2, c3, c4, c5, c6, c7, c8, -⟩ := rbox_all h.2; go_simp⟩) s0 ?_
    go_simp
    refine wpAnyH_take (i := 6) (v := .bool false) rfl (by kernel_rfl) (by kernel_rfl) (by kernel_rfl) (fun _ _ _ h => h) (Or.inl ⟨by kernel_rfl, by intro _ _; kernel_rfl⟩) s0 ?_
    go_simp
    refine wpAnyH_take (i := 7) (v := .pointer (some ⟨g, 0, none⟩)) rfl (by kernel_rfl) (by kernel_rfl) (by kernel_rfl) (fun _ _ _ h => h) (Or.inl ⟨by kernel_rfl, by intro _ _; kernel_rfl⟩) s0 ?_
    go_simp
    refine wpAnyH_take (i := 9) (v := .agg #[.int .u64 r.cl, .int .u64 r.nu, .int .i64 r.op.k, .string r.op.name, .string r.op.to, .slice r.op.ao r.op.an r.op.ac, .slice r.op.bo r.op.bn r.op.bc, .slice r.op.co r.op.cn r.op.cc, .int .i64 r.op.n]) rfl (by kernel_rfl) (by kernel_rfl) (by kernel_rfl) (fun _ _ _ h => h) (Or.inl ⟨by kernel_rfl, by rintro w h; obtain ⟨e0, e1, -⟩ := h.1.cells; obtain ⟨c0, c1, c2, c3, c4, c5, c6, c7, c8, -⟩ := rbox_all h.2; go_simp⟩) s0 ?_
    go_simp
    refine wpAnyH_all (rs := [8]) (by kernel_rfl) (by simp) (fun j hj => ?_)
    rw [List.mem_singleton] at hj
    subst hj
    refine wpOp_step rfl (fun K hK => ?_)
    go_simp
    refine (rsize_log g base lo n lc ps W1 s0.1 hnn hm hf).mono ?_
    rintro e W2 ⟨rfl, hb2⟩
    have s1 : RefAt g base lo n lc ps W2 ∧ W2.heap[w.heap.size]? = some r.box := ⟨s0.1.later hb2, (hb2.block _ (Array.getElem?_eq_some_iff.1 s0.2).1).trans s0.2⟩
    have hB2 := hBd.trans (hb2.mono hBd.size)
    go_simp
    refine hK _ _ ⟨s1, ?_⟩
    clear hK K
    refine wpAnyH_all (rs := [10]) (by kernel_rfl) (by simp) (fun j hj => ?_)
    rw [List.mem_singleton] at hj
    subst hj
    refine wpOp_step rfl (fun K hK => ?_)
    go_simp
    refine (hcallZ W2 (ho.later hB2)).mono ?_
    rintro e W3 ⟨v3, rfl, own3, hb3⟩
    obtain ⟨ya, yk, e3, -⟩ := Rd.of_own own3
    subst e3
    have s2 : RefAt g base lo n lc ps W3 ∧ W3.heap[w.heap.size]? = some r.box := ⟨s1.1.later hb3, (hb3.block _ (Array.getElem?_eq_some_iff.1 s1.2).1).trans s1.2⟩
    have hB3 := hB2.trans (hb3.mono hB2.size)
    go_simp
    refine hK _ _ ⟨s2, ?_⟩
    clear hK K
    refine wpAnyH_take (i := 11) (v := .int .i64 (Z.length : Int)) rfl (by kernel_rfl) (by kernel_rfl) (by kernel_rfl) (fun _ _ _ h => h) (Or.inl ⟨by kernel_rfl, by rintro w h; obtain ⟨e0, e1, -⟩ := h.1.cells; obtain ⟨c0, c1, c2, c3, c4, c5, c6, c7, c8, -⟩ := rbox_all h.2; go_simp⟩) s2 ?_
    go_simp
    refine wpAnyH_take (i := 12) (v := .int .i64 ((ps.map szP).sum + szP (r, c))) rfl (by kernel_rfl) (by kernel_rfl) (by kernel_rfl) (fun _ _ _ h => h) (Or.inl ⟨by kernel_rfl, by rintro w h; obtain ⟨e0, e1, -⟩ := h.1.cells; obtain ⟨c0, c1, c2, c3, c4, c5, c6, c7, c8, -⟩ := rbox_all h.2; rw [HZ.out]; go_simp⟩) s2 ?_
    go_simp
    refine wpAnyH_take (i := 13) (v := .bool true) rfl (by kernel_rfl) (by kernel_rfl) (by kernel_rfl) (fun _ _ _ h => h) (Or.inl ⟨by kernel_rfl, by rintro w h; obtain ⟨e0, e1, -⟩ := h.1.cells; obtain ⟨c0, c1, c2, c3, c4, c5, c6, c7, c8, -⟩ := rbox_all h.2; go_simp⟩) s2 ?_
    go_simp
    refine wpAnyH_take (i := 14) (v := .bool true) rfl (by kernel_rfl) (by kernel_rfl) (by kernel_rfl) (fun _ _ _ h => h) (Or.inl ⟨by kernel_rfl, by intro _ _; kernel_rfl⟩) s2 ?_
    go_simp
    refine wpAnyH_done (by kernel_rfl) ?_ _
    go_wp2_with fail
    go_ret2
    unfold GivesAp
    rw [HE.out, if_neg (by decide)]
    exact ⟨rfl, hB3⟩
  have f3 : decide (2097152 < (ps.map szP).sum + szP (r, c)) = false := decide_eq_false hbig
  have HE : Hid (apErr ps (r, c) = 0) := Lib.hid (by
    have hno : ¬ (4096 ≤ ps.length ∨ 2097152 < (ps.map szP).sum + szP (r, c)) := by
      rintro (h | h)
      · rw [LX.out] at h; exact LN.out h
      · exact hbig h
    rw [HE0.out, if_neg hno])
  clear hbig
  refine wp_region_held (S := fun W => RefAt g base lo n lc ps W ∧ W.heap[w.heap.size]? = some r.box) hmo ?_
  change wpAnyH _ _ _ _ _ _ _ _ (World.drew w1)
  generalize World.drew w1 = W1 at *
  refine wpAnyH_take (i := 0) (v := .pointer (some ⟨g, 0, none⟩)) rfl (by kernel_rfl) (by kernel_rfl) (by kernel_rfl) (fun _ _ _ h => h) (Or.inl ⟨by kernel_rfl, by intro _ _; kernel_rfl⟩) s0 ?_
  go_simp
  refine wpAnyH_take (i := 1) (v := .pointer (some ⟨g, 0, none⟩)) rfl (by kernel_rfl) (by kernel_rfl) (by kernel_rfl) (fun _ _ _ h => h) (Or.inl ⟨by kernel_rfl, by intro _ _; kernel_rfl⟩) s0 ?_
  go_simp
  refine wpAnyH_take (i := 2) (v := .pointer (some ⟨g, 1, none⟩)) rfl (by kernel_rfl) (by kernel_rfl) (by kernel_rfl) (fun _ _ _ h => h) (Or.inl ⟨by kernel_rfl, by intro _ _; kernel_rfl⟩) s0 ?_
  go_simp
  refine wpAnyH_take (i := 3) (v := .slice lo n lc) rfl (by kernel_rfl) (by kernel_rfl) (by kernel_rfl) (fun _ _ _ h => h) (Or.inl ⟨by kernel_rfl, by rintro w h; obtain ⟨e0, e1, -⟩ := h.1.cells; obtain ⟨c0, c1, c2, c3, c4, c5, c6, c7, c8, -⟩ := rbox_all h.2; go_simp⟩) s0 ?_
  go_simp
  refine wpAnyH_take (i := 4) (v := .int .i64 (n : Int)) rfl (by kernel_rfl) (by kernel_rfl) (by kernel_rfl) (fun _ _ _ h => h) (Or.inl ⟨by kernel_rfl, by rintro w h; obtain ⟨e0, e1, -⟩ := h.1.cells; obtain ⟨c0, c1, c2, c3, c4, c5, c6, c7, c8, -⟩ := rbox_all h.2; go_simp⟩) s0 ?_
  go_simp
  refine wpAnyH_take (i := 5) (v := .bool false) rfl (by kernel_rfl) (by kernel_rfl) (by kernel_rfl) (fun _ _ _ h => h) (Or.inl ⟨by kernel_rfl, by rintro w h; obtain ⟨e0, e1, -⟩ := h.1.cells; obtain ⟨c0, c1, c2, c3, c4, c5, c6, c7, c8, -⟩ := rbox_all h.2; go_simp⟩) s0 ?_
  go_simp
  refine wpAnyH_take (i := 6) (v := .bool false) rfl (by kernel_rfl) (by kernel_rfl) (by kernel_rfl) (fun _ _ _ h => h) (Or.inl ⟨by kernel_rfl, by intro _ _; kernel_rfl⟩) s0 ?_
  go_simp
  refine wpAnyH_take (i := 7) (v := .pointer (some ⟨g, 0, none⟩)) rfl (by kernel_rfl) (by kernel_rfl) (by kernel_rfl) (fun _ _ _ h => h) (Or.inl ⟨by kernel_rfl, by intro _ _; kernel_rfl⟩) s0 ?_
  go_simp
  refine wpAnyH_take (i := 9) (v := .agg #[.int .u64 r.cl, .int .u64 r.nu, .int .i64 r.op.k, .string r.op.name, .string r.op.to, .slice r.op.ao r.op.an r.op.ac, .slice r.op.bo r.op.bn r.op.bc, .slice r.op.co r.op.cn r.op.cc, .int .i64 r.op.n]) rfl (by kernel_rfl) (by kernel_rfl) (by kernel_rfl) (fun _ _ _ h => h) (Or.inl ⟨by kernel_rfl, by rintro w h; obtain ⟨e0, e1, -⟩ := h.1.cells; obtain ⟨c0, c1, c2, c3, c4, c5, c6, c7, c8, -⟩ := rbox_all h.2; go_simp⟩) s0 ?_
  go_simp
  refine wpAnyH_all (rs := [8]) (by kernel_rfl) (by simp) (fun j hj => ?_)
  rw [List.mem_singleton] at hj
  subst hj
  refine wpOp_step rfl (fun K hK => ?_)
  go_simp
  refine (rsize_log g base lo n lc ps W1 s0.1 hnn hm hf).mono ?_
  rintro e W2 ⟨rfl, hb2⟩
  have s1 : RefAt g base lo n lc ps W2 ∧ W2.heap[w.heap.size]? = some r.box := ⟨s0.1.later hb2, (hb2.block _ (Array.getElem?_eq_some_iff.1 s0.2).1).trans s0.2⟩
  have hB2 := hBd.trans (hb2.mono hBd.size)
  go_simp
  refine hK _ _ ⟨s1, ?_⟩
  clear hK K
  refine wpAnyH_all (rs := [10]) (by kernel_rfl) (by simp) (fun j hj => ?_)
  rw [List.mem_singleton] at hj
  subst hj
  refine wpOp_step rfl (fun K hK => ?_)
  go_simp
  refine (hcallZ W2 (ho.later hB2)).mono ?_
  rintro e W3 ⟨v3, rfl, own3, hb3⟩
  obtain ⟨ya, yk, e3, -⟩ := Rd.of_own own3
  subst e3
  have s2 : RefAt g base lo n lc ps W3 ∧ W3.heap[w.heap.size]? = some r.box := ⟨s1.1.later hb3, (hb3.block _ (Array.getElem?_eq_some_iff.1 s1.2).1).trans s1.2⟩
  have hB3 := hB2.trans (hb3.mono hB2.size)
  go_simp
  refine hK _ _ ⟨s2, ?_⟩
  clear hK K
  refine wpAnyH_take (i := 11) (v := .int .i64 (Z.length : Int)) rfl (by kernel_rfl) (by kernel_rfl) (by kernel_rfl) (fun _ _ _ h => h) (Or.inl ⟨by kernel_rfl, by rintro w h; obtain ⟨e0, e1, -⟩ := h.1.cells; obtain ⟨c0, c1, c2, c3, c4, c5, c6, c7, c8, -⟩ := rbox_all h.2; go_simp⟩) s2 ?_
  go_simp
  refine wpAnyH_take (i := 12) (v := .int .i64 ((ps.map szP).sum + szP (r, c))) rfl (by kernel_rfl) (by kernel_rfl) (by kernel_rfl) (fun _ _ _ h => h) (Or.inl ⟨by kernel_rfl, by rintro w h; obtain ⟨e0, e1, -⟩ := h.1.cells; obtain ⟨c0, c1, c2, c3, c4, c5, c6, c7, c8, -⟩ := rbox_all h.2; rw [HZ.out]; go_simp⟩) s2 ?_
  go_simp
  refine wpAnyH_take (i := 13) (v := .bool false) rfl (by kernel_rfl) (by kernel_rfl) (by kernel_rfl) (fun _ _ _ h => h) (Or.inl ⟨by kernel_rfl, by rintro w h; obtain ⟨e0, e1, -⟩ := h.1.cells; obtain ⟨c0, c1, c2, c3, c4, c5, c6, c7, c8, -⟩ := rbox_all h.2; go_simp⟩) s2 ?_
  go_simp
  refine wpAnyH_take (i := 14) (v := .bool false) rfl (by kernel_rfl) (by kernel_rfl) (by kernel_rfl) (fun _ _ _ h => h) (Or.inl ⟨by kernel_rfl, by intro _ _; kernel_rfl⟩) s2 ?_
  go_simp
  refine wpAnyH_done (by kernel_rfl) ?_ _
  go_upto_region 5 with fail
  have t0 : RefAt g base lo n lc ps W3.drew ∧ W3.drew.heap[w.heap.size]? = some r.box := ⟨s2.1.later (Below.refl _ _).drew, s2.2⟩
  have hB4 : Below w.heap.size w W3.drew := hB3.drew
  have LN2 : n ≤ 4096 := hn
  clear s0 s1 s2 hb2 hb3 hB2 hB3 hBd q1 hB1 own3 f2 f3 hcallZ hsum
  refine wp_region_T (k := 11) (S := fun W => RefAt g base lo n lc ps W ∧ W.heap[w.heap.size]? = some r.box) hmo ?_
  change wpAnyT _ _ _ _ _ _ _ _ _ (World.drew W3)
  generalize World.drew W3 = V0 at *
  refine wpAnyT_take (i := 0) (v := .pointer (some ⟨g, 0, none⟩)) rfl (by kernel_rfl) (by kernel_rfl) (by kernel_rfl) (by kernel_rfl) (by decide) (by kernel_rfl) (by kernel_rfl) (fun _ _ _ h => h) (Or.inl ⟨by kernel_rfl, by intro _ _; kernel_rfl⟩) t0 ?_
  go_simp
  refine wpAnyT_take (i := 1) (v := .pointer (some ⟨g, 0, none⟩)) rfl (by kernel_rfl) (by kernel_rfl) (by kernel_rfl) (by kernel_rfl) (by decide) (by kernel_rfl) (by kernel_rfl) (fun _ _ _ h => h) (Or.inl ⟨by kernel_rfl, by intro _ _; kernel_rfl⟩) t0 ?_
  go_simp
  refine wpAnyT_take (i := 2) (v := .pointer (some ⟨g, 0, none⟩)) rfl (by kernel_rfl) (by kernel_rfl) (by kernel_rfl) (by kernel_rfl) (by decide) (by kernel_rfl) (by kernel_rfl) (fun _ _ _ h => h) (Or.inl ⟨by kernel_rfl, by intro _ _; kernel_rfl⟩) t0 ?_
  go_simp
  refine wpAnyT_take (i := 3) (v := .pointer (some ⟨g, 1, none⟩)) rfl (by kernel_rfl) (by kernel_rfl) (by kernel_rfl) (by kernel_rfl) (by decide) (by kernel_rfl) (by kernel_rfl) (fun _ _ _ h => h) (Or.inl ⟨by kernel_rfl, by intro _ _; kernel_rfl⟩) t0 ?_
  go_simp
  refine wpAnyT_take (i := 4) (v := .slice lo n lc) rfl (by kernel_rfl) (by kernel_rfl) (by kernel_rfl) (by kernel_rfl) (by decide) (by kernel_rfl) (by kernel_rfl) (fun _ _ _ h => h) (Or.inl ⟨by kernel_rfl, by rintro w h; obtain ⟨e0, e1, -⟩ := h.1.cells; obtain ⟨c0, c1, c2, c3, c4, c5, c6, c7, c8, -⟩ := rbox_all h.2; go_simp⟩) t0 ?_
  go_simp
  refine wpAnyT_take (i := 6) (v := .agg #[.int .u64 r.cl, .int .u64 r.nu, .int .i64 r.op.k, .string r.op.name, .string r.op.to, .slice r.op.ao r.op.an r.op.ac, .slice r.op.bo r.op.bn r.op.bc, .slice r.op.co r.op.cn r.op.cc, .int .i64 r.op.n]) rfl (by kernel_rfl) (by kernel_rfl) (by kernel_rfl) (by kernel_rfl) (by decide) (by kernel_rfl) (by kernel_rfl) (fun _ _ _ h => h) (Or.inl ⟨by kernel_rfl, by rintro w h; obtain ⟨e0, e1, -⟩ := h.1.cells; obtain ⟨c0, c1, c2, c3, c4, c5, c6, c7, c8, -⟩ := rbox_all h.2; go_simp⟩) t0 ?_
  go_simp
  refine wpAnyT_all (rs := [5, 7]) (by kernel_rfl) (by simp) (fun j hj => ?_)
  simp only [List.mem_cons, List.not_mem_nil, or_false] at hj
  rcases hj with rfl | rfl
  · refine wpOp_step rfl (fun K hK => ?_)
    refine step_app rfl (.const (.slice none 0 0)) (.tmp 28) 23 rfl V0.heap.size 42 zeroR.val 9 136 sliceT_req (.slice none 0 0) 0 [] rfl (World.ownsRow_nil _ _ _ _) lo n lc (reqV (ps.map Prod.fst)) rfl t0.1.rq.rd (reqV_one _) (by unfold maxLen; omega) (by omega) (Nat.le_refl _) ?_
    rw [Nat.zero_add]
    intro a5 k5 V1 o5_1 hg5 hb1 _
    have Z5 := hB4.size
    have lz5 := hb1.size
    have t1 : RefAt g base lo n lc ps V1 ∧ V1.heap[w.heap.size]? = some r.box := ⟨t0.1.later hb1, (hb1.block _ (Array.getElem?_eq_some_iff.1 t0.2).1).trans t0.2⟩
    have hB5 := hB4.trans (hb1.mono hB4.size)
    refine hK _ _ ⟨.inr t1, ?_⟩
    clear hK K
    refine wpAnyT_all (rs := [7]) (by kernel_rfl) (by simp) (fun j hj => ?_)
    rw [List.mem_singleton] at hj
    subst hj
    refine wpOp_step rfl (fun K hK => ?_)
    go_simp
    generalize hgw : V1.alloc _ = V2
    have e7 : V1.alloc (.cells r.cells 42) = V2 := by simp only [RV.cells]; exact hgw
    have hb2 : Below V1.heap.size V1 V2 := by rw [← e7]; exact (Below.refl _ _).alloc (Nat.le_refl _) _
    have r7_2 : Rd V2 9 (some ⟨V1.heap.size, 0, none⟩) 1 1 r.cells.toList := by rw [← e7]; exact Rd.new V1 r.cells.toList 42 (0, 0) 9 1 (by simp [RV.cells]) (by decide)
    clear hgw e7
    have t2 : RefAt g base lo n lc ps V2 ∧ V2.heap[w.heap.size]? = some r.box := ⟨t1.1.later hb2, (hb2.block _ (Array.getElem?_eq_some_iff.1 t1.2).1).trans t1.2⟩
    have hB6 := hB5.trans (hb2.mono hB5.size)
    have o5_2 := own_later o5_1 hb2
    refine hK _ _ ⟨.inr t2, ?_⟩
    clear hK K
    refine wpAnyT_all (rs := [8]) (by kernel_rfl) (by simp) (fun j hj => ?_)
    rw [List.mem_singleton] at hj
    subst hj
    refine wpOp_step rfl (fun K hK => ?_)
    refine step_app rfl (.tmp 29) (.tmp 31) 23 rfl V0.heap.size 42 zeroR.val 9 136 sliceT_req (.slice a5 n k5) n (reqV (ps.map Prod.fst)) rfl o5_2 (some ⟨V1.heap.size, 0, none⟩) 1 1 r.cells.toList rfl r7_2 (cells_one _) (by unfold maxLen; omega) (by omega) (by have := hb1.size; have := hb2.size; omega) ?_
    intro a8 k8 V3 own8 hg8 hb8 hnil8
    have hB7 := hB6.trans (hb8.mono hB4.size)
    have t3 : RefAt g base lo n lc ps V3 ∧ V3.heap[w.heap.size]? = some r.box := ⟨h.later hB7, (hb8.block _ (Array.getElem?_eq_some_iff.1 t0.2).1).trans t2.2⟩
    obtain ⟨ad, had⟩ : ∃ ad, a8 = some ad := by
      cases a8 with
      | none => have := (hnil8.1 rfl).2; omega
      | some ad => exact ⟨ad, rfl⟩
    subst had
    have hzz : w.heap.size ≤ V0.heap.size := hB4.size
    have hge := own_ge own8
    refine hK _ _ ⟨.inr t3, ?_⟩
    clear hK K
    refine wpAnyT_take (i := 9) (v := .pointer (some ⟨g, 0, none⟩)) rfl (by kernel_rfl) (by kernel_rfl) (by kernel_rfl) (by kernel_rfl) (by decide) (by kernel_rfl) (by kernel_rfl) (fun _ _ _ h => h) (Or.inl ⟨by kernel_rfl, by intro _ _; kernel_rfl⟩) t3 ?_
    go_simp
    refine wpAnyT_take (i := 10) (v := .pointer (some ⟨g, 1, none⟩)) rfl (by kernel_rfl) (by kernel_rfl) (by kernel_rfl) (by kernel_rfl) (by decide) (by kernel_rfl) (by kernel_rfl) (fun _ _ _ h => h) (Or.inl ⟨by kernel_rfl, by intro _ _; kernel_rfl⟩) t3 ?_
    go_simp
    obtain ⟨e0, e1, eF⟩ := t3.1.cells
    refine wpAnyT_last (by kernel_rfl) (by kernel_rfl) ?_
    refine wpAny_all (rs := [11]) (by kernel_rfl) (by simp) (fun j hj => ?_)
    rw [List.mem_singleton] at hj
    subst hj
    refine wpOp_step rfl (fun K hK => ?_)
    go_simp
    refine hK _ _ ?_
    clear hK K
    refine wpAny_done (by kernel_rfl) ?_ _
    generalize hgv : World.setCell V3 _ _ = V4
    have hat : V4.heap[g]? = some (.cells #[.int .u64 base, .slice (some ad) (n + 1) k8] 49) := by rw [← hgv]; exact at_set t3.1.at_
    have hoth : ∀ k, k ≠ g → V4.heap[k]? = V3.heap[k]? := by rw [← hgv]; exact fun k hk => Below.heap_setCell V3 ⟨g, 1, none⟩ _ k hk
    have hsz4 : V3.heap.size ≤ V4.heap.size := by rw [← hgv]; simp
    have hfr : w.heap.size ≤ ad.block := Nat.le_trans hzz (hge _ rfl)
    have hne8 : (Value.slice (some ad) (n + 1) k8).ownBlock ≠ some g := fun e => by have := Option.some.inj e; omega
    have h9 : Rd V4 9 (some ad) (n + 1) k8 (reqV (ps.map Prod.fst) ++ r.cells.toList) := by rw [← hgv]; exact Rd.of_own_slice (ownsRow_setCell_other own8 (a := ⟨g, 1, none⟩) hne8 _)
    have hrd : Rd V4 9 (some ad) (n + 1) k8 (reqV ((ps ++ [(r, c)]).map Prod.fst)) := by
      rw [List.map_append, show reqV (ps.map Prod.fst ++ [(r, c)].map Prod.fst) = reqV (ps.map Prod.fst) ++ r.cells.toList from by simp [reqV]]
      exact h9
    have hops : ∀ p ∈ ps ++ [(r, c)], OpAt V4 p.1.op p.2 := by
      intro p hp
      rcases List.mem_append.1 hp with hp | hp
      · exact (t3.1.rq.ops p hp).apart hsz4 (log_cells t3.1.at_) (fun k _ hk => hoth k hk)
      · rw [List.mem_singleton] at hp
        subst hp
        exact (ho.later hB7).apart hsz4 (log_cells t3.1.at_) (fun k _ hk => hoth k hk)
    have hR4 : RefAt g base (some ad) (n + 1) k8 (ps ++ [(r, c)]) V4 := ⟨hat, hrd, hops⟩
    have hBut : ButG B g w V4 := ⟨by rw [← hgv]; exact (hB7.mono (by omega)).setCell (p := ⟨g, 1, none⟩) hBg _, fun k hk hne => (hoth k hne).trans (hB7.block k hk)⟩
    have hend := rend_log g base _ (n + 1) k8 _ V4 hR4 (by omega) h0 h1
    rw [show base + ((n + 1 : Nat) : Int) = base + n + 1 by omega] at hend
    clear hgv hat hoth hsz4 hne8 h9 hrd hops t3 own8 hg8 hb8 hB7 hge
    go_wp2_with fail
    refine hend.mono ?_
    rintro e W9 ⟨rfl, q, rfl⟩
    go_wp2_with fail
    go_ret2
    unfold GivesAp
    rw [HE.out, if_pos rfl]
    exact ⟨rfl, ad, k8, hR4.later (below_drewN (Below.refl _ _) q), ⟨below_drewN hBut.bel q, hBut.oth⟩, hfr⟩
  · refine wpOp_step rfl (fun K hK => ?_)
    go_simp
    generalize hgw : V0.alloc _ = V1
    have e7 : V0.alloc (.cells r.cells 42) = V1 := by simp only [RV.cells]; exact hgw
    have hb1 : Below V0.heap.size V0 V1 := by rw [← e7]; exact (Below.refl _ _).alloc (Nat.le_refl _) _
    have r7_1 : Rd V1 9 (some ⟨V0.heap.size, 0, none⟩) 1 1 r.cells.toList := by rw [← e7]; exact Rd.new V0 r.cells.toList 42 (0, 0) 9 1 (by simp [RV.cells]) (by decide)
    clear hgw e7
    have t1 : RefAt g base lo n lc ps V1 ∧ V1.heap[w.heap.size]? = some r.box := ⟨t0.1.later hb1, (hb1.block _ (Array.getElem?_eq_some_iff.1 t0.2).1).trans t0.2⟩
    have hB5 := hB4.trans (hb1.mono hB4.size)
    refine hK _ _ ⟨.inr t1, ?_⟩
    clear hK K
    refine wpAnyT_all (rs := [5]) (by kernel_rfl) (by simp) (fun j hj => ?_)
    rw [List.mem_singleton] at hj
    subst hj
    refine wpOp_step rfl (fun K hK => ?_)
    refine step_app rfl (.const (.slice none 0 0)) (.tmp 28) 23 rfl V1.heap.size 42 zeroR.val 9 136 sliceT_req (.slice none 0 0) 0 [] rfl (World.ownsRow_nil _ _ _ _) lo n lc (reqV (ps.map Prod.fst)) rfl t1.1.rq.rd (reqV_one _) (by unfold maxLen; omega) (by omega) (Nat.le_refl _) ?_
    rw [Nat.zero_add]
    intro a5 k5 V2 o5_2 hg5 hb2 _
    have Z5 := hB5.size
    have lz5 := hb2.size
    have t2 : RefAt g base lo n lc ps V2 ∧ V2.heap[w.heap.size]? = some r.box := ⟨t1.1.later hb2, (hb2.block _ (Array.getElem?_eq_some_iff.1 t1.2).1).trans t1.2⟩
    have hB6 := hB5.trans (hb2.mono hB5.size)
    have r7_2 := r7_1.later hb2
    refine hK _ _ ⟨.inr t2, ?_⟩
    clear hK K
    refine wpAnyT_all (rs := [8]) (by kernel_rfl) (by simp) (fun j hj => ?_)
    rw [List.mem_singleton] at hj
    subst hj
    refine wpOp_step rfl (fun K hK => ?_)
    refine step_app rfl (.tmp 29) (.tmp 31) 23 rfl V1.heap.size 42 zeroR.val 9 136 sliceT_req (.slice a5 n k5) n (reqV (ps.map Prod.fst)) rfl o5_2 (some ⟨V0.heap.size, 0, none⟩) 1 1 r.cells.toList rfl r7_2 (cells_one _) (by unfold maxLen; omega) (by omega) (by have := hb1.size; have := hb2.size; omega) ?_
    intro a8 k8 V3 own8 hg8 hb8 hnil8
    have hB7 := hB6.trans (hb8.mono hB5.size)
    have t3 : RefAt g base lo n lc ps V3 ∧ V3.heap[w.heap.size]? = some r.box := ⟨h.later hB7, (hb8.block _ (Array.getElem?_eq_some_iff.1 t1.2).1).trans t2.2⟩
    obtain ⟨ad, had⟩ : ∃ ad, a8 = some ad := by
      cases a8 with
      | none => have := (hnil8.1 rfl).2; omega
      | some ad => exact ⟨ad, rfl⟩
    subst had
    have hzz : w.heap.size ≤ V1.heap.size := hB5.size
    have hge := own_ge own8
    refine hK _ _ ⟨.inr t3, ?_⟩
    clear hK K
    refine wpAnyT_take (i := 9) (v := .pointer (some ⟨g, 0, none⟩)) rfl (by kernel_rfl) (by kernel_rfl) (by kernel_rfl) (by kernel_rfl) (by decide) (by kernel_rfl) (by kernel_rfl) (fun _ _ _ h => h) (Or.inl ⟨by kernel_rfl, by intro _ _; kernel_rfl⟩) t3 ?_
    go_simp
    refine wpAnyT_take (i := 10) (v := .pointer (some ⟨g, 1, none⟩)) rfl (by kernel_rfl) (by kernel_rfl) (by kernel_rfl) (by kernel_rfl) (by decide) (by kernel_rfl) (by kernel_rfl) (fun _ _ _ h => h) (Or.inl ⟨by kernel_rfl, by intro _ _; kernel_rfl⟩) t3 ?_
    go_simp
    obtain ⟨e0, e1, eF⟩ := t3.1.cells
    refine wpAnyT_last (by kernel_rfl) (by kernel_rfl) ?_
    refine wpAny_all (rs := [11]) (by kernel_rfl) (by simp) (fun j hj => ?_)
    rw [List.mem_singleton] at hj
    subst hj
    refine wpOp_step rfl (fun K hK => ?_)
    go_simp
    refine hK _ _ ?_
    clear hK K
    refine wpAny_done (by kernel_rfl) ?_ _
    generalize hgv : World.setCell V3 _ _ = V4
    have hat : V4.heap[g]? = some (.cells #[.int .u64 base, .slice (some ad) (n + 1) k8] 49) := by rw [← hgv]; exact at_set t3.1.at_
    have hoth : ∀ k, k ≠ g → V4.heap[k]? = V3.heap[k]? := by rw [← hgv]; exact fun k hk => Below.heap_setCell V3 ⟨g, 1, none⟩ _ k hk
    have hsz4 : V3.heap.size ≤ V4.heap.size := by rw [← hgv]; simp
    have hfr : w.heap.size ≤ ad.block := Nat.le_trans hzz (hge _ rfl)
    have hne8 : (Value.slice (some ad) (n + 1) k8).ownBlock ≠ some g := fun e => by have := Option.some.inj e; omega
    have h9 : Rd V4 9 (some ad) (n + 1) k8 (reqV (ps.map Prod.fst) ++ r.cells.toList) := by rw [← hgv]; exact Rd.of_own_slice (ownsRow_setCell_other own8 (a := ⟨g, 1, none⟩) hne8 _)
    have hrd : Rd V4 9 (some ad) (n + 1) k8 (reqV ((ps ++ [(r, c)]).map Prod.fst)) := by
      rw [List.map_append, show reqV (ps.map Prod.fst ++ [(r, c)].map Prod.fst) = reqV (ps.map Prod.fst) ++ r.cells.toList from by simp [reqV]]
      exact h9
    have hops : ∀ p ∈ ps ++ [(r, c)], OpAt V4 p.1.op p.2 := by
      intro p hp
      rcases List.mem_append.1 hp with hp | hp
      · exact (t3.1.rq.ops p hp).apart hsz4 (log_cells t3.1.at_) (fun k _ hk => hoth k hk)
      · rw [List.mem_singleton] at hp
        subst hp
        exact (ho.later hB7).apart hsz4 (log_cells t3.1.at_) (fun k _ hk => hoth k hk)
    have hR4 : RefAt g base (some ad) (n + 1) k8 (ps ++ [(r, c)]) V4 := ⟨hat, hrd, hops⟩
    have hBut : ButG B g w V4 := ⟨by rw [← hgv]; exact (hB7.mono (by omega)).setCell (p := ⟨g, 1, none⟩) hBg _, fun k hk hne => (hoth k hne).trans (hB7.block k hk)⟩
    have hend := rend_log g base _ (n + 1) k8 _ V4 hR4 (by omega) h0 h1
    rw [show base + ((n + 1 : Nat) : Int) = base + n + 1 by omega] at hend
    clear hgv hat hoth hsz4 hne8 h9 hrd hops t3 own8 hg8 hb8 hB7 hge
    go_wp2_with fail
    refine hend.mono ?_
    rintro e W9 ⟨rfl, q, rfl⟩
    go_wp2_with fail
    go_ret2
    unfold GivesAp
    rw [HE.out, if_pos rfl]
    exact ⟨rfl, ad, k8, hR4.later (below_drewN (Below.refl _ _) q), ⟨below_drewN hBut.bel q, hBut.oth⟩, hfr⟩
end Go.Proofs.YtghjgajgjhbjpaaGreat.Msg
