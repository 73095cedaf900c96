/-
  CopyRequest; how many bytes a request has.
-/
import Derived.Deep.Cut
import Derived.Test.YtgeafnggodkpaaaGreatLl
namespace Go.Proofs.YtgeafnggodkpaaaGreat.Msg
open Go.RowKit Go.Lib Go.Proofs.YtgeafnggodkpaaaGreat.Mem Go.Proofs.YtgeafnggodkpaaaGreat.Tlv

/-- A request without anything. -/
def zeroR : RV := ⟨0, 0, zeroV⟩
def setOp2 (W : World) (b : Nat) (u : OV) : World := ((((((W.setCell ⟨b, 2, none⟩ (.int .i64 u.k)).setCell ⟨b, 3, none⟩ (.string u.name)).setCell ⟨b, 4, none⟩ (.string u.to)).setCell ⟨b, 5, none⟩ (.slice u.ao u.an u.ac)).setCell ⟨b, 6, none⟩ (.slice u.bo u.bn u.bc)).setCell ⟨b, 7, none⟩ (.slice u.co u.cn u.cc)).setCell ⟨b, 8, none⟩ (.int .i64 u.n)
theorem setOp2_at {W : World} {b : Nat} {r : RV} {u : OV} (h : W.heap[b]? = some r.box) : (setOp2 W b u).heap[b]? = some (RV.box ⟨r.cl, r.nu, u⟩) := by
  unfold RV.box RV.cells at h
  have h0 := at_set (i := 2) (x := .int .i64 u.k) h
  have h1 := at_set (i := 3) (x := .string u.name) h0
  have h2 := at_set (i := 4) (x := .string u.to) h1
  have h3 := at_set (i := 5) (x := .slice u.ao u.an u.ac) h2
  have h4 := at_set (i := 6) (x := .slice u.bo u.bn u.bc) h3
  have h5 := at_set (i := 7) (x := .slice u.co u.cn u.cc) h4
  have h6 := at_set (i := 8) (x := .int .i64 u.n) h5
  unfold setOp2
  refine h6.trans ?_
  kernel_rfl
theorem setOp2_op {W : World} {b : Nat} {u y : OV} {c : OC} (h : OpAt W y c) (fa : ∀ a, y.ao = some a → a.block ≠ b) (fb : ∀ a, y.bo = some a → a.block ≠ b) (fc : ∀ a, y.co = some a → a.block ≠ b) : OpAt (setOp2 W b u) y c :=
  ((((((h.set ⟨b, 2, none⟩ _ fa fb fc).set ⟨b, 3, none⟩ _ fa fb fc).set ⟨b, 4, none⟩ _ fa fb fc).set ⟨b, 5, none⟩ _ fa fb fc).set ⟨b, 6, none⟩ _ fa fb fc).set ⟨b, 7, none⟩ _ fa fb fc).set ⟨b, 8, none⟩ _ fa fb fc
theorem setOp2_below {B : Nat} {w W : World} {b : Nat} {u : OV} (h : Below B w W) (hb : B ≤ b) : Below B w (setOp2 W b u) :=
  ((((((h.setCell (p := ⟨b, 2, none⟩) hb _).setCell (p := ⟨b, 3, none⟩) hb _).setCell (p := ⟨b, 4, none⟩) hb _).setCell (p := ⟨b, 5, none⟩) hb _).setCell (p := ⟨b, 6, none⟩) hb _).setCell (p := ⟨b, 7, none⟩) hb _).setCell (p := ⟨b, 8, none⟩) hb _
def setReq (W : World) (b : Nat) (r : RV) : World := setOp2 ((W.setCell ⟨b, 0, none⟩ (.int .u64 r.cl)).setCell ⟨b, 1, none⟩ (.int .u64 r.nu)) b r.op
theorem setReq_at {W : World} {b : Nat} {r q : RV} (h : W.heap[b]? = some q.box) : (setReq W b r).heap[b]? = some r.box := by
  unfold RV.box RV.cells at h
  have h0 := at_set (i := 0) (x := .int .u64 r.cl) h
  have h1 := at_set (i := 1) (x := .int .u64 r.nu) h0
  have h2 : ((W.setCell ⟨b, 0, none⟩ (.int .u64 r.cl)).setCell ⟨b, 1, none⟩ (.int .u64 r.nu)).heap[b]? = some (RV.box ⟨r.cl, r.nu, q.op⟩) := h1.trans (by kernel_rfl)
  exact setOp2_at (r := ⟨r.cl, r.nu, q.op⟩) (u := r.op) h2
theorem setReq_op {W : World} {b : Nat} {r : RV} {y : OV} {c : OC} (h : OpAt W y c) (fa : ∀ a, y.ao = some a → a.block ≠ b) (fb : ∀ a, y.bo = some a → a.block ≠ b) (fc : ∀ a, y.co = some a → a.block ≠ b) : OpAt (setReq W b r) y c :=
  setOp2_op ((h.set ⟨b, 0, none⟩ _ fa fb fc).set ⟨b, 1, none⟩ _ fa fb fc) fa fb fc
theorem setReq_below {B : Nat} {w W : World} {b : Nat} {r : RV} (h : Below B w W) (hb : B ≤ b) : Below B w (setReq W b r) :=
  setOp2_below ((h.setCell (p := ⟨b, 0, none⟩) hb _).setCell (p := ⟨b, 1, none⟩) hb _) hb
theorem results_req {f : Func} {i : Nat} {tmps : Array Value} {W : World} {b : Nat} {r : RV} (hr : f.results = #[.cell i 43]) (hp : tmps.getD i undef = .pointer (some ⟨b, 0, none⟩)) (h : W.heap[b]? = some r.box) : (results f tmps).run Tryz.prog W = .ok r.val W := by
  obtain ⟨c0, c1, c2, c3, c4, c5, c6, c7, c8, -⟩ := rbox_all h
  simp only [results, hr]
  have hp' : tmps[i]?.getD undef = .pointer (some ⟨b, 0, none⟩) := by simpa using hp
  unfold RV.val RV.cells
  simp [hp', asAddr]
  go_simp

def GivesR (r : RV) (c : OC) (w : World) (e : Ending) (w' : World) : Prop := ∃ u : OV, e = .returned (RV.val ⟨r.cl, r.nu, u⟩) ∧ CopyOf w r.op u ∧ OpAt w' u c ∧ Below w.heap.size w w'
theorem CopyOf.low {w W : World} {v u : OV} (h : CopyOf W v u) (hb : w.heap.size ≤ W.heap.size) : CopyOf w v u :=
  ⟨h.ek, h.ename, h.eto, h.en, h.ean, h.ebn, h.ecn, fun a ha => Nat.le_trans hb (h.fa a ha), fun a ha => Nat.le_trans hb (h.fb a ha), fun a ha => Nat.le_trans hb (h.fc a ha), h.na, h.nb, h.nc⟩

set_option maxRecDepth 100000 in
set_option maxHeartbeats 4000000 in
theorem copyReq_any (r : RV) (c : OC) (w : World) (ho : OpAt w r.op c) : Calls Tryz.prog 24 #[r.val] w (GivesR r c w) := by
  have hb0 : Below w.heap.size w ((w.alloc r.box).alloc zeroR.box) := below_two w _ _
  obtain ⟨k1, k2⟩ := two_boxes w r.box zeroR.box
  have hz : ((w.alloc r.box).alloc zeroR.box).heap.size = w.heap.size + 1 + 1 := by simp
  unfold RV.val RV.cells
  go_enter Tryz.func24, Tryz.ntmps24
  go_wp2_with fail
  generalize hg : (w.alloc _).alloc _ = W0
  have e : (w.alloc r.box).alloc zeroR.box = W0 := by simp only [RV.box, RV.cells, zeroR, zeroV]; exact hg
  rw [e] at hb0 k1 k2 hz
  clear hg e
  have hc := copyOp_any r.op c _ (ho.later hb0)
  unfold OV.val at hc
  refine hc.mono ?_
  rintro e w1 ⟨u, rfl, hC, hO, hb1⟩
  have q1 := (hb1.block w.heap.size (by omega)).trans k1
  have q2 := (hb1.block (w.heap.size + 1) (by omega)).trans k2
  have hb2 := hb0.trans (hb1.mono hb0.size)
  obtain ⟨c0, c1, c2, c3, c4, c5, c6, c7, c8, c9⟩ := rbox_all q1
  have ga : ∀ i, i ≤ 1 → ∀ a, u.ao = some a → a.block ≠ w.heap.size + i := fun i hi a ha => by have h2 := hC.fa a ha; omega
  have gb : ∀ i, i ≤ 1 → ∀ a, u.bo = some a → a.block ≠ w.heap.size + i := fun i hi a ha => by have h2 := hC.fb a ha; omega
  have gc : ∀ i, i ≤ 1 → ∀ a, u.co = some a → a.block ≠ w.heap.size + i := fun i hi a ha => by have h2 := hC.fc a ha; omega
  have HC := Lib.hid (hC.low hb0.size)
  clear hC
  unfold OV.val
  go_upto_region 2 with fail
  clear c0 c1 c2 c3 c4 c5 c6 c7 c8 c9
  generalize hg : World.setCell _ _ _ = W4
  have e : setOp2 w1 w.heap.size u = W4 := hg
  clear hg
  have p1 : W4.heap[w.heap.size]? = some (RV.box ⟨r.cl, r.nu, u⟩) := by rw [← e]; exact setOp2_at q1
  have p2 : W4.heap[w.heap.size + 1]? = some zeroR.box := by rw [← e]; exact at_other (at_other (at_other (at_other (at_other (at_other (at_other q2 (by omega)) (by omega)) (by omega)) (by omega)) (by omega)) (by omega)) (by omega)
  have p3 : OpAt W4 u c := by rw [← e]; exact setOp2_op hO (ga 0 (by omega)) (gb 0 (by omega)) (gc 0 (by omega))
  have p4 : Below w.heap.size w W4 := by rw [← e]; exact setOp2_below hb2 (Nat.le_refl _)
  clear e
  obtain ⟨c0, c1, c2, c3, c4, c5, c6, c7, c8, -⟩ := rbox_all p1
  obtain ⟨d0, d1, d2, d3, d4, d5, d6, d7, d8, d9⟩ := rbox_all p2
  dsimp only at c0 c1 c2 c3 c4 c5 c6 c7 c8
  go_wp2_with fail
  have hF : (setReq W4 (w.heap.size + 1) ⟨r.cl, r.nu, u⟩).heap[w.heap.size + 1]? = some (RV.box ⟨r.cl, r.nu, u⟩) := setReq_at p2
  refine bodyPost_ret (w := setReq W4 (w.heap.size + 1) ⟨r.cl, r.nu, u⟩) (results_req (i := 2) rfl rfl hF) rfl ⟨u, rfl, HC.out, setReq_op p3 (ga 1 (Nat.le_refl _)) (gb 1 (Nat.le_refl _)) (gc 1 (Nat.le_refl _)), setReq_below p4 (by omega)⟩
end Go.Proofs.YtgeafnggodkpaaaGreat.Msg
