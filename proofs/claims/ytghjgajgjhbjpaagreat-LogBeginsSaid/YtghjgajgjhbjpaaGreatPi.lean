/-
  The document's SameRequest; its log: may, Size, End, In.
-/
import Derived.Test.YtghjgajgjhbjpaaGreatPh
import Derived.Test.YtghjgajgjhbjpaaGreatLq
import Derived.BigQuiet
namespace Go.Proofs.YtghjgajgjhbjpaaGreat.Msg
open Go.RowKit Go.Lib Go.Proofs.YtghjgajgjhbjpaaGreat.Mem Go.Proofs.YtghjgajgjhbjpaaGreat.Utf Go.Proofs.YtghjgajgjhbjpaaGreat.Tlv

/-- Are two requests the same? -/
def sameReq (r : RV) (c : OC) (r' : RV) (c' : OC) : Bool := decide (r.cl = r'.cl) && decide (r.nu = r'.nu) && sameOp r.op c r'.op c'

set_option maxRecDepth 100000 in
set_option maxHeartbeats 4000000 in
theorem rSameReq_any (r r' : RV) (c c' : OC) (w : World) (h : OpAt w r.op c) (h' : OpAt w r'.op c') :
    Calls Tryz.prog 32 #[r.val, r'.val] w (GivesB (sameReq r c r' c') w) := by
  have hb0 : Below w.heap.size w ((w.alloc r.box).alloc r'.box) := below_two w _ _
  obtain ⟨k1, k2⟩ := two_boxes w r.box r'.box
  have hsame := rSameOp_any r.op r'.op c c' _ (h.later hb0) (h'.later hb0)
  unfold RV.box RV.cells at hb0 k1 k2 hsame
  unfold OV.val at hsame
  unfold RV.val RV.cells
  by_cases e1 : r.cl = r'.cl
  case neg =>
    have f1 : (r.cl == r'.cl) = false := by simp [e1]
    have Hs : Hid (sameReq r c r' c' = false) := Lib.hid (by unfold sameReq; rw [decide_eq_false e1]; simp)
    clear e1 hsame
    go_enter Tryz.func32, Tryz.ntmps32
    go_wp2_with fail
    go_ret
    exact ⟨by rw [Hs.out]; rfl, hb0⟩
  have f1 : (r.cl == r'.cl) = true := by simp [e1]
  by_cases e2 : r.nu = r'.nu
  case neg =>
    have f2 : (r.nu == r'.nu) = false := by simp [e2]
    have Hs : Hid (sameReq r c r' c' = false) := Lib.hid (by unfold sameReq; rw [decide_eq_false e2]; simp)
    clear e1 e2 hsame
    go_enter Tryz.func32, Tryz.ntmps32
    go_wp2_with fail
    go_ret
    exact ⟨by rw [Hs.out]; rfl, hb0⟩
  have f2 : (r.nu == r'.nu) = true := by simp [e2]
  have Hs : Hid (sameReq r c r' c' = sameOp r.op c r'.op c') := Lib.hid (by unfold sameReq; rw [decide_eq_true e1, decide_eq_true e2]; simp)
  clear e1 e2
  go_enter Tryz.func32, Tryz.ntmps32
  go_wp2_with fail
  refine hsame.mono ?_
  rintro e w1 ⟨rfl, hb1⟩
  rw [← Hs.out]
  go_wp2_with fail
  go_ret
  exact ⟨rfl, hb0.trans (hb1.mono hb0.size)⟩

set_option maxRecDepth 100000 in
theorem rmay_any (r : RV) (c : OC) (w : World) (h : OpAt w r.op c) : Calls Tryz.prog 44 #[r.val] w (GivesB (mayOp r.op c) w) := by
  have hb0 : Below w.heap.size w (w.alloc r.box) := (Below.refl _ _).alloc (Nat.le_refl _) _
  have hmay := rMayOp_any r.op c _ (h.later hb0)
  unfold RV.box RV.cells at hb0 hmay
  unfold OV.val at hmay
  unfold RV.val RV.cells
  go_enter Tryz.func44, Tryz.ntmps44
  go_wp2_with fail
  refine hmay.mono ?_
  rintro e w1 ⟨rfl, hb1⟩
  go_wp2_with fail
  go_ret
  exact ⟨rfl, hb0.trans (hb1.mono hb0.size)⟩

/-- A request, with what its slices hold. -/
abbrev RP := RV × OC
def mayP (p : RP) : Bool := mayOp p.1.op p.2
/-- How many bytes it has. -/
def szP (p : RP) : Int := (((opBy p.1.op p.2).length + 31 : Nat) : Int)
/-- Its numbers fit. -/
structure FitP (p : RP) : Prop where
  c0 : 0 ≤ p.1.cl
  c1 : p.1.cl < 18446744073709551616
  n0 : 0 ≤ p.1.nu
  n1 : p.1.nu < 18446744073709551616
/-- A slice of requests, read. -/
structure ReqsAt (ao : Option Addr) (n cap : Nat) (ps : List RP) (W : World) : Prop where
  rd : Rd W 9 ao n cap (reqV (ps.map Prod.fst))
  ops : ∀ p ∈ ps, OpAt W p.1.op p.2
theorem ReqsAt.later {ao : Option Addr} {n cap : Nat} {ps : List RP} {W W' : World} (h : ReqsAt ao n cap ps W) (hb : Below W.heap.size W W') : ReqsAt ao n cap ps W' := ⟨h.rd.later hb, fun p hp => (h.ops p hp).later hb⟩
theorem ReqsAt.len {ao : Option Addr} {n cap : Nat} {ps : List RP} {W : World} (h : ReqsAt ao n cap ps W) : ps.length = n := by
  have := h.rd.1
  rw [reqV_len, List.length_map] at this
  omega
/-- The document's log: a base, and requests, with what they hold. -/
structure RefAt (g : Nat) (base : Int) (lo : Option Addr) (n lc : Nat) (ps : List RP) (W : World) : Prop where
  at_ : W.heap[g]? = some (.cells #[.int .u64 base, .slice lo n lc] 49)
  rq : ReqsAt lo n lc ps W
theorem RefAt.later {g : Nat} {base : Int} {lo : Option Addr} {n lc : Nat} {ps : List RP} {W W' : World} (h : RefAt g base lo n lc ps W) (hb : Below W.heap.size W W') : RefAt g base lo n lc ps W' :=
  ⟨(hb.block g (Array.getElem?_eq_some_iff.1 h.at_).1).trans h.at_, h.rq.later hb⟩
theorem RefAt.cells {g : Nat} {base : Int} {lo : Option Addr} {n lc : Nat} {ps : List RP} {W : World} (h : RefAt g base lo n lc ps W) : W.cell? ⟨g, 0, none⟩ = some (.int .u64 base) ∧ W.cell? ⟨g, 1, none⟩ = some (.slice lo n lc) ∧ ∀ i, W.frozen? ⟨g, i, none⟩ = false := by
  have := h.at_
  simp [World.cell?, World.frozen?, this]
theorem szP_le {p : RP} {W : World} (h : OpAt W p.1.op p.2) : 0 ≤ szP p ∧ szP p ≤ 5000000 := by
  have := (opC_all W p.1.op p.2 h).len
  unfold szP
  omega
theorem ReqsAt.sizes {ao : Option Addr} {n cap : Nat} {ps : List RP} {W : World} (h : ReqsAt ao n cap ps W) : ∀ z ∈ ps.map szP, 0 ≤ z ∧ z ≤ 5000000 := by
  intro z hz
  obtain ⟨p, hp, rfl⟩ := List.mem_map.1 hz
  exact szP_le (h.ops p hp)

set_option maxRecDepth 100000 in
theorem rend_log (g : Nat) (base : Int) (lo : Option Addr) (n lc : Nat) (ps : List RP) (w : World) (h : RefAt g base lo n lc ps w) (hn : n ≤ 1000000) (h0 : 0 ≤ base) (h1 : base ≤ 9000000000000000000) :
    Calls Tryz.prog 53 #[.pointer (some ⟨g, 0, none⟩)] w fun e w' => e = .returned (.int .u64 (base + n)) ∧ ∃ q, w' = w.drewN q := by
  obtain ⟨c0, c1, -⟩ := h.cells
  have hw1 : IntKind.wrap .u64 (n : Int) = (n : Int) := by rw [IntKind.wrap_u64]; omega
  have hw2 : IntKind.wrap .u64 (base + (n : Int)) = base + (n : Int) := by rw [IntKind.wrap_u64]; omega
  go_enter Tryz.func53, Tryz.ntmps53
  go_upto_region 1 with fail
  go_quiet (fail)
  go_wp2_with fail
  go_ret
  exact ⟨rfl, nq, rfl⟩

set_option maxRecDepth 100000 in
theorem rin_log (g : Nat) (base : Int) (lo : Option Addr) (n lc : Nat) (ps : List RP) (x : Int) (w : World) (h : RefAt g base lo n lc ps w) (hn : n ≤ 1000000) (h0 : 0 ≤ base) (h1 : base ≤ 9000000000000000000) :
    Calls Tryz.prog 48 #[.pointer (some ⟨g, 0, none⟩), .int .u64 x] w fun e w' => e = .returned (.bool (decide (base ≤ x) && decide (x ≤ base + n))) ∧ ∃ q, w' = w.drewN q := by
  obtain ⟨c0, c1, -⟩ := h.cells
  have hend := rend_log g base lo n lc ps w h hn h0 h1
  clear hn h0 h1
  cases f1 : decide (base ≤ x)
  · go_enter Tryz.func48, Tryz.ntmps48
    go_wp2_with fail
    go_ret
    exact ⟨rfl, 0, rfl⟩
  · go_enter Tryz.func48, Tryz.ntmps48
    go_wp2_with fail
    refine hend.mono ?_
    rintro e w1 ⟨rfl, q, rfl⟩
    go_wp2_with fail
    go_ret
    exact ⟨rfl, q, rfl⟩
end Go.Proofs.YtghjgajgjhbjpaaGreat.Msg
