/-
  MessageRequests: what holds as the law goes on.
-/
import Derived.Test.YtgeafnggodkpaaaGreatSh
namespace Go.Proofs.YtgeafnggodkpaaaGreat.Msg
open Go.RowKit Go.Lib Go.Proofs.YtgeafnggodkpaaaGreat.Mem Go.Proofs.YtgeafnggodkpaaaGreat.Tlv

/-- The four requests, as the law goes on. -/
structure ReqsAt (w : World) (v v' Y Z : RV) (c c' cY cZ : OC) (yb zb : Nat) (ax : Option Addr) (cx : Nat) (lx : List UInt8) (W : World) : Prop where
  bel : Below w.heap.size w W
  b0 : W.heap[w.heap.size]? = some v.box
  b1 : W.heap[w.heap.size + 1]? = some v'.box
  b2 : W.heap[yb]? = some Y.box
  b3 : W.heap[zb]? = some Z.box
  o0 : OpAt W v.op c
  o1 : OpAt W v'.op c'
  o2 : OpAt W Y.op cY
  o3 : OpAt W Z.op cZ
  rx : Rd W 1 ax lx.length cx (byV lx)
theorem ReqsAt.step {w : World} {v v' Y Z : RV} {c c' cY cZ : OC} {yb zb : Nat} {ax : Option Addr} {cx : Nat} {lx : List UInt8} {W W' : World} (h : ReqsAt w v v' Y Z c c' cY cZ yb zb ax cx lx W) (hb : Below W.heap.size W W') : ReqsAt w v v' Y Z c c' cY cZ yb zb ax cx lx W' :=
  ⟨h.bel.trans (hb.mono h.bel.size), (hb.block _ (Array.getElem?_eq_some_iff.1 h.b0).1).trans h.b0, (hb.block _ (Array.getElem?_eq_some_iff.1 h.b1).1).trans h.b1, (hb.block _ (Array.getElem?_eq_some_iff.1 h.b2).1).trans h.b2, (hb.block _ (Array.getElem?_eq_some_iff.1 h.b3).1).trans h.b3, h.o0.later hb, h.o1.later hb, h.o2.later hb, h.o3.later hb, h.rx.later hb⟩
/-- .. what is needed to its end. -/
structure ReqEnd (w : World) (v : RV) (c : OC) (ax : Option Addr) (cx : Nat) (lx : List UInt8) (W : World) : Prop where
  bel : Below w.heap.size w W
  b0 : W.heap[w.heap.size]? = some v.box
  o0 : OpAt W v.op c
  rx : Rd W 1 ax lx.length cx (byV lx)
theorem ReqEnd.step {w : World} {v : RV} {c : OC} {ax : Option Addr} {cx : Nat} {lx : List UInt8} {W W' : World} (h : ReqEnd w v c ax cx lx W) (hb : Below W.heap.size W W') : ReqEnd w v c ax cx lx W' :=
  ⟨h.bel.trans (hb.mono h.bel.size), (hb.block _ (Array.getElem?_eq_some_iff.1 h.b0).1).trans h.b0, h.o0.later hb, h.rx.later hb⟩
theorem ReqsAt.rest {w : World} {v v' Y Z : RV} {c c' cY cZ : OC} {yb zb : Nat} {ax : Option Addr} {cx : Nat} {lx : List UInt8} {W : World} (h : ReqsAt w v v' Y Z c c' cY cZ yb zb ax cx lx W) : ReqEnd w v c ax cx lx W := ⟨h.bel, h.b0, h.o0, h.rx⟩

theorem opAt_zero (W : World) : OpAt W zeroR.op ⟨[], [], []⟩ := ⟨Rd.nil _ _, Rd.nil _ _, Rd.nil _ _, Nat.zero_le _, Nat.zero_le _, Nat.zero_le _⟩
theorem sameReq_yes {r r' : RV} {c c' : OC} (h1 : r.cl = r'.cl) (h2 : r.nu = r'.nu) (h : sameOp r.op c r'.op c' = true) : sameReq r c r' c' = true := by
  unfold sameReq
  rw [decide_eq_true h1, decide_eq_true h2, h]
  rfl
def AnsQ (Y : RV) (cY : OC) (b : List UInt8) (yes no : Prop) : Prop := (yes ∧ U64R Y ∧ mayOp Y.op cY = true ∧ reqL Y (opL Y.op cY) = b) ∨ (no ∧ Y = zeroR ∧ cY = ⟨[], [], []⟩ ∧ NoReq b)
theorem ansq_prog {T : World → OV → Prop} {b : List UInt8} {w w' : World} {e : Ending} (h : GivesRq T (.int .i64 0) (.int .i64 4) b w e w') : ∃ (f : Int) (Y : RV) (cY : OC), e = .returned (.tuple #[Y.val, .int .i64 f]) ∧ OpAt w' Y.op cY ∧ Below w.heap.size w w' ∧ AnsQ Y cY b (f = 0) (f = 4) := by
  obtain ⟨hb, ⟨Y, cY, rfl, oY, -, uY, mY, lY⟩ | ⟨rfl, n1⟩⟩ := h
  · exact ⟨0, Y, cY, rfl, oY, hb, .inl ⟨rfl, uY, mY, lY⟩⟩
  · exact ⟨4, zeroR, ⟨[], [], []⟩, rfl, opAt_zero _, hb, .inr ⟨rfl, rfl, rfl, n1⟩⟩
theorem ansq_ref {T : World → OV → Prop} {b : List UInt8} {w w' : World} {e : Ending} (h : GivesRq T (.bool true) (.bool false) b w e w') : ∃ (ok : Bool) (Y : RV) (cY : OC), e = .returned (.tuple #[Y.val, .bool ok]) ∧ OpAt w' Y.op cY ∧ Below w.heap.size w w' ∧ AnsQ Y cY b (ok = true) (ok = false) := by
  obtain ⟨hb, ⟨Y, cY, rfl, oY, -, uY, mY, lY⟩ | ⟨rfl, n1⟩⟩ := h
  · exact ⟨true, Y, cY, rfl, oY, hb, .inl ⟨rfl, uY, mY, lY⟩⟩
  · exact ⟨false, zeroR, ⟨[], [], []⟩, rfl, opAt_zero _, hb, .inr ⟨rfl, rfl, rfl, n1⟩⟩
theorem twoq_ans {W1 W2 : World} {b : List UInt8} {f : Int} {ok : Bool} {Y Z : RV} {cY cZ : OC} (oY : OpAt W1 Y.op cY) (oZ : OpAt W2 Z.op cZ) (h1 : AnsQ Y cY b (f = 0) (f = 4)) (h2 : AnsQ Z cZ b (ok = true) (ok = false)) :
    sameReq Y cY Z cZ = true ∧ ((ok = true ∧ f = 0) ∨ (ok = false ∧ f = 4)) := by
  rcases h1 with ⟨rfl, uY, mY, lY⟩ | ⟨rfl, rfl, rfl, n1⟩
  · rcases h2 with ⟨rfl, uZ, mZ, lZ⟩ | ⟨rfl, rfl, rfl, n2⟩
    · obtain ⟨h1, h2, h3⟩ := req_inj oY oZ mY mZ uY uZ (lY.trans lZ.symm)
      exact ⟨sameReq_yes h1 h2 h3, .inl ⟨rfl, rfl⟩⟩
    · exact absurd lY (n2 _ _ _ oY mY uY)
  · rcases h2 with ⟨rfl, uZ, mZ, lZ⟩ | ⟨rfl, rfl, rfl, n2⟩
    · exact absurd lZ (n1 _ _ _ oZ mZ uZ)
    · exact ⟨sameReq_yes rfl rfl (sameOp_refl _ _), .inr ⟨rfl, rfl⟩⟩

/-- A row that is told to change: its cells stay there, and good. -/
def RowW (t : TypeId) (m : Nat) (good : Value → Prop) (lo hi : Nat) (ao : Option Addr) (W : World) : Prop := 0 < m → ∃ g cur, ao = some ⟨g, 0, none⟩ ∧ lo ≤ g ∧ g < hi ∧ W.heap[g]? = some (.cells cur t (0, 0)) ∧ ∀ j, j < m → ∃ x, cur[j]? = some x ∧ good x
theorem RowW.of_own {t : TypeId} {W : World} {B lo n size m k : Nat} {ao : Option Addr} {xs : List Value} {good : Value → Prop} (h : W.ownsRow B t size (.slice ao n k) n xs) (hm : n * size = m) (hB : lo ≤ B) (hg : ∀ x ∈ xs, good x) : RowW t m good lo W.heap.size ao W := fun h0 => by
  rcases h.2 with ⟨_, hn⟩ | ⟨g, cap, cur, hv, hb, hc, h1, h2, h3, h4⟩
  · subst hn; rw [Nat.zero_mul] at hm; omega
  · cases hv
    refine ⟨g, cur, rfl, Nat.le_trans hB hb, (Array.getElem?_eq_some_iff.1 hc).1, hc, fun j hj => ?_⟩
    have hl := h.1
    obtain ⟨y, hx⟩ : ∃ y, xs[j]? = some y := ⟨_, List.getElem?_eq_getElem (by omega)⟩
    refine ⟨y, ?_, hg _ (List.mem_of_getElem? hx)⟩
    rw [← h4, List.getElem?_take] at hx
    split at hx
    · rw [← hx, Array.getElem?_toList]
    · cases hx
theorem RowW.set {t t' : TypeId} {W : World} {b i m lo hi : Nat} {cs : Array Value} {fr : Nat × Nat} {ao : Option Addr} {good : Value → Prop} {x : Value} (h : RowW t m good lo hi ao W) (hb : W.heap[b]? = some (.cells cs t' fr)) (hx : t' = t → good x) : RowW t m good lo hi ao (W.setCell ⟨b, i, none⟩ x) := fun h0 => by
  obtain ⟨g, cur, ha, hl, hh, hg, hc⟩ := h h0
  by_cases e : g = b
  · subst e
    rw [hg] at hb
    cases hb
    refine ⟨g, _, ha, hl, hh, at_set hg, fun j hj => ?_⟩
    obtain ⟨y, hy, gy⟩ := hc j hj
    have hjs := (Array.getElem?_eq_some_iff.1 hy).1
    by_cases e : i = j
    · subst e
      exact ⟨x, by rw [Array.getElem?_setIfInBounds]; simp [hjs], hx rfl⟩
    · exact ⟨y, by rw [Array.getElem?_setIfInBounds]; simp [e, hy], gy⟩
  · exact ⟨g, cur, ha, hl, hh, at_other hg e, hc⟩

theorem RowW.later {t : TypeId} {W W' : World} {m lo hi : Nat} {ao : Option Addr} {good : Value → Prop} (h : RowW t m good lo hi ao W) (hb : Below W.heap.size W W') : RowW t m good lo hi ao W' := fun h0 => by
  obtain ⟨g, cur, ha, hl, hh, hg, hc⟩ := h h0
  exact ⟨g, cur, ha, hl, hh, (hb.block _ (Array.getElem?_eq_some_iff.1 hg).1).trans hg, hc⟩
/-- A byte. -/
def IsU8 (x : Value) : Prop := ∃ z : Int, x = .int .u8 z
/-- The request of one's own is being changed, its copy stays. -/
structure LpAt (V : World) (M : Nat) (own q : RV) (c : OC) (ob cb : Nat) (W : World) : Prop where
  bel : Below V.heap.size V W
  bo : W.heap[ob]? = some own.box
  bc : W.heap[cb]? = some q.box
  oc : OpAt W q.op c
  r1 : RowW 5 own.op.cn IsU8 V.heap.size M own.op.co W
  r2 : RowW 9 own.op.bn (fun _ => True) V.heap.size M own.op.bo W
  r3 : RowW 53 (own.op.an * 2) (fun _ => True) V.heap.size M own.op.ao W
  fa : ∀ a, q.op.ao = some a → M ≤ a.block
  fb : ∀ a, q.op.bo = some a → M ≤ a.block
  fc : ∀ a, q.op.co = some a → M ≤ a.block
theorem LpAt.set {V W : World} {M ob cb b i : Nat} {own q : RV} {c : OC} {cs : Array Value} {t' : TypeId} {x : Value} (h : LpAt V M own q c ob cb W) (hb : W.heap[b]? = some (.cells cs t' (0, 0))) (ht : t' ≠ 43) (h1 : V.heap.size ≤ b) (h2 : b < M) (hx : t' = 5 → IsU8 x) : LpAt V M own q c ob cb (W.setCell ⟨b, i, none⟩ x) := by
  have e1 : ob ≠ b := fun e => by
    have := h.bo
    rw [e, hb] at this
    cases this
    exact ht rfl
  have e2 : cb ≠ b := fun e => by
    have := h.bc
    rw [e, hb] at this
    cases this
    exact ht rfl
  refine ⟨h.bel.setCell h1 x, at_other h.bo e1, at_other h.bc e2, h.oc.set _ _ (fun a ha => ?_) (fun a ha => ?_) (fun a ha => ?_), h.r1.set hb hx, h.r2.set hb (fun _ => trivial), h.r3.set hb (fun _ => trivial), h.fa, h.fb, h.fc⟩
  · have := h.fa a ha; show a.block ≠ b; omega
  · have := h.fb a ha; show a.block ≠ b; omega
  · have := h.fc a ha; show a.block ≠ b; omega
theorem LpAt.drew {V W : World} {M ob cb : Nat} {own q : RV} {c : OC} (h : LpAt V M own q c ob cb W) : LpAt V M own q c ob cb W.drew :=
  ⟨h.bel.drew, h.bo, h.bc, h.oc.later (Below.refl _ _).drew, h.r1, h.r2, h.r3, h.fa, h.fb, h.fc⟩
/-- A row of one's own beside a box that is written. -/
theorem own_box {W : World} {B b i size n : Nat} {e t : TypeId} {v x : Value} {xs : List Value} {cs : Array Value} {fr : Nat × Nat} (h : W.ownsRow B e size v n xs) (hb : W.heap[b]? = some (.cells cs t fr)) (ht : t ≠ e) : (W.setCell ⟨b, i, none⟩ x).ownsRow B e size v n xs :=
  own_kept h (fun k hk => Below.heap_setCell _ _ _ _ (fun e2 => by
    obtain ⟨_, _, cur, hc⟩ := own_blk h hk
    have e3 : k = b := e2
    rw [e3, hb] at hc
    cases hc
    exact ht rfl))
end Go.Proofs.YtgeafnggodkpaaaGreat.Msg
