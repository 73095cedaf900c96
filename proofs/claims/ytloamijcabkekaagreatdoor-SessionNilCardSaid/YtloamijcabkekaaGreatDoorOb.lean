/-
  A session; what it sends: the request that is under way, to some nodes.
-/
import Derived.Test.YtloamijcabkekaaGreatDoorOa
namespace Go.Proofs.YtloamijcabkekaaGreatDoor.Msg
open Go.RowKit Go.Lib Go.Proofs.YtloamijcabkekaaGreatDoor.Mem Go.Proofs.YtloamijcabkekaaGreatDoor.Tlv

/-- A session's cells. -/
structure SV where
  cl : Int
  nodes : Int
  num : Int
  un : Option Addr
  vi : Int
  la : Int
  told : Option Addr
  dr : Int
def SV.cells (s : SV) : Array Value := #[.int .u64 s.cl, .int .i64 s.nodes, .int .u64 s.num, .pointer s.un, .int .u64 s.vi, .int .u64 s.la, .pointer s.told, .int .i64 s.dr]
def SV.box (s : SV) : Obj := .cells s.cells 26
theorem sbox_all {W : World} {B : Nat} {s : SV} (h : W.heap[B]? = some s.box) : W.cell? ⟨B, 0, none⟩ = some (.int .u64 s.cl) ∧ W.cell? ⟨B, 1, none⟩ = some (.int .i64 s.nodes) ∧ W.cell? ⟨B, 2, none⟩ = some (.int .u64 s.num) ∧ W.cell? ⟨B, 3, none⟩ = some (.pointer s.un) ∧ W.cell? ⟨B, 4, none⟩ = some (.int .u64 s.vi) ∧ W.cell? ⟨B, 5, none⟩ = some (.int .u64 s.la) ∧ W.cell? ⟨B, 6, none⟩ = some (.pointer s.told) ∧ W.cell? ⟨B, 7, none⟩ = some (.int .i64 s.dr) ∧ ∀ i, W.frozen? ⟨B, i, none⟩ = false := by
  unfold SV.box SV.cells at h
  simp [World.cell?, World.frozen?, h]

/-- The cells of what is sent, node by node. -/
def sents (i0 : Int) : List Value → List Value
  | [] => []
  | v :: l => .int .i64 i0 :: .int .u64 0 :: v :: sents (i0 + 1) l
theorem sents_app (v : Value) : ∀ (l : List Value) (i0 : Int), sents i0 (l ++ [v]) = sents i0 l ++ [.int .i64 (i0 + l.length), .int .u64 0, v]
  | [], i0 => by simp [sents]
  | u :: l, i0 => by
    have := sents_app v l (i0 + 1)
    simp only [List.cons_append, sents, this, List.length_cons]
    rw [show i0 + 1 + (l.length : Int) = i0 + ((l.length + 1 : Nat) : Int) by omega]
theorem own_grown {W W' : World} {B n size : Nat} {e : TypeId} {v : Value} {xs : List Value} {row : Option Nat} (h : W.ownsRow B e size v n xs) (hg : W.grownBy W' row) (hne : ∀ k, v.ownBlock = some k → some k ≠ row) : W'.ownsRow B e size v n xs := by
  obtain ⟨h1, h2⟩ := h
  refine ⟨h1, ?_⟩
  rcases h2 with h2 | ⟨g, cap, cur, hv, hbg, hgg, rest⟩
  · exact .inl h2
  · refine .inr ⟨g, cap, cur, hv, hbg, (hg.block g (Array.getElem?_eq_some_iff.1 hgg).1 (hne g (by rw [hv]; rfl))).trans hgg, rest⟩
theorem own_ne2 {W : World} {B B' n n' size size' : Nat} {e e' : TypeId} {v v' : Value} {xs xs' : List Value} (h : W.ownsRow B e size v n xs) (h' : W.ownsRow B' e' size' v' n' xs') (he : e ≠ e') : ∀ k, v.ownBlock = some k → some k ≠ v'.ownBlock := by
  intro k hk hk'
  rcases h.2 with ⟨rfl, -⟩ | ⟨g, cap, cur, rfl, -, hg, -⟩
  · cases hk
  · have e1 : g = k := by simpa [Value.ownBlock] using hk
    subst e1
    exact own_oth hg (fun c fr hc => he (by cases hc; rfl)) h' hk'.symm

theorem sentT : SliceT Tryz.prog 29 81 (.agg #[.int .i64 0, .int .u64 0, .slice none 0 0]) 3 40 := ⟨Tryz.underlying29, by kernel_rfl, rfl, by decide⟩

/-- What was sent so far. -/
structure ToAt (B : Nat) (i0 : Int) (b : List UInt8) (l : List Value) (ov : Value) (W : World) : Prop where
  row : W.ownsRow B 81 3 ov l.length (sents i0 l)
  each : ∀ v ∈ l, W.ownsRow B 5 1 v b.length (byV b)
def GivesTo (i0 : Int) (k : Nat) (b : List UInt8) (w : World) (e : Ending) (w' : World) : Prop := ∃ l ov, e = .returned ov ∧ l.length = k ∧ ToAt w.heap.size i0 b l ov w' ∧ Below w.heap.size w w'
theorem ToAt.later {B : Nat} {i0 : Int} {b : List UInt8} {l : List Value} {ov : Value} {W W' : World} (h : ToAt B i0 b l ov W) (hb : Below W.heap.size W W') : ToAt B i0 b l ov W' :=
  ⟨own_later h.row hb, fun v hv => own_later (h.each v hv) hb⟩
theorem rd_kept {w w' : World} {size : Nat} {ao : Option Addr} {n cap : Nat} {xs : List Value} (h : Rd w size ao n cap xs) (hz : w.heap.size ≤ w'.heap.size) (hb : ∀ a, ao = some a → w'.heap[a.block]? = w.heap[a.block]?) : Rd w' size ao n cap xs := by
  obtain ⟨h1, h2, h3, h4, h5⟩ := h
  refine ⟨h1, h2, h3, h4, fun h0 a ha => ?_⟩
  obtain ⟨s, l, c⟩ := h5 h0 a ha
  exact ⟨s, Nat.lt_of_lt_of_le l hz, fun j u hu => (World.cell?_of_block (a := ⟨a.block, a.off + j, none⟩) (hb a ha)).trans (c j u hu)⟩
theorem own_mono {W : World} {B B' n size : Nat} {e : TypeId} {v : Value} {xs : List Value} (h : W.ownsRow B e size v n xs) (hB : B' ≤ B) : W.ownsRow B' e size v n xs := by
  obtain ⟨h1, h2⟩ := h
  refine ⟨h1, ?_⟩
  rcases h2 with h2 | ⟨g, cap, cur, hv, hbg, hgg, rest⟩
  · exact .inl h2
  · exact .inr ⟨g, cap, cur, hv, Nat.le_trans hB hbg, hgg, rest⟩
theorem ToAt.mono {B B' : Nat} {i0 : Int} {b : List UInt8} {l : List Value} {ov : Value} {W : World} (h : ToAt B i0 b l ov W) (hB : B' ≤ B) : ToAt B' i0 b l ov W :=
  ⟨own_mono h.row hB, fun v hv => own_mono (h.each v hv) hB⟩
/-- to goes on: l was sent so far, behind a world of B blocks. -/
structure ToGoes (B : Nat) (w : World) (i0 : Int) (b : List UInt8) (bo : Option Addr) (bc : Nat) (l : List Value) (ov : Value) (W : World) : Prop where
  at_ : ToAt B i0 b l ov W
  rd : Rd W 1 bo b.length bc (byV b)
  bel : Below w.heap.size w W
  le : B ≤ W.heap.size
  old : 0 < bc → ∀ a, bo = some a → a.block < B
  low : w.heap.size ≤ B

theorem one3 (k : Int) (ao : Option Addr) (n cap : Nat) : ∀ u ∈ ([.int .i64 k, .int .u64 0, .slice ao n cap] : List Value), u.oneCell' = true := by
  intro u hu
  simp only [List.mem_cons, List.not_mem_nil, or_false] at hu
  rcases hu with rfl | rfl | rfl <;> rfl
theorem ToGoes.step {B : Nat} {w : World} {i0 : Int} {b : List UInt8} {bo : Option Addr} {bc : Nat} {l : List Value} {ov : Value} {W w2 w3 : World} {ao1 ao2 : Option Addr} {cap1 cap2 : Nat} (h : ToGoes B w i0 b bo bc l ov W)
    (ho1 : w2.ownsRow W.heap.size 5 1 (.slice ao1 b.length cap1) b.length (byV b)) (hb2 : Below W.heap.size W w2)
    (ho2 : w3.ownsRow B 81 3 (.slice ao2 (l.length + 1) cap2) (l.length + 1) (sents i0 l ++ [.int .i64 (i0 + (l.length : Int)), .int .u64 0, .slice ao1 b.length cap1]))
    (hg2 : (w2.alloc (.cells #[.int .i64 (i0 + (l.length : Int)), .int .u64 0, .slice ao1 b.length cap1] 81)).grownBy w3 ov.ownBlock) (hb3 : Below B w2 w3) :
    ToGoes B w i0 b bo bc (l ++ [.slice ao1 b.length cap1]) (.slice ao2 (l.length + 1) cap2) w3 := by
  have hA2 := h.at_.later hb2
  have hk : ∀ v, w2.ownsRow B 5 1 v b.length (byV b) → w3.ownsRow B 5 1 v b.length (byV b) := fun v hv =>
    own_grown (hv.alloc _) hg2 (own_ne2 hv hA2.row (by decide))
  refine ⟨⟨by rw [List.length_append, sents_app]; exact ho2, fun v hv => ?_⟩, (h.rd.later hb2).below hb3 h.old, (h.bel.trans (hb2.mono h.bel.size)).trans (hb3.mono h.low), Nat.le_trans (Nat.le_trans h.le hb2.size) hb3.size, h.old, h.low⟩
  rcases List.mem_append.1 hv with hv | hv
  · exact hk _ (hA2.each v hv)
  · rw [List.mem_singleton] at hv
    subst hv
    exact hk _ (own_mono ho1 h.le)

set_option maxRecDepth 100000 in
set_option maxHeartbeats 8000000 in
theorem to_ok (S : SV) (sb rb : Nat) (r : RV) (c : OC) (i0 : Int) (k : Nat) (w : World) (hs : w.heap[sb]? = some S.box) (hu : S.un = some ⟨rb, 0, none⟩) (hr : w.heap[rb]? = some r.box) (ho : OpAt w r.op c) (hm : mayOp r.op c = true) (hcl : 0 ≤ r.cl) (hnu : 0 ≤ r.nu)
    (h0 : 0 ≤ i0) (h7 : i0 ≤ 1000) (hk : k ≤ 1000) : Calls Tryz.prog 18 #[.pointer (some ⟨sb, 0, none⟩), .int .i64 i0, .int .i64 (i0 + (k : Int))] w (GivesTo i0 k (packQ r c) w) := by
  obtain ⟨-, -, -, c3, -⟩ := sbox_all hs
  rw [hu] at c3
  have hq := hr
  unfold RV.box RV.cells at hq
  have hbytes := bytes_req r c w ho hm hcl hnu
  have hlen := (opC_all w r.op c ho).len
  have hl2 : (packQ r c).length ≤ 8388608 := by rw [packQ_len]; omega
  unfold reqM FM.val FM.cells at hbytes
  dsimp only at hbytes
  clear hu hs hr hlen
  go_enter Tryz.func18, Tryz.ntmps18
  go_wp2_with (refine wpList_load_row hq rfl rfl rfl (by kernel_rfl) (by kernel_rfl) ?_; go_simp)
  refine hbytes.mono ?_
  rintro e w1 ⟨bo, bc, rfl, hb, hb1, hfr⟩
  have hG : ToGoes w1.heap.size w i0 (packQ r c) bo bc [] (.slice none 0 0) w1 := ⟨⟨World.ownsRow_nil _ _ _ _, fun v hv => (by cases hv)⟩, hb, hb1, Nat.le_refl _, hb.lt, hb1.size⟩
  clear hbytes hq c3 hb hb1 hfr
  generalize packQ r c = b at *
  generalize w1.heap.size = B at *
  have K := Lib.hid hk
  clear hk
  go_wp2_with fail
  go_loopw [6, 9] (fun o i wr => ∃ l, ToGoes B w i0 b bo bc l o wr ∧ i = .int .i64 (i0 + (l.length : Int)) ∧ l.length ≤ k) (fun _ i _ => (i0 + k - intOf i).toNat)
  case atStart => exact ⟨[], hG, by simp, Nat.zero_le _⟩
  case round =>
    obtain ⟨l, hB, rfl, hlk⟩ := hrel
    have hw : IntKind.wrap .i64 (i0 + (l.length : Int) + 1) = i0 + (l.length : Int) + 1 := by have := K.out; rw [IntKind.wrap_i64]; omega
    by_cases hend : l.length = k
    · have hd : decide (i0 + (l.length : Int) < i0 + (k : Int)) = false := decide_eq_false (by omega)
      go_wp2_with fail
      go_ret
      exact ⟨l, _, rfl, hend, hB.at_.mono hB.low, hB.bel⟩
    · have hd : decide (i0 + (l.length : Int) < i0 + (k : Int)) = true := decide_eq_true (by omega)
      have hN : l.length + 1 ≤ 10000000000 := by have := K.out; omega
      have ho0 : wr.ownsRow wr.heap.size 5 1 (.slice none 0 0) 0 (byV []) := World.ownsRow_nil _ _ _ _
      go_wp2_with (first | (at_builtin; refine wpList_app _ rfl (.const (.slice none 0 0)) (.tmp 31) 36 rfl wr.heap.size 5 (.int .u8 0) 1 1 byT _ 0 (byV []) rfl ho0 bo b.length bc (byV b) rfl hB.rd (byV_one _) (by unfold maxLen; omega) (by omega) (Nat.le_refl _) ?_; rw [Nat.zero_add]; intro ao1 cap1 w2 ho1 hg1 hb2 _; have hX := own_later hB.at_.row hb2; have hz2 := Nat.le_trans hB.le hb2.size) | (at_builtin; refine wpList_lit _ rfl (.tmp 29) (.tmp 34) 29 rfl B 81 (.agg #[.int .i64 0, .int .u64 0, .slice none 0 0]) 3 40 sentT (by decide) _ _ _ rfl hX 1 [.int .i64 (i0 + (l.length : Int)), .int .u64 0, .slice ao1 b.length cap1] rfl rfl (one3 _ _ _ _) hz2 hN ?_; intro ao2 cap2 w3 ho2 hg2 hb3 _))
      go_roundw
      case rel => exact ⟨l ++ [.slice ao1 b.length cap1], hB.step ho1 hb2 ho2 hg2 hb3, by simp; omega, by simp; omega⟩
      case measure => have := K.out; simp [intOf]; omega
end Go.Proofs.YtloamijcabkekaaGreatDoor.Msg
