/-
  A part of the proof: what this text holds is told at each of its declarations.
-/
import Derived.Test.YtgeafnggodkpaaaGreatZaaz
import Derived.Test.YtgeafnggodkpaaaGreatZaar
namespace Go.Proofs.YtgeafnggodkpaaaGreat.Msg
open Go.RowKit Go.Lib Go.Proofs.YtgeafnggodkpaaaGreat.Mem Go.Proofs.YtgeafnggodkpaaaGreat.Tlv

/-- An operation with other parts. -/
def OV.parts (v : OV) (a : Option Addr) (n k : Nat) : OV := ⟨v.k, v.name, v.to, v.ao, v.an, v.ac, a, n, k, v.co, v.cn, v.cc, v.n⟩
/-- The worlds in which an operation stands in its box. -/
def InO (ob : Nat) (v : OV) (W : World) : Prop := W.heap[ob]? = some v.box
theorem InO.step {ob : Nat} {v : OV} {W W' : World} (h : InO ob v W) (hb : Below W.heap.size W W') : InO ob v W' := (hb.block _ (Array.getElem?_eq_some_iff.1 h).1).trans h
theorem InO.grown {ob : Nat} {v : OV} {W W' : World} {row : Option Nat} (h : InO ob v W) (hg : W.grownBy W' row) (hne : some ob ≠ row) : InO ob v W' := (hg.block _ (Array.getElem?_eq_some_iff.1 h).1 hne).trans h

end Go.Proofs.YtgeafnggodkpaaaGreat.Msg
namespace Go.Proofs.YtgeafnggodkpaaaGreat.Msg
open Go.RowKit Go.Lib Go.Proofs.YtgeafnggodkpaaaGreat.Mem Go.Proofs.YtgeafnggodkpaaaGreat.Tlv

/-- Rows of bytes, texts and attributes stay. -/
structure KeepR (W W' : World) : Prop where
  size : W.heap.size ≤ W'.heap.size
  rows : ∀ (k : Nat) (c : Array Value) (t : TypeId) (fr : Nat × Nat), (t = 5 ∨ t = 9 ∨ t = 53) → W.heap[k]? = some (Obj.cells c t fr) → W'.heap[k]? = some (Obj.cells c t fr)
theorem KeepR.trans {a b c : World} (h : KeepR a b) (h' : KeepR b c) : KeepR a c := ⟨Nat.le_trans h.size h'.size, fun k x t fr ht hk => h'.rows k x t fr ht (h.rows k x t fr ht hk)⟩
theorem KeepR.of_below {a b : World} (h : Below a.heap.size a b) : KeepR a b := ⟨h.size, fun k _ _ _ _ hk => (h.block k (Array.getElem?_eq_some_iff.1 hk).1).trans hk⟩
/-- .. where only such blocks change as are no rows. -/
theorem KeepR.of_belX {a b : World} {xs : List Nat} (h : BelX a.heap.size xs a b) (hx : ∀ k ∈ xs, ∃ o, a.heap[k]? = some o ∧ ∀ (c : Array Value) (t : TypeId) (fr : Nat × Nat), (t = 5 ∨ t = 9 ∨ t = 53) → o ≠ .cells c t fr) : KeepR a b := by
  refine ⟨h.size, fun k c t fr ht hk => h.at_ hk (Array.getElem?_eq_some_iff.1 hk).1 (fun hm => ?_)⟩
  obtain ⟨o, h1, h2⟩ := hx k hm
  rw [hk] at h1
  exact h2 c t fr ht (Option.some.inj h1).symm
theorem rd_kpr {a b : World} {size : Nat} {ao : Option Addr} {n cap : Nat} {xs : List Value} {t : TypeId} (ht : t = 5 ∨ t = 9 ∨ t = 53) (h : Rd a size ao n cap xs) (hy : TyX t a ao cap) (hk : KeepR a b) : Rd b size ao n cap xs := by
  obtain ⟨h1, h2, h3, h4, h5⟩ := h
  refine ⟨h1, h2, h3, h4, fun h0 x hx => ?_⟩
  obtain ⟨s1, l, c⟩ := h5 h0 x hx
  obtain ⟨c', fr, h6⟩ := hy h0 x hx
  exact ⟨s1, Nat.lt_of_lt_of_le l hk.size, fun j u hu => (World.cell?_of_block (a := ⟨x.block, x.off + j, none⟩) ((hk.rows _ _ _ _ ht h6).trans h6.symm)).trans (c j u hu)⟩
theorem TyX.kpr {a b : World} {ao : Option Addr} {cap : Nat} {t : TypeId} (ht : t = 5 ∨ t = 9 ∨ t = 53) (hy : TyX t a ao cap) (hk : KeepR a b) : TyX t b ao cap := fun h0 x hx => by
  obtain ⟨c', fr, h6⟩ := hy h0 x hx
  exact ⟨c', fr, hk.rows _ _ _ _ ht h6⟩
/-- An operation's slices point into rows. -/
structure OpTy (W : World) (v : OV) : Prop where
  a : TyX 53 W v.ao v.ac
  b : TyX 9 W v.bo v.bc
  c : TyX 5 W v.co v.cc
theorem OpTy.kpr {a b : World} {v : OV} (h : OpTy a v) (hk : KeepR a b) : OpTy b v := ⟨h.a.kpr (.inr (.inr rfl)) hk, h.b.kpr (.inr (.inl rfl)) hk, h.c.kpr (.inl rfl) hk⟩
theorem OpAt.kpr {a b : World} {v : OV} {c : OC} (h : OpAt a v c) (hy : OpTy a v) (hk : KeepR a b) : OpAt b v c :=
  ⟨rd_kpr (.inr (.inr rfl)) h.a hy.a hk, rd_kpr (.inr (.inl rfl)) h.b hy.b hk, rd_kpr (.inl rfl) h.c hy.c hk, h.la, h.lb, h.lc⟩

set_option maxRecDepth 100000 in
theorem rbytes2_any (B g : Nat) (s : RS) (t : UInt8) (W : World) (hr : RdS B g s W) (hl : s.l.length ≤ 100000000) : Calls Tryz.prog 52 #[.pointer (some ⟨g, 0, none⟩), .int .u8 (t.toNat : Int)] W fun e w' =>
    ∃ ao cap, e = .returned (.slice ao (s.bytes t).1.length cap) ∧ Rd w' 1 ao (s.bytes t).1.length cap (byV (s.bytes t).1) ∧ TyX 5 w' ao cap ∧ RdS B g (s.bytes t).2 w' ∧ W.grownBy w' (some g) := by
  have hc := take_any B g s t W hr hl
  unfold GivesT at hc
  unfold RS.bytes
  generalize s.take t = tk at *
  obtain ⟨ox, s'⟩ := tk
  cases ox with
  | none =>
    go_enter Tryz.func52, Tryz.ntmps52
    go_wp2_with fail
    refine hc.mono ?_
    rintro e w' ⟨h1, h2, rfl⟩
    go_wp2
    go_ret
    exact ⟨none, 0, rfl, Rd.nil _ _, fun h => absurd h (Nat.lt_irrefl 0), h1, h2⟩
  | some x =>
    go_enter Tryz.func52, Tryz.ntmps52
    go_wp2_with fail
    refine hc.mono ?_
    rintro e w' ⟨h1, h2, ao, cap, rfl, h4, h5⟩
    go_wp2
    go_ret
    exact ⟨ao, cap, rfl, h4, h5, h1, h2⟩
end Go.Proofs.YtgeafnggodkpaaaGreat.Msg
namespace Go.Proofs.YtgeafnggodkpaaaGreat.Msg
open Go.RowKit Go.Lib Go.Proofs.YtgeafnggodkpaaaGreat.Mem Go.Proofs.YtgeafnggodkpaaaGreat.Tlv

theorem Part.next {α : Type} {body : α → List UInt8} {may good : α → Prop} {b : List UInt8} {v v' : OV} {c c' : OC} {ls more : List UInt8} {s s' : RS} {x : UInt8} {y : α} (h : Part b v c ls s) (T : Took body may good s y s') (hk : v'.k = v.k) (hf : fieldsOf v.k = ls ++ x :: more) (heq : ∀ l ∈ ls, bd v' c' l = bd v c l) (honly : OnlyL (ls ++ [x]) v' c')
    (n0 : 0 ≤ v'.n) (n1 : v'.n < 9223372036854775808) (hy : letV v' c' x = body y) (hgood : good y → (bd v' c' x).length ≤ 4194304) (hmay : ∀ W v2 c2, OpAt W v2 c2 → mayOp v2 c2 = true → ∃ z, may z ∧ letV v2 c2 x = body z) : Part b v' c' (ls ++ [x]) s' := by
  refine h.step hk hf heq honly n0 n1 T.le (fun hb => ?_) (fun hb => ?_)
  · obtain ⟨h1, h2, h3⟩ := T.yes hb
    exact ⟨h1, by rw [hy]; exact h2, hgood h3⟩
  · refine (T.no hb).imp id (fun hn W v2 c2 rest ho hm e => ?_)
    obtain ⟨z, hz, hl⟩ := hmay W v2 c2 ho hm
    rw [hl] at e
    exact hn z rest hz e

theorem ls_letters {k : Int} {ls more : List UInt8} (hf : fieldsOf k = ls ++ more) : ∀ l ∈ ls, l = 110 ∨ l = 116 ∨ l = 97 ∨ l = 112 ∨ l = 99 ∨ l = 107 := by
  intro l hl
  have hm : l ∈ fieldsOf k := by rw [hf]; exact List.mem_append_left _ hl
  obtain ⟨j, hj⟩ := List.getElem?_of_mem hm
  exact letters k j l hj
theorem bd_len (W : World) {v : OV} {c : OC} (ho : OpAt W v c) (hm : mayOp v c = true) (l : UInt8) : (bd v c l).length ≤ 4194304 := by have := (may_bd ho hm).1 l; omega
theorem OnlyL.more {ls : List UInt8} {v : OV} {c : OC} {x : UInt8} (h : OnlyL ls v c) : OnlyL (ls ++ [x]) v c where
  name := fun hn => h.name (fun hm => hn (List.mem_append_left _ hm))
  to_ := fun hn => h.to_ (fun hm => hn (List.mem_append_left _ hm))
  attrs := fun hn => h.attrs (fun hm => hn (List.mem_append_left _ hm))
  parts := fun hn => h.parts (fun hm => hn (List.mem_append_left _ hm))
  cursor := fun hn => h.cursor (fun hm => hn (List.mem_append_left _ hm))
  n := fun hn => h.n (fun hm => hn (List.mem_append_left _ hm))

def OV.setName (v : OV) (x : ByteArray) : OV := ⟨v.k, x, v.to, v.ao, v.an, v.ac, v.bo, v.bn, v.bc, v.co, v.cn, v.cc, v.n⟩
def OV.setTo (v : OV) (x : ByteArray) : OV := ⟨v.k, v.name, x, v.ao, v.an, v.ac, v.bo, v.bn, v.bc, v.co, v.cn, v.cc, v.n⟩
def OV.setAttrs (v : OV) (a : Option Addr) (n k : Nat) : OV := ⟨v.k, v.name, v.to, a, n, k, v.bo, v.bn, v.bc, v.co, v.cn, v.cc, v.n⟩
def OV.setCur (v : OV) (a : Option Addr) (n k : Nat) : OV := ⟨v.k, v.name, v.to, v.ao, v.an, v.ac, v.bo, v.bn, v.bc, a, n, k, v.n⟩
def OV.setN (v : OV) (n : Int) : OV := ⟨v.k, v.name, v.to, v.ao, v.an, v.ac, v.bo, v.bn, v.bc, v.co, v.cn, v.cc, n⟩

section
variable {b : List UInt8} {v : OV} {c : OC} {ls more : List UInt8} {s s' : RS}
theorem Part.name {y : List UInt8} (h : Part b v c ls s) (T : Took (val 2) (fun z => z.length ≤ 4194304) (fun z => z.length ≤ 4194304) s y s') (hf : fieldsOf v.k = ls ++ 110 :: more) (hx : 110 ∉ ls) : Part b (v.setName ⟨y.toArray⟩) c (ls ++ [110]) s' := by
  refine h.next T rfl hf (fun l hl => ?_) ⟨fun hn => absurd (by simp) hn, h.only.more.to_, h.only.more.attrs, h.only.more.parts, h.only.more.cursor, h.only.more.n⟩ h.n0 h.n1 rfl (fun hg => hg) (fun W v2 c2 ho hm => ⟨_, bd_len W ho hm 110, rfl⟩)
  have hne : ¬ l = 110 := fun e => hx (e ▸ hl)
  simp only [bd, if_neg hne, OV.setName]
theorem Part.to_ {y : List UInt8} (h : Part b v c ls s) (T : Took (val 3) (fun z => z.length ≤ 4194304) (fun z => z.length ≤ 4194304) s y s') (hf : fieldsOf v.k = ls ++ 116 :: more) (hx : 116 ∉ ls) : Part b (v.setTo ⟨y.toArray⟩) c (ls ++ [116]) s' := by
  refine h.next T rfl hf (fun l hl => ?_) ⟨h.only.more.name, fun hn => absurd (by simp) hn, h.only.more.attrs, h.only.more.parts, h.only.more.cursor, h.only.more.n⟩ h.n0 h.n1 rfl (fun hg => hg) (fun W v2 c2 ho hm => ⟨_, bd_len W ho hm 116, rfl⟩)
  have hne : ¬ l = 116 := fun e => hx (e ▸ hl)
  simp only [bd, if_neg hne, OV.setTo]
theorem Part.attrs {y : List (ByteArray × ByteArray)} {a : Option Addr} {n k : Nat} (h : Part b v c ls s) (T : Took (fun ys => val 4 (attB ys)) (fun ys => ys.length ≤ 50 ∧ (attB ys).length ≤ 4194304) (fun ys => (attB ys).length ≤ 4194304) s y s') (hf : fieldsOf v.k = ls ++ 97 :: more) (hx : 97 ∉ ls) : Part b (v.setAttrs a n k) ⟨y, c.parts, c.cursor⟩ (ls ++ [97]) s' := by
  refine h.next T rfl hf (fun l hl => ?_) ⟨h.only.more.name, h.only.more.to_, fun hn => absurd (by simp) hn, h.only.more.parts, h.only.more.cursor, h.only.more.n⟩ h.n0 h.n1 rfl (fun hg => hg) (fun W v2 c2 ho hm => ⟨c2.attrs, ⟨?_, bd_len W ho hm 97⟩, rfl⟩)
  · have hne : ¬ l = 97 := fun e => hx (e ▸ hl)
    simp only [bd, if_neg hne, OV.setAttrs]
  · obtain ⟨_, h2, _⟩ := may_parts W ho hm
    have := ho.a.1
    rw [atV_len] at this
    have := h2.an
    omega
theorem Part.parts {y : List ByteArray} {a : Option Addr} {n k : Nat} (h : Part b v c ls s) (T : Took (fun ys => val 5 (parB ys)) (fun ys => ys.length ≤ 8 ∧ (parB ys).length ≤ 4194304) (fun ys => (parB ys).length ≤ 4194304) s y s') (hf : fieldsOf v.k = ls ++ 112 :: more) (hx : 112 ∉ ls) : Part b (v.parts a n k) ⟨c.attrs, y, c.cursor⟩ (ls ++ [112]) s' := by
  refine h.next T rfl hf (fun l hl => ?_) ⟨h.only.more.name, h.only.more.to_, h.only.more.attrs, fun hn => absurd (by simp) hn, h.only.more.cursor, h.only.more.n⟩ h.n0 h.n1 rfl (fun hg => hg) (fun W v2 c2 ho hm => ⟨c2.parts, ⟨?_, bd_len W ho hm 112⟩, rfl⟩)
  · have hne : ¬ l = 112 := fun e => hx (e ▸ hl)
    simp only [bd, if_neg hne, OV.parts]
  · obtain ⟨_, h2, _⟩ := may_parts W ho hm
    have := ho.b.1
    rw [txV_len] at this
    have := h2.bn
    omega
theorem Part.cur {y : List UInt8} {a : Option Addr} {n k : Nat} (h : Part b v c ls s) (T : Took (val 6) (fun z => z.length ≤ 4194304) (fun z => z.length ≤ 4194304) s y s') (hf : fieldsOf v.k = ls ++ 99 :: more) (hx : 99 ∉ ls) : Part b (v.setCur a n k) ⟨c.attrs, c.parts, y⟩ (ls ++ [99]) s' := by
  refine h.next T rfl hf (fun l hl => ?_) ⟨h.only.more.name, h.only.more.to_, h.only.more.attrs, h.only.more.parts, fun hn => absurd (by simp) hn, h.only.more.n⟩ h.n0 h.n1 rfl (fun hg => hg) (fun W v2 c2 ho hm => ⟨_, bd_len W ho hm 99, rfl⟩)
  have hne : ¬ l = 99 := fun e => hx (e ▸ hl)
  simp only [bd, if_neg hne, OV.setCur]
theorem Part.num {y : Nat} (h : Part b v c ls s) (T : Took (fun n : Nat => val 7 (num8 n)) (fun n => n ≤ 1000) (fun n => n ≤ 1000) s y s') (hy : y ≤ 1000) (hf : fieldsOf v.k = ls ++ 107 :: more) (hx : 107 ∉ ls) : Part b (v.setN (y : Int)) c (ls ++ [107]) s' := by
  refine h.next T rfl hf (fun l hl => ?_) ⟨h.only.more.name, h.only.more.to_, h.only.more.attrs, h.only.more.parts, h.only.more.cursor, fun hn => absurd (by simp) hn⟩ (by show 0 ≤ (y : Int); omega) (by show (y : Int) < _; omega) rfl (fun _ => by show (num8 _).length ≤ _; rw [num8_len]; omega) (fun W v2 c2 ho hm => ⟨v2.n.toNat, ?_, rfl⟩)
  · have hne : ¬ l = 107 := fun e => hx (e ▸ hl)
    rcases ls_letters hf l hl with rfl | rfl | rfl | rfl | rfl | rfl
    all_goals first | rfl | exact absurd rfl hne
  · have := (may_bd ho hm).2
    omega
end

theorem bytes_le (s : RS) (t : UInt8) : (s.bytes t).1.length ≤ 4194304 := by
  unfold RS.bytes
  cases h : s.take t with
  | mk ox s' =>
    cases ox with
    | none => simp
    | some x => exact (take_some h).2.2.2.1
/-- An operation is being read. -/
structure OpGo (B g ob : Nat) (w : World) (b : List UInt8) (v : OV) (c : OC) (ls : List UInt8) (s : RS) (wr : World) : Prop where
  bel : Below w.heap.size w wr
  box : InO ob v wr
  rd : RdS B g s wr
  at_ : OpAt wr v c
  ty : OpTy wr v
  part : Part b v c ls s
/-- One of an operation's letters. -/
theorem kpr_g {B g : Nat} {s : RS} {wr w1 : World} (hr : RdS B g s wr) (hg : wr.grownBy w1 (some g)) : KeepR wr w1 := by
  refine KeepR.of_belX (BelX.of_grown hg) (fun k hk => ?_)
  rw [List.mem_singleton.1 hk]
  obtain ⟨_, _, h⟩ := hr
  refine ⟨_, h.at_, fun c t fr ht e => ?_⟩
  cases e
  rcases ht with h | h | h <;> exact absurd h (by decide)
theorem kpr_box {ob i : Nat} {v : OV} {w1 : World} {x : Value} (hb : InO ob v w1) : KeepR w1 (w1.setCell ⟨ob, i, none⟩ x) := by
  refine KeepR.of_belX (xs := [ob]) ((BelX.refl _ _ _).set _ _ _ (.inl (by simp))) (fun k hk => ?_)
  rw [List.mem_singleton.1 hk]
  refine ⟨_, hb, fun c t fr ht e => ?_⟩
  cases e
  rcases ht with h | h | h <;> exact absurd h (by decide)
theorem OpGo.next {B g ob : Nat} {w : World} {b : List UInt8} {v v' : OV} {c c' : OC} {ls ls' : List UInt8} {s s' : RS} {wr w1 : World} {i : Nat} {x : Value} (h : OpGo B g ob w b v c ls s wr) (hg : wr.grownBy w1 (some g)) (hr : RdS B g s' w1) (hgw : w.heap.size ≤ g) (how : w.heap.size ≤ ob) (hgo : g ≠ ob)
    (hbox : (match v.box with | .cells cs t fr => Obj.cells (cs.setIfInBounds i x) t fr | o => o) = v'.box) (ha : OpAt w1 v' c') (ht : OpTy w1 v') (hp : Part b v' c' ls' s') : OpGo B g ob w b v' c' ls' s' (w1.setCell ⟨ob, i, none⟩ x) := by
  have hb1 : InO ob v w1 := h.box.grown hg (fun e => hgo (Option.some.inj e).symm)
  have hk := kpr_box (i := i) (x := x) hb1
  have hgs : g < wr.heap.size := by obtain ⟨_, _, h⟩ := h.rd; exact h.lt
  refine ⟨(h.bel.trans (below_of_grown hg hgw hgs)).setCell how x, ?_, hr.grown (grown_set _ _ _ _) hb1 (fun c fr h => by cases h) hgo, ha.kpr ht hk, ht.kpr hk, hp⟩
  have h2 := at_set (i := i) (x := x) hb1
  unfold InO
  rw [← hbox]
  exact h2
end Go.Proofs.YtgeafnggodkpaaaGreat.Msg
