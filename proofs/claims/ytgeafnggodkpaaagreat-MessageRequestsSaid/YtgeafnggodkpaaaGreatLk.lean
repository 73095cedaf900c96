/-
  opBytes.
-/
import Derived.Test.YtgeafnggodkpaaaGreatLj
import Derived.Test.YtgeafnggodkpaaaGreatVq
namespace Go.Proofs.YtgeafnggodkpaaaGreat.Msg
open Go.RowKit Go.Lib Go.Proofs.YtgeafnggodkpaaaGreat.Mem Go.Proofs.YtgeafnggodkpaaaGreat.Tlv

/-- Attributes' bytes, parts' bytes. -/
def attB (l : List (ByteArray × ByteArray)) : List UInt8 := l.flatMap fun x => val 3 (val 1 x.1.data.toList ++ val 2 x.2.data.toList)
def parB (l : List ByteArray) : List UInt8 := l.flatMap fun x => val 1 x.data.toList
/-- A letter's value. -/
def letV (v : OV) (c : OC) (l : UInt8) : List UInt8 :=
  if l = 110 then val 2 v.name.data.toList else if l = 116 then val 3 v.to.data.toList else if l = 97 then val 4 (attB c.attrs) else if l = 112 then val 5 (parB c.parts)
  else if l = 99 then val 6 c.cursor else val 7 (num8 v.n.toNat)
/-- An operation's bytes. -/
def opTo (v : OV) (c : OC) (l : List UInt8) : List UInt8 := val 1 (num8 v.k.toNat) ++ l.flatMap (letV v c)
def opL (v : OV) (c : OC) : List UInt8 := opTo v c (fieldsOf v.k)
theorem opTo_next (v : OV) (c : OC) (l : List UInt8) (j : Nat) (x : UInt8) (h : l[j]? = some x) : opTo v c (l.take (j + 1)) = opTo v c (l.take j) ++ letV v c x := by
  obtain ⟨hl, e⟩ := List.getElem?_eq_some_iff.1 h
  rw [List.take_succ_eq_append_getElem hl, e]
  simp [opTo]

/-- Bytes that were laid anew. -/
def GivesL (w : World) (l : List UInt8) (e : Ending) (w' : World) : Prop := ∃ ao cap, e = .returned (.slice ao l.length cap) ∧ Rd w' 1 ao l.length cap (byV l) ∧ Below w.heap.size w w' ∧ ∀ a, ao = some a → w.heap.size ≤ a.block

/-- What is small enough to be put. -/
structure Fits (v : OV) (c : OC) : Prop where
  k0 : 0 ≤ v.k
  k8 : v.k ≤ 8
  name : v.name.size ≤ 1000
  to_ : v.to.size ≤ 1000
  cur : c.cursor.length ≤ 4000
  n0 : 0 ≤ v.n
  n1 : v.n ≤ 1000
  lens : ∀ x, (letV v c x).length ≤ 10000000
theorem flat_le {α : Type} (f : α → List UInt8) (B : Nat) (h : ∀ x, (f x).length ≤ B) : ∀ l : List α, (l.flatMap f).length ≤ l.length * B
  | [] => by simp
  | x :: l => by
    have h1 := h x
    have h2 := flat_le f B h l
    rw [List.flatMap_cons, List.length_append, List.length_cons, Nat.add_mul]
    omega
theorem opTo_len {v : OV} {c : OC} (h : Fits v c) (l : List UInt8) (hl : l.length ≤ 3) : (opTo v c l).length ≤ 100000000 := by
  have h1 := flat_le (letV v c) 10000000 h.lens l
  have h2 := Nat.mul_le_mul_right 10000000 hl
  simp only [opTo, List.length_append, val_len, num8_len]
  omega

/-- Behind j letters. -/
structure PutAt (w : World) (it : Nat) (v : OV) (c : OC) (j : Nat) (wr : World) : Prop where
  bel : Below w.heap.size w wr
  h1 : wr.heap[w.heap.size]? = some v.box
  wr_ : WrS (w.heap.size + 1) (w.heap.size + 1) ⟨opTo v c ((fieldsOf v.k).take j), 0⟩ wr
  hi : wr.heap[it]? = some (.stringIter ⟨(fieldsOf v.k).toArray⟩ j)
theorem PutAt.put {w wi w2 : World} {it j : Nat} {v : OV} {c : OC} {x t : UInt8} {b : List UInt8} {e : Ending} (hb : Below w.heap.size w wi) (h1 : wi.heap[w.heap.size]? = some v.box) (hi : wi.heap[it]? = some (.stringIter ⟨(fieldsOf v.k).toArray⟩ (j + 1)))
    (hit : it ≠ w.heap.size + 1) (hx : (fieldsOf v.k)[j]? = some x) (ht : t.toNat ≠ 0) (hv : val t b = letV v c x)
    (h : Turns (w.heap.size + 1) (w.heap.size + 1) (WS.put ⟨opTo v c ((fieldsOf v.k).take j), 0⟩ t b) wi e w2) : PutAt w it v c (j + 1) w2 := by
  obtain ⟨-, h2, h3, h4⟩ := h
  refine ⟨hb.trans (h3.mono (by omega)), (h3.block _ (by omega)).trans h1, ?_, h4 it _ hi hit (fun _ _ e => by cases e)⟩
  rw [opTo_next v c _ j x hx, ← hv]
  simpa [WS.put, ht] using h2
theorem PutAt.skip {w wr : World} {it j : Nat} {v : OV} {c : OC} (h : PutAt w it v c j wr) (hit : w.heap.size + 1 < it) :
    Below w.heap.size w (wr.iterAt it ⟨(fieldsOf v.k).toArray⟩ (j + 1)) ∧ (wr.iterAt it ⟨(fieldsOf v.k).toArray⟩ (j + 1)).heap[w.heap.size]? = some v.box ∧
      WrS (w.heap.size + 1) (w.heap.size + 1) ⟨opTo v c ((fieldsOf v.k).take j), 0⟩ (wr.iterAt it ⟨(fieldsOf v.k).toArray⟩ (j + 1)) ∧ (wr.iterAt it ⟨(fieldsOf v.k).toArray⟩ (j + 1)).heap[it]? = some (.stringIter ⟨(fieldsOf v.k).toArray⟩ (j + 1)) := by
  refine ⟨below_iterAt h.bel (by omega) _ _, (iterAt_other _ _ _ _ _ (by omega)).trans h.h1, ?_, iterAt_heap _ _ _ _ _ h.hi⟩
  obtain ⟨y, hy⟩ := h.wr_
  refine ⟨y, (iterAt_other _ _ _ _ _ (by omega)).trans hy.at_, hy.le, ?_⟩
  obtain ⟨o1, o2⟩ := hy.own
  refine ⟨o1, ?_⟩
  rcases o2 with o2 | ⟨g', cap, cur, e1, e2, e3, e4⟩
  · exact .inl o2
  · refine .inr ⟨g', cap, cur, e1, e2, (iterAt_other _ _ _ _ _ (fun e => ?_)).trans e3, e4⟩
    subst e
    rw [h.hi] at e3
    cases e3

theorem low_dis {w W : World} {size : Nat} {ao : Option Addr} {n cap : Nat} {xs : List Value} (h : Rd w size ao n cap xs) {a : Addr} (ha : ao = some a) (h0 : 0 < cap) {l : List UInt8} {bad : Int} {y : Value} (hy : WrAt (w.heap.size + 1) (w.heap.size + 1) l bad y W) : some a.block ≠ y.ownBlock := by
  have := h.lt h0 a ha
  rcases hy.own.2 with ⟨rfl, _⟩ | ⟨g', c, cur, rfl, hB, _⟩
  · simp [Value.ownBlock]
  · intro e
    have : a.block = g' := by simpa [Value.ownBlock] using e
    omega
set_option maxRecDepth 100000 in
set_option maxHeartbeats 4000000 in
theorem opBytes_any (v : OV) (c : OC) (w : World) (ho : OpAt w v c) (hf : Fits v c) (hno : ∀ x ∈ fieldsOf v.k, x ≠ 97 ∧ x ≠ 112) : Calls Tryz.prog 44 #[v.val] w (GivesL w (opL v c)) := by
  obtain ⟨kn, hkn⟩ : ∃ kn : Nat, v.k = (kn : Int) := ⟨v.k.toNat, by have := hf.k0; omega⟩
  obtain ⟨nn, hnn⟩ : ∃ nn : Nat, v.n = (nn : Int) := ⟨v.n.toNat, by have := hf.n0; omega⟩
  have Hkn := Lib.hid hkn
  have Hnn := Lib.hid hnn
  have hw1 : IntKind.wrap .u64 v.k = (kn : Int) := by rw [hkn]; have h8 := hf.k8; rw [hkn] at h8; show ((kn : Int) % 18446744073709551616) = kn; omega
  have hw2 : IntKind.wrap .u64 v.n = (nn : Int) := by rw [hnn]; have h8 := hf.n1; rw [hnn] at h8; show ((nn : Int) % 18446744073709551616) = nn; omega
  clear hkn hnn
  have hff := fun W => fields_any v.k W
  have hus : Tryz.prog.underlying 9 = some .string := Tryz.underlying9
  have hl3 := fields_len v.k
  have hb0 : Below w.heap.size w ((w.alloc v.box).alloc (.cells #[.slice none 0 0, .int .i64 0] 114)) := below_two w _ _
  obtain ⟨k1, k2⟩ := two_boxes w v.box (.cells #[.slice none 0 0, .int .i64 0] 114)
  have hz : ((w.alloc v.box).alloc (.cells #[.slice none 0 0, .int .i64 0] 114)).heap.size = w.heap.size + 1 + 1 := by simp
  have hs0 : WrS (w.heap.size + 1) (w.heap.size + 1) ⟨[], 0⟩ ((w.alloc v.box).alloc (.cells #[.slice none 0 0, .int .i64 0] 114)) := ⟨_, k2, Nat.le_refl _, World.ownsRow_nil _ _ _ _⟩
  unfold OV.val
  go_enter Tryz.func44, Tryz.ntmps44
  go_wp2_with fail
  refine (wnum_any (w.heap.size + 1) (w.heap.size + 1) ⟨[], 0⟩ 1 kn _ hs0 (by decide)).mono ?_
  rintro e w1 ⟨rfl, hs1, hb1, -⟩
  have hb2 : Below w.heap.size w w1 := hb0.trans (hb1.mono (by omega))
  have q1 := (hb1.block w.heap.size (by omega)).trans k1
  obtain ⟨c0, -, -, -, -, -, -, -⟩ := box_all q1
  go_wp2_with fail
  refine (hff _).mono ?_
  rintro e w2 ⟨rfl, hb3⟩
  have hb4 := hb2.trans (hb3.mono hb2.size)
  have hs2 := hs1.later hb3
  have q2 := (hb3.block w.heap.size (Array.getElem?_eq_some_iff.1 q1).1).trans q1
  have hit : w.heap.size + 1 < w2.heap.size := by obtain ⟨y, hy⟩ := hs2; exact hy.lt
  have hr := run_range_string (P := Tryz.prog) w2 9 ⟨(fieldsOf v.k).toArray⟩ hus
  clear c0
  go_wp2_with fail
  go_loopw [] (fun wr => ∃ j, PutAt w w2.heap.size v c j wr) (fun wr => (fieldsOf v.k).length - wr.iterPos w2.heap.size)
  case atStart =>
    have hbi : Below w2.heap.size w2 (w2.iter ⟨(fieldsOf v.k).toArray⟩ 0) := (Below.refl _ _).alloc (Nat.le_refl _) _
    refine ⟨0, hb4.trans (hbi.mono hb4.size), (hbi.block _ (by omega)).trans q2, ?_, by show (w2.heap.push _)[w2.heap.size]? = some _; exact Array.getElem?_push_size⟩
    have := hs2.later hbi
    simpa [WS.put, opTo, Hkn.out] using this
  case round =>
    obtain ⟨j, hB⟩ := hrel
    have hlen : (opTo v c ((fieldsOf v.k).take j)).length ≤ 100000000 := opTo_len hf _ (by rw [List.length_take]; omega)
    by_cases hj : j < (fieldsOf v.k).length
    · obtain ⟨x, hc⟩ : ∃ x, (fieldsOf v.k)[j]? = some x := ⟨_, List.getElem?_eq_getElem hj⟩
      have hcl := letters v.k j x hc
      have hm : wr.iterPos w2.heap.size = j := by simp [World.iterPos, hB.hi]
      obtain ⟨hbi, g1, gw, gi⟩ := hB.skip hit
      have goi := ho.later hbi
      obtain ⟨-, c1, c2, c3, c4, c5, c6, -⟩ := box_all g1
      rcases hcl with rfl | rfl | rfl | rfl | rfl | rfl
      · have hn : ∀ ty, (Instr.next (.pointer (some ⟨w2.heap.size, 0, none⟩)) true ty).run Tryz.prog wr = .ok (.tuple #[.bool true, .int .i64 j, .int .i32 110]) (wr.iterAt w2.heap.size ⟨(fieldsOf v.k).toArray⟩ (j + 1)) := fun ty => next_letter wr w2.heap.size (fieldsOf v.k) j 110 ty hB.hi hc (by decide)
        go_wp2_with fail
        refine (wtext_any (w.heap.size + 1) (w.heap.size + 1) ⟨opTo v c ((fieldsOf v.k).take j), 0⟩ 2 v.name _ gw hlen (by have := hf.name; omega)).mono ?_
        rintro e w3 hT
        have hN := PutAt.put hbi g1 gi (by omega) hc (by decide) (by simp [letV]) hT
        obtain ⟨rfl, -⟩ := hT
        go_wp2_with fail
        go_roundw
        case rel => exact ⟨j + 1, hN⟩
        case measure => rw [hm]; simp [World.iterPos, hN.hi]; omega
      · have hn : ∀ ty, (Instr.next (.pointer (some ⟨w2.heap.size, 0, none⟩)) true ty).run Tryz.prog wr = .ok (.tuple #[.bool true, .int .i64 j, .int .i32 116]) (wr.iterAt w2.heap.size ⟨(fieldsOf v.k).toArray⟩ (j + 1)) := fun ty => next_letter wr w2.heap.size (fieldsOf v.k) j 116 ty hB.hi hc (by decide)
        go_wp2_with fail
        refine (wtext_any (w.heap.size + 1) (w.heap.size + 1) ⟨opTo v c ((fieldsOf v.k).take j), 0⟩ 3 v.to _ gw hlen (by have := hf.to_; omega)).mono ?_
        rintro e w3 hT
        have hN := PutAt.put hbi g1 gi (by omega) hc (by decide) (by simp [letV]) hT
        obtain ⟨rfl, -⟩ := hT
        go_wp2_with fail
        go_roundw
        case rel => exact ⟨j + 1, hN⟩
        case measure => rw [hm]; simp [World.iterPos, hN.hi]; omega
      · exact absurd rfl (hno 97 (List.mem_of_getElem? hc)).1
      · exact absurd rfl (hno 112 (List.mem_of_getElem? hc)).2
      · have hn : ∀ ty, (Instr.next (.pointer (some ⟨w2.heap.size, 0, none⟩)) true ty).run Tryz.prog wr = .ok (.tuple #[.bool true, .int .i64 j, .int .i32 99]) (wr.iterAt w2.heap.size ⟨(fieldsOf v.k).toArray⟩ (j + 1)) := fun ty => next_letter wr w2.heap.size (fieldsOf v.k) j 99 ty hB.hi hc (by decide)
        go_wp2_with fail
        refine (wput_any (w.heap.size + 1) (w.heap.size + 1) ⟨opTo v c ((fieldsOf v.k).take j), 0⟩ 6 c.cursor v.co v.cn v.cc _ gw hlen (by have := hf.cur; have := goi.c.1; rw [byV_len] at this; omega) goi.c (fun h0 a ha y hy => low_dis ho.c ha h0 hy)).mono ?_
        rintro e w3 hT
        have hN := PutAt.put hbi g1 gi (by omega) hc (by decide) (by simp [letV]) hT
        obtain ⟨rfl, -⟩ := hT
        go_wp2_with fail
        go_roundw
        case rel => exact ⟨j + 1, hN⟩
        case measure => rw [hm]; simp [World.iterPos, hN.hi]; omega
      · have hn : ∀ ty, (Instr.next (.pointer (some ⟨w2.heap.size, 0, none⟩)) true ty).run Tryz.prog wr = .ok (.tuple #[.bool true, .int .i64 j, .int .i32 107]) (wr.iterAt w2.heap.size ⟨(fieldsOf v.k).toArray⟩ (j + 1)) := fun ty => next_letter wr w2.heap.size (fieldsOf v.k) j 107 ty hB.hi hc (by decide)
        go_wp2_with fail
        refine (wnum_any (w.heap.size + 1) (w.heap.size + 1) ⟨opTo v c ((fieldsOf v.k).take j), 0⟩ 7 nn _ gw hlen).mono ?_
        rintro e w3 hT
        have hN := PutAt.put hbi g1 gi (by omega) hc (by decide) (by simp [letV, Hnn.out]) hT
        obtain ⟨rfl, -⟩ := hT
        go_wp2_with fail
        go_roundw
        case rel => exact ⟨j + 1, hN⟩
        case measure => rw [hm]; simp [World.iterPos, hN.hi]; omega
    · have hn := fun ty => run_next_end_at (P := Tryz.prog) wr w2.heap.size ⟨(fieldsOf v.k).toArray⟩ j ty hB.hi hj
      have hw := hB.wr_
      rw [List.take_of_length_le (by omega)] at hw hlen
      obtain ⟨y, hy⟩ := hw
      go_wp2_with fail
      refine (wend_ok _ _ _ _ _ hy hlen).mono ?_
      rintro e w3 ⟨z, rfl, hz3, hb3'⟩
      obtain ⟨ao, cap, rfl, hr3⟩ := Rd.of_own hz3
      go_wp2_with fail
      go_ret
      refine ⟨ao, cap, rfl, hr3, hB.bel.trans (hb3'.mono hB.bel.size), fun a ha => ?_⟩
      rcases hz3.2 with ⟨h, _⟩ | ⟨g, cc, cur, h, hg, _⟩
      · have := (Value.slice.inj h).1; rw [ha] at this; cases this
      · have := (Value.slice.inj h).1; rw [ha] at this; cases this; exact Nat.le_trans hB.bel.size hg
end Go.Proofs.YtgeafnggodkpaaaGreat.Msg
