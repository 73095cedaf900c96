/-
  A part of the proof: what this text holds is told at each of its declarations.
-/
import Derived.Lib.OthersKept
import Derived.Test.YtgeafnggodkpaaaGreatZaaf
import Derived.Test.YtgeafnggodkpaaaGreatZaaa
namespace Go.Proofs.YtgeafnggodkpaaaGreat.Msg
open Go.RowKit Go.Lib Go.Proofs.YtgeafnggodkpaaaGreat.Mem

/-- What letters name alone. -/
def keepL (l : List UInt8) (v : OV) : OV :=
  ⟨v.k, if 110 ∈ l then v.name else ⟨#[]⟩, if 116 ∈ l then v.to else ⟨#[]⟩, if 97 ∈ l then v.ao else none, if 97 ∈ l then v.an else 0, if 97 ∈ l then v.ac else 0,
    if 112 ∈ l then v.bo else none, if 112 ∈ l then v.bn else 0, if 112 ∈ l then v.bc else 0, if 99 ∈ l then v.co else none, if 99 ∈ l then v.cn else 0, if 99 ∈ l then v.cc else 0, if 107 ∈ l then v.n else 0⟩
def keepC (l : List UInt8) (c : OC) : OC := ⟨if 97 ∈ l then c.attrs else [], if 112 ∈ l then c.parts else [], if 99 ∈ l then c.cursor else []⟩
theorem letters (k : Int) (j : Nat) (c : UInt8) (h : (fieldsOf k)[j]? = some c) : c = 110 ∨ c = 116 ∨ c = 97 ∨ c = 112 ∨ c = 99 ∨ c = 107 := by
  have hm := List.mem_of_getElem? h
  unfold fieldsOf at hm
  repeat' split at hm
  all_goals simp only [List.mem_cons, List.not_mem_nil, or_false] at hm
  all_goals first | (rcases hm with rfl | rfl | rfl <;> simp) | (rcases hm with rfl | rfl <;> simp) | (subst hm; simp)
theorem at_set {W : World} {b i : Nat} {cs : Array Value} {t : TypeId} {fr : Nat × Nat} {x : Value} (h : W.heap[b]? = some (.cells cs t fr)) : (W.setCell ⟨b, i, none⟩ x).heap[b]? = some (.cells (cs.setIfInBounds i x) t fr) := by
  have hlt := (Array.getElem?_eq_some_iff.1 h).1
  have h2 := (Array.getElem?_eq_some_iff.1 h).2
  simp only [World.setCell, Array.getElem?_eq_getElem, Array.size_modify, hlt, Array.getElem_modify_self, h2]
  rfl
theorem at_other {W : World} {b j i : Nat} {x : Value} {o : Obj} (h : W.heap[j]? = some o) (hne : j ≠ b) : (W.setCell ⟨b, i, none⟩ x).heap[j]? = some o := (Below.heap_setCell W ⟨b, i, none⟩ x j hne).trans h

/-- Behind j letters. -/
structure BareAt (w : World) (it : Nat) (v : OV) (j : Nat) (wr : World) : Prop where
  bel : Below w.heap.size w wr
  h1 : wr.heap[w.heap.size]? = some v.box
  h2 : wr.heap[w.heap.size + 1]? = some (keepL [] ⟨0, ⟨#[]⟩, ⟨#[]⟩, none, 0, 0, none, 0, 0, none, 0, 0, 0⟩).box
  h3 : wr.heap[w.heap.size + 1 + 1]? = some (keepL ((fieldsOf v.k).take j) v).box
  hi : wr.heap[it]? = some (.stringIter ⟨(fieldsOf v.k).toArray⟩ j)
theorem BareAt.next {w wr : World} {it : Nat} {v : OV} {j : Nat} {c : UInt8} (h : BareAt w it v j wr) (hit : w.heap.size + 1 + 1 < it) (hc : (fieldsOf v.k)[j]? = some c) (i : Nat) (x : Value)
    (hx : ∀ l : List UInt8, (match (keepL l v).box with | .cells cs t fr => Obj.cells (cs.setIfInBounds i x) t fr | o => o) = (keepL (l ++ [c]) v).box) :
    BareAt w it v (j + 1) ((wr.iterAt it ⟨(fieldsOf v.k).toArray⟩ (j + 1)).setCell ⟨w.heap.size + 1 + 1, i, none⟩ x) := by
  obtain ⟨bel, h1, h2, h3, hi⟩ := h
  obtain ⟨hlt, he⟩ := List.getElem?_eq_some_iff.1 hc
  refine ⟨(below_iterAt bel (by omega) _ _).setCell (p := ⟨w.heap.size + 1 + 1, i, none⟩) (by dsimp only; omega) _, at_other ((iterAt_other _ _ _ _ _ (by omega)).trans h1) (by omega), at_other ((iterAt_other _ _ _ _ _ (by omega)).trans h2) (by omega), ?_, at_other (iterAt_heap _ _ _ _ _ hi) (by omega)⟩
  have := at_set (i := i) (x := x) ((iterAt_other wr it (w.heap.size + 1 + 1) ⟨(fieldsOf v.k).toArray⟩ (j + 1) (by omega)).trans h3)
  rw [List.take_succ_eq_append_getElem hlt, he, ← hx]
  exact this

theorem next_letter {P : Program} (wr : World) (it : Nat) (l : List UInt8) (j : Nat) (c : UInt8) (ty : TypeId) (hi : wr.heap[it]? = some (.stringIter ⟨l.toArray⟩ j)) (hc : l[j]? = some c) (h : c.toNat < 128) :
    (Instr.next (.pointer (some ⟨it, 0, none⟩)) true ty).run P wr = .ok (.tuple #[.bool true, .int .i64 j, .int .i32 (c.toNat : Int)]) (wr.iterAt it ⟨l.toArray⟩ (j + 1)) := by
  obtain ⟨hlt, he⟩ := List.getElem?_eq_some_iff.1 hc
  have e : (⟨l.toArray⟩ : ByteArray)[j]'hlt = c := he
  rw [run_next_ascii_at wr it ⟨l.toArray⟩ j ty hi hlt (by rw [e]; exact h), e]
/-- An operation without anything. -/
def zeroV : OV := ⟨0, ⟨#[]⟩, ⟨#[]⟩, none, 0, 0, none, 0, 0, none, 0, 0, 0⟩
theorem three_boxes (w : World) (o p q : Obj) : (((w.alloc o).alloc p).alloc q).heap[w.heap.size]? = some o ∧ (((w.alloc o).alloc p).alloc q).heap[w.heap.size + 1]? = some p ∧ (((w.alloc o).alloc p).alloc q).heap[w.heap.size + 1 + 1]? = some q := by
  obtain ⟨h1, h2⟩ := two_boxes w o p
  have hs : ((w.alloc o).alloc p).heap.size = w.heap.size + 1 + 1 := by simp
  refine ⟨(((Below.refl _ _).alloc (Nat.le_refl _) q).block _ (by omega)).trans h1, (((Below.refl _ _).alloc (Nat.le_refl _) q).block _ (by omega)).trans h2, ?_⟩
  show (((w.alloc o).alloc p).heap.push q)[w.heap.size + 1 + 1]? = some q
  rw [← hs]
  exact Array.getElem?_push_size
theorem below_three (w : World) (o p q : Obj) : Below w.heap.size w (((w.alloc o).alloc p).alloc q) := (below_two w o p).alloc (by simp <;> omega) _

end Go.Proofs.YtgeafnggodkpaaaGreat.Msg
namespace Go.Proofs.YtgeafnggodkpaaaGreat.Msg
open Go.RowKit Go.Lib Go.Proofs.YtgeafnggodkpaaaGreat.Mem Go.Proofs.YtgeafnggodkpaaaGreat.Utf

/-- May a name be? -/
def mayName (x : ByteArray) : Bool := decide (x.size ≤ 1000) && decide (wh x.data.toList = x.size)
def smallB (n : Int) : Bool := decide (97 ≤ n) && decide (n ≤ 122)
def typeB (n : Int) : Bool := smallB n || n == 45 || (decide (48 ≤ n) && decide (n ≤ 57))
/-- May a type be? -/
def mayType (x : ByteArray) : Bool := decide (1 ≤ x.size) && decide (x.size ≤ 32) && smallB (bt x.data.toList 0) && x.data.toList.all fun c => typeB (c.toNat : Int)
def mayAttr (x : ByteArray × ByteArray) : Bool := mayType x.1 && mayName x.2

set_option maxRecDepth 100000 in
set_option maxHeartbeats 1000000 in
theorem mayName_any (x : ByteArray) (w : World) : Calls Tryz.prog 67 #[.string x] w (GivesB (mayName x) w) := by
  by_cases h : x.size ≤ 1000
  · have f1 : decide ((x.size : Int) ≤ 1000) = true := by simp; omega
    have hv := valid_any x w (by omega)
    go_enter Tryz.func67, Tryz.ntmps67
    go_wp2_with fail
    refine hv.mono ?_
    rintro e w1 ⟨rfl, hb1⟩
    go_wp2_with fail
    go_ret
    exact ⟨by simp [mayName, h], hb1⟩
  · have f1 : decide ((x.size : Int) ≤ 1000) = false := by simp; omega
    go_enter Tryz.func67, Tryz.ntmps67
    go_wp2_with fail
    go_ret
    exact ⟨by simp [mayName, h], Below.refl _ _⟩
theorem small_any (n : Int) (w : World) : Calls Tryz.prog 146 #[.int .u8 n] w fun e w' => e = .returned (.bool (smallB n)) ∧ w' = w := by
  by_cases h : 97 ≤ n
  · have f1 : decide (97 ≤ n) = true := by simp [h]
    have f2 : smallB n = decide (n ≤ 122) := by simp [smallB, h]
    rw [f2]
    clear f2 h
    go_enter Tryz.func146, Tryz.ntmps146
    go_wp2_with fail
    go_ret
    exact ⟨rfl, rfl⟩
  · have f1 : decide (97 ≤ n) = false := by simp; omega
    have f2 : smallB n = false := by simp [smallB, h]
    rw [f2]
    clear f2 h
    go_enter Tryz.func146, Tryz.ntmps146
    go_wp2_with fail
    go_ret
    exact ⟨rfl, rfl⟩

def goodT (l : List UInt8) (k : Nat) : Bool := smallB (bt l 0) && (l.take k).all fun c => typeB (c.toNat : Int)
theorem goodT_next (l : List UInt8) (k : Nat) (h : k < l.length) : goodT l (k + 1) = (goodT l k && typeB (bt l k)) := by
  have e : bt l k = ((l[k]).toNat : Int) := by simp [bt, List.getD_eq_getElem?_getD, List.getElem?_eq_getElem h]
  simp only [goodT, List.take_succ_eq_append_getElem h, List.all_append, e, List.all_cons, List.all_nil, Bool.and_true, Bool.and_assoc]
theorem mayType_yes (x : ByteArray) (h1 : 1 ≤ x.size) (h2 : x.size ≤ 32) : mayType x = goodT x.data.toList x.size := by
  have ht : x.data.toList.take x.size = x.data.toList := List.take_of_length_le (Nat.le_of_eq (len_data x))
  unfold mayType goodT
  rw [ht, decide_eq_true h1, decide_eq_true h2, Bool.true_and, Bool.true_and]

set_option maxRecDepth 100000 in
set_option maxHeartbeats 1000000 in
theorem mayType_any (x : ByteArray) (w : World) : Calls Tryz.prog 123 #[.string x] w fun e w' => e = .returned (.bool (mayType x)) ∧ w' = w := by
  by_cases h1 : 1 ≤ x.size
  · by_cases h2 : x.size ≤ 32
    · have h0 := Lib.hid (by_at x 0 (by omega))
      have Hm := Lib.hid (mayType_yes x h1 h2)
      have f1 : decide ((1 : Int) ≤ (x.size : Int)) = true := by simp; omega
      have f2 : decide ((x.size : Int) ≤ 32) = true := by simp; omega
      go_enter Tryz.func123, Tryz.ntmps123
      go_wp2_with fail
      rw [h0.out]
      refine (small_any _ _).mono ?_
      rintro e w1 ⟨rfl, rfl⟩
      have Hg : Hid (smallB (bt x.data.toList 0) = goodT x.data.toList 0) := Lib.hid (by simp [goodT])
      rw [Hg.out]
      go_wp2_with fail
      go_loopw [4, 26] (fun g p wr => ∃ k : Nat, k ≤ x.size ∧ g = .bool (goodT x.data.toList k) ∧ p = .int .i64 (k : Int) ∧ wr = w1) (fun _ p _ => x.size - (intOf p).toNat)
      case atStart => exact ⟨0, Nat.zero_le _, rfl, rfl, rfl⟩
      case round =>
        obtain ⟨k, hk, rfl, rfl, rfl⟩ := hrel
        by_cases hkn : k < x.size
        · have hk0 := Lib.hid (by_at x k hkn)
          have Hn := Lib.hid (goodT_next x.data.toList k hkn)
          by_cases hg : goodT x.data.toList k = true
          · rw [hg]
            go_wp2_with fail
            rw [hk0.out]
            refine (small_any _ _).mono ?_
            rintro e w2 ⟨rfl, rfl⟩
            obtain ⟨c, hc⟩ : ∃ c, bt x.data.toList k = c := ⟨_, rfl⟩
            rw [hc]
            have Hn2 : Hid (goodT x.data.toList (k + 1) = typeB c) := Lib.hid (by rw [Hn.out, hg, hc, Bool.true_and])
            clear Hn
            by_cases hs : smallB c = true
            · have Hs : Hid (goodT x.data.toList (k + 1) = true) := Lib.hid (by rw [Hn2.out]; simp [typeB, hs])
              rw [hs]
              go_wp2_with fail
              go_roundw
              case rel => exact ⟨k + 1, by omega, congrArg Value.bool Hs.out.symm, by go_num, trivial⟩
              case measure => simp [intOf]; omega
            · have hs2 : smallB c = false := by simpa using hs
              rw [hs2]
              by_cases h45 : c = 45
              · have Hs : Hid (goodT x.data.toList (k + 1) = true) := Lib.hid (by rw [Hn2.out]; simp [typeB, h45])
                have f3 : (c == 45) = true := by simp [h45]
                clear h45
                go_wp2_with fail
                go_roundw
                case rel => exact ⟨k + 1, by omega, congrArg Value.bool Hs.out.symm, by go_num, trivial⟩
                case measure => simp [intOf]; omega
              · have f3 : (c == 45) = false := by simp [h45]
                by_cases h48 : 48 ≤ c
                · have Hs : Hid (goodT x.data.toList (k + 1) = decide (c ≤ 57)) := Lib.hid (by rw [Hn2.out]; simp [typeB, hs2, h45, h48])
                  have f4 : decide (48 ≤ c) = true := by simp [h48]
                  clear h48 h45
                  go_wp2_with fail
                  go_roundw
                  case rel => exact ⟨k + 1, by omega, congrArg Value.bool Hs.out.symm, by go_num, trivial⟩
                  case measure => simp [intOf]; omega
                · have Hs : Hid (goodT x.data.toList (k + 1) = false) := Lib.hid (by rw [Hn2.out]; simp [typeB, hs2, h45, h48])
                  have f4 : decide (48 ≤ c) = false := by simp; omega
                  clear h48 h45
                  go_wp2_with fail
                  go_roundw
                  case rel => exact ⟨k + 1, by omega, congrArg Value.bool Hs.out.symm, by go_num, trivial⟩
                  case measure => simp [intOf]; omega
          · have hg2 : goodT x.data.toList k = false := by simpa using hg
            have Hs : Hid (goodT x.data.toList (k + 1) = false) := Lib.hid (by rw [Hn.out, hg2, Bool.false_and])
            rw [hg2]
            go_wp2_with fail
            go_roundw
            case rel => exact ⟨k + 1, by omega, congrArg Value.bool Hs.out.symm, by go_num, trivial⟩
            case measure => simp [intOf]; omega
        · have hke : k = x.size := by omega
          subst hke
          have f5 : decide ((0 : Int) < (x.size : Int)) = true := by simp; omega
          by_cases hg : goodT x.data.toList x.size = true
          · rw [hg]
            go_wp2_with fail
            go_ret
            exact ⟨by rw [Hm.out, hg]; rfl, rfl⟩
          · have hg2 : goodT x.data.toList x.size = false := by simpa using hg
            rw [hg2]
            go_wp2_with fail
            go_ret
            exact ⟨by rw [Hm.out, hg2]; rfl, rfl⟩
    · have Hm : Hid (mayType x = false) := Lib.hid (by simp [mayType, h2])
      have f1 : decide ((1 : Int) ≤ (x.size : Int)) = true := by simp; omega
      have f2 : decide ((x.size : Int) ≤ 32) = false := by simp; omega
      have f3 : ((x.size : Int) == 0) = false := beq_eq_false_iff_ne.2 (by omega)
      go_enter Tryz.func123, Tryz.ntmps123
      go_wp2_with fail
      go_ret
      exact ⟨by rw [Hm.out]; rfl, rfl⟩
  · have h0 : x.size = 0 := by omega
    have Hm : Hid (mayType x = false) := Lib.hid (by simp [mayType, h1])
    have f1 : decide ((1 : Int) ≤ (x.size : Int)) = false := by simp; omega
    have f3 : ((x.size : Int) == 0) = true := beq_iff_eq.2 (by omega)
    have f4 : decide ((0 : Int) < (x.size : Int)) = false := decide_eq_false (by omega)
    go_enter Tryz.func123, Tryz.ntmps123
    go_wp2_with fail
    go_loopw [4, 26] (fun g p wr => g = .bool true ∧ p = .int .i64 0 ∧ wr = w) (fun _ p _ => 0)
    case atStart => exact ⟨rfl, rfl, rfl⟩
    case round =>
      obtain ⟨rfl, rfl, rfl⟩ := hrel
      go_wp2_with fail
      go_ret
      exact ⟨by rw [Hm.out]; rfl, rfl⟩

set_option maxRecDepth 100000 in
theorem mayAttr_any (x : ByteArray × ByteArray) (w : World) : Calls Tryz.prog 65 #[.agg #[.string x.1, .string x.2]] w (GivesB (mayAttr x) w) := by
  have hb0 : Below w.heap.size w (w.alloc (.cells #[.string x.1, .string x.2] 53)) := (Below.refl _ _).alloc (Nat.le_refl _) _
  go_enter Tryz.func65, Tryz.ntmps65
  go_wp2_with fail
  refine (mayType_any _ _).mono ?_
  rintro e w1 ⟨rfl, rfl⟩
  by_cases h : mayType x.1 = true
  · rw [h]
    go_wp2_with fail
    refine (mayName_any _ _).mono ?_
    rintro e w1 ⟨rfl, hb1⟩
    have Hs : Hid (mayAttr x = mayName x.2) := Lib.hid (by simp [mayAttr, h])
    go_wp2_with fail
    go_ret
    exact ⟨by rw [Hs.out]; rfl, hb0.trans (hb1.mono hb0.size)⟩
  · have h2 : mayType x.1 = false := by simpa using h
    rw [h2]
    have Hs : Hid (mayAttr x = false) := Lib.hid (by simp [mayAttr, h2])
    go_wp2_with fail
    go_ret
    exact ⟨by rw [Hs.out]; rfl, hb0⟩
end Go.Proofs.YtgeafnggodkpaaaGreat.Msg
