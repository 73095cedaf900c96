/-
  Messages: the fields that there are: plain, parts.
-/
import Derived.Laws.EntriesVeiled
import Derived.Deep.RegionHeld3
import Derived.Deep.DrawnRows
import Derived.Deep.RegionLaw
import Derived.Test.YtloamijcabkekaaGreatDoorNa
import Derived.Test.YtloamijcabkekaaGreatDoorLd
namespace Go.Proofs.YtloamijcabkekaaGreatDoor.Msg
open Go.RowKit Go.Lib Go.Proofs.YtloamijcabkekaaGreatDoor.Mem

/-- A field of a message: its letter, how it is kept, put and taken. -/
structure FV where
  l : Int
  kp : Value
  pt : Value
  tk : Value
def FV.cells (f : FV) : Array Value := #[.int .i32 f.l, f.kp, f.pt, f.tk]
def FV.val (f : FV) : Value := .agg f.cells
def FV.box (f : FV) : Obj := .cells f.cells 118
def fV (l : List FV) : List Value := l.flatMap fun f => f.cells.toList
theorem fV_len (l : List FV) : (fV l).length = l.length * 4 := by
  induction l with
  | nil => rfl
  | cons x l ih => simp only [fV, List.flatMap_cons, List.length_append, List.length_cons] at ih ⊢; rw [ih]; simp [FV.cells]; omega
theorem fV_app (a b : List FV) : fV (a ++ b) = fV a ++ fV b := by simp [fV]
theorem fV_at (l : List FV) (k : Nat) (y : FV) (h : l[k]? = some y) (i : Nat) (hi : i < 4) : (fV l)[k * 4 + i]? = y.cells[i]? := by
  induction l generalizing k with
  | nil => simp at h
  | cons z xs ih =>
    have hz : z.cells.toList.length = 4 := by simp [FV.cells]
    cases k with
    | zero =>
      rw [List.getElem?_cons_zero, Option.some.injEq] at h
      subst h
      simp only [fV, List.flatMap_cons]
      rw [List.getElem?_append_left (by omega)]
      simp
    | succ k =>
      rw [List.getElem?_cons_succ] at h
      have h1 := ih k h
      simp only [fV, List.flatMap_cons] at h1 ⊢
      rw [List.getElem?_append_right (by omega), hz, ← h1]
      congr 1
      omega
theorem fbox_all {W : World} {B : Nat} {f : FV} (h : W.heap[B]? = some f.box) : W.cell? ⟨B, 0, none⟩ = some (.int .i32 f.l) ∧ W.cell? ⟨B, 1, none⟩ = some f.kp ∧ W.cell? ⟨B, 2, none⟩ = some f.pt ∧ W.cell? ⟨B, 3, none⟩ = some f.tk ∧ ∀ i, W.frozen? ⟨B, i, none⟩ = false := by
  unfold FV.box FV.cells at h
  simp [World.cell?, World.frozen?, h]
theorem results_fv {f : Func} {i : Nat} {tmps : Array Value} {W : World} {b : Nat} {r : FV} (hr : f.results = #[.cell i 118]) (hp : tmps.getD i undef = .pointer (some ⟨b, 0, none⟩)) (h : W.heap[b]? = some r.box) : (results f tmps).run Tryz.prog W = .ok r.val W := by
  obtain ⟨c0, c1, c2, c3, -⟩ := fbox_all h
  simp only [results, hr]
  have hp' : tmps[i]?.getD undef = .pointer (some ⟨b, 0, none⟩) := by simpa using hp
  unfold FV.val FV.cells
  simp [hp', asAddr]
  go_simp

/-- A field that is a number: tb holds its tag, ob where it lies in a message. -/
def plainF (l : Int) (tb ob : Nat) : FV := ⟨l, .func (.func 154) #[] #[.pointer (some ⟨ob, 0, none⟩)], .func (.func 155) #[] #[.pointer (some ⟨tb, 0, none⟩), .pointer (some ⟨ob, 0, none⟩)], .func (.func 156) #[] #[.pointer (some ⟨tb, 0, none⟩), .pointer (some ⟨ob, 0, none⟩)]⟩
def plainAt (W : World) (t : Int) (fo : Value) (tb ob : Nat) : Prop := W.heap[tb]? = some (.cells #[.int .u8 t] 5) ∧ W.heap[ob]? = some (.cells #[fo] 194)
theorem plainAt.later {W W' : World} {t : Int} {fo : Value} {tb ob : Nat} (h : plainAt W t fo tb ob) (hb : Below W.heap.size W W') : plainAt W' t fo tb ob :=
  ⟨(hb.block _ (Array.getElem?_eq_some_iff.1 h.1).1).trans h.1, (hb.block _ (Array.getElem?_eq_some_iff.1 h.2).1).trans h.2⟩

set_option maxRecDepth 100000 in
theorem plain_any (l t : Int) (ff : FuncId) (w : World) : Calls Tryz.prog 101 #[.int .i32 l, .int .u8 t, (.func (.func ff) #[] #[])] w fun e w' => e = .returned (plainF l w.heap.size (w.heap.size + 1)).val ∧ plainAt w' t (.func (.func ff) #[] #[]) w.heap.size (w.heap.size + 1) ∧ Below w.heap.size w w' ∧ w'.heap.size = w.heap.size + 3 := by
  go_enter Tryz.func101, Tryz.ntmps101
  go_wp2_with fail
  generalize hg : ((w.alloc _).alloc _).alloc _ = W0
  have e : ((w.alloc (.cells #[.int .u8 t] 5)).alloc (.cells #[.func (.func ff) #[] #[]] 194)).alloc (plainF l w.heap.size (w.heap.size + 1)).box = W0 := by simp only [FV.box, FV.cells, plainF]; exact hg
  have k := three_boxes w (.cells #[.int .u8 t] 5) (.cells #[.func (.func ff) #[] #[]] 194) (plainF l w.heap.size (w.heap.size + 1)).box
  have hb := below_three w (.cells #[.int .u8 t] 5) (.cells #[.func (.func ff) #[] #[]] 194) (plainF l w.heap.size (w.heap.size + 1)).box
  rw [e] at k hb
  obtain ⟨k1, k2, k3⟩ := k
  have hz : W0.heap.size = w.heap.size + 3 := by rw [← e]; simp
  exact bodyPost_ret (results_fv (i := 6) rfl rfl k3) rfl ⟨rfl, ⟨k1, k2⟩, hb, hz⟩

/-- The fields that are no numbers. -/
def partsL : List FV := [
  ⟨102, .func (.func 122) #[] #[], .func (.func 123) #[] #[], .func (.func 124) #[] #[]⟩,
  ⟨113, .func (.func 125) #[] #[], .func (.func 126) #[] #[], .func (.func 128) #[] #[]⟩,
  ⟨114, .func (.func 131) #[] #[], .func (.func 132) #[] #[], .func (.func 134) #[] #[]⟩,
  ⟨115, .func (.func 136) #[] #[], .func (.func 137) #[] #[], .func (.func 138) #[] #[]⟩,
  ⟨108, .func (.func 139) #[] #[], .func (.func 140) #[] #[], .func (.func 142) #[] #[]⟩,
  ⟨119, .func (.func 145) #[] #[], .func (.func 146) #[] #[], .func (.func 147) #[] #[]⟩,
  ⟨101, .func (.func 149) #[] #[], .func (.func 150) #[] #[], .func (.func 152) #[] #[]⟩]
set_option maxRecDepth 100000 in
theorem parts_lay (w : World) : Calls Tryz.prog 100 #[] w fun e w' => e = .returned (.slice (some ⟨w.heap.size, 0, none⟩) 7 7) ∧ w'.heap[w.heap.size]? = some (.cells (fV partsL).toArray 118) ∧ Below w.heap.size w w' := by
  go_enter Tryz.func100, Tryz.ntmps100
  go_wp2_with fail
  generalize hg : w.alloc _ = W0
  have e : w.alloc (.cells (fV partsL).toArray 118) = W0 := by simp only [fV, partsL, FV.cells, List.flatMap_cons, List.flatMap_nil, List.cons_append, List.nil_append, List.append_nil]; exact hg
  have hb : Below w.heap.size w W0 := by rw [← e]; exact (Below.refl _ _).alloc (Nat.le_refl _) _
  have hk : W0.heap[w.heap.size]? = some (.cells (fV partsL).toArray 118) := by rw [← e]; show (w.heap.push _)[w.heap.size]? = some _; exact Array.getElem?_push_size
  clear hg e
  go_ret
  exact ⟨rfl, hk, hb⟩
end Go.Proofs.YtloamijcabkekaaGreatDoor.Msg
