/-
  Messages: the fields of a kind.
-/
import Derived.Test.YtloamijcabkekaaGreatDoorNf
namespace Go.Proofs.YtloamijcabkekaaGreatDoor.Msg
open Go.RowKit Go.Lib Go.Proofs.YtloamijcabkekaaGreatDoor.Mem

theorem fieldsM_asc (k : Int) (whole : Bool) : ∀ c ∈ fieldsM k whole, c.toNat < 128 := by
  unfold fieldsM mapM
  intro c hc
  revert c
  repeat' split
  all_goals decide

theorem plainAt.oth {B b : Nat} {W W' : World} {t : Int} {fo : Value} {tb ob : Nat} {X : List FV} (h : plainAt W t fo tb ob) (hX : FRow b X W) (ho : Oth B b W W') : plainAt W' t fo tb ob := by
  obtain ⟨h1, h2⟩ := h
  unfold FRow at hX
  have n1 : tb ≠ b := by rintro rfl; rw [hX] at h1; injection h1 with h1; injection h1 with _ h1; exact absurd h1 (by decide)
  have n2 : ob ≠ b := by rintro rfl; rw [hX] at h2; injection h2 with h2; injection h2 with _ h2; exact absurd h2 (by decide)
  exact ⟨(ho.oth tb (Array.getElem?_eq_some_iff.1 h1).1 n1).trans h1, (ho.oth ob (Array.getElem?_eq_some_iff.1 h2).1 n2).trans h2⟩
theorem AllAt.oth {t0 t1 t2 t3 t4 t5 t6 t7 B b : Nat} {W W' : World} {X : List FV} (h : AllAt t0 t1 t2 t3 t4 t5 t6 t7 W) (hX : FRow b X W) (ho : Oth B b W W') : AllAt t0 t1 t2 t3 t4 t5 t6 t7 W' :=
  ⟨h.a0.oth hX ho, h.a1.oth hX ho, h.a2.oth hX ho, h.a3.oth hX ho, h.a4.oth hX ho, h.a5.oth hX ho, h.a6.oth hX ho, h.a7.oth hX ho⟩

/-- The fields of a kind. -/
def ofL (k : Int) (whole : Bool) (t0 t1 t2 t3 t4 t5 t6 t7 : Nat) : List FV := (allL t0 t1 t2 t3 t4 t5 t6 t7).filter fun f => !goes (fieldsM k whole) f

/-- A row of the fields of a kind. -/
def OfAt (k : Int) (whole : Bool) (w : World) (e : Ending) (w' : World) : Prop := ∃ b t0 t1 t2 t3 t4 t5 t6 t7 m n : Nat, e = .returned (.slice (some ⟨b, 0, none⟩) m n) ∧ m = (ofL k whole t0 t1 t2 t3 t4 t5 t6 t7).length ∧ Rd w' 4 (some ⟨b, 0, none⟩) m n (fV (ofL k whole t0 t1 t2 t3 t4 t5 t6 t7)) ∧ AllAt t0 t1 t2 t3 t4 t5 t6 t7 w' ∧ Below w.heap.size w w'

theorem allL_hone (t0 t1 t2 t3 t4 t5 t6 t7 : Nat) : ∀ f ∈ allL t0 t1 t2 t3 t4 t5 t6 t7, f.kp.oneCell' = true ∧ f.pt.oneCell' = true ∧ f.tk.oneCell' = true := by
  intro f hf
  simp only [allL, List.mem_cons, List.not_mem_nil, or_false] at hf
  rcases hf with rfl | rfl | rfl | rfl | rfl | rfl | rfl | rfl | rfl | rfl | rfl | rfl | rfl | rfl | rfl <;> exact ⟨rfl, rfl, rfl⟩

set_option maxRecDepth 100000 in
set_option maxHeartbeats 4000000 in
theorem of_any (k : Int) (whole : Bool) (w : World) : Calls Tryz.prog 55 #[.int .i64 k, .bool whole] w (OfAt k whole w) := by
  have hus : Tryz.prog.underlying 9 = some .string := Tryz.underlying9
  go_enter Tryz.func55, Tryz.ntmps55
  go_wp2_with fail
  refine (fieldsM_any k whole w).mono ?_
  rintro e w1 ⟨rfl, hb1⟩
  go_wp2_with fail
  generalize hg : w1.alloc _ = W2
  have hb2 : Below w1.heap.size w1 W2 := by rw [← hg]; exact (Below.refl _ _).alloc (Nat.le_refl _) _
  have hs2 : StrAt w1.heap.size (fieldsM k whole) W2 := by rw [← hg]; show (w1.heap.push _)[w1.heap.size]? = some _; exact Array.getElem?_push_size
  clear hg
  refine (all_any W2).mono ?_
  rintro e w3 ⟨b, t0, t1, t2, t3, t4, t5, t6, t7, rfl, hrow, hat, hb3, hbb⟩
  have hs3 := hs2.later hb3
  have hz : w1.heap.size < W2.heap.size := (Array.getElem?_eq_some_iff.1 hs2).1
  go_wp2_with fail
  refine (deleteF_any b b 15 w1.heap.size (allL t0 t1 t2 t3 t4 t5 t6 t7) (fieldsM k whole) w3 hrow rfl (by decide) hs3 (fieldsM_asc k whole) (Nat.le_refl _) (by omega) (allL_hone t0 t1 t2 t3 t4 t5 t6 t7)).mono ?_
  rintro e w4 ⟨m, rfl, hm, hrd, ho⟩
  have HR := Lib.hid hm
  clear hm
  go_wp2_with fail
  go_ret
  refine ⟨b, t0, t1, t2, t3, t4, t5, t6, t7, m, 15, rfl, HR.out, hrd, hat.oth hrow ho, ?_⟩
  have e1 := (hb1.trans (hb2.mono hb1.size)).trans (hb3.mono (Nat.le_trans hb1.size hb2.size))
  exact e1.trans (ho.bel.mono (Nat.le_trans (Nat.le_trans hb1.size hb2.size) hbb))
end Go.Proofs.YtloamijcabkekaaGreatDoor.Msg
