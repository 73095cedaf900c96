/-
  The walks of utf.Encode and of the reference's Encode.
-/
import Derived.Test.YtienfppidmjfpaaUe
namespace Go.Proofs.Ytienfppidmjfpaa.Utf
open Go.RowKit Go.Proofs.Ytienfppidmjfpaa.Mem

/-- Runes as cells. -/
def ruV (l : List Int) : List Value := l.map (Value.int .i32)
theorem ruV_len (l : List Int) : (ruV l).length = l.length := by simp [ruV]
def encAll (l : List Int) : List UInt8 := l.flatMap enc
theorem encAll_nil : encAll [] = [] := rfl
theorem encAll_snoc (l : List Int) (r : Int) : encAll (l ++ [r]) = encAll l ++ enc r := by simp [encAll]
theorem encAll_cons (l : List Int) (r : Int) : encAll (r :: l) = enc r ++ encAll l := by simp [encAll]
theorem encAll_len : ∀ (l : List Int), (encAll l).length ≤ 4 * l.length
  | [] => by simp [encAll]
  | r :: l => by
    have := encAll_len l; have := enc_le r
    rw [encAll_cons, List.length_append, List.length_cons]; omega
theorem take_at (l : List Int) (k : Nat) (h : k < l.length) : l.take (k + 1) = l.take k ++ [l[k]?.getD 0] := by
  rw [List.take_succ_eq_append_getElem h, List.getElem?_eq_getElem h]; rfl
theorem encAll_take (l : List Int) (k : Nat) (h : k < l.length) : encAll (l.take (k + 1)) = encAll (l.take k) ++ enc (l[k]?.getD 0) := by
  rw [take_at l k h, encAll_snoc]
theorem ruV_at (l : List Int) (k : Nat) (h : k < l.length) : (ruV l)[k]? = some (.int .i32 (l[k]?.getD 0)) := by
  simp [ruV, List.getElem?_eq_getElem h]
def allMay (l : List Int) : Prop := ∀ r ∈ l, may r = true

/-- What holds of Encode's bytes behind k runes. -/
def EncAt (w wr : World) (l : List Int) (k : Nat) (v : Value) : Prop :=
  wr.ownsRow w.heap.size 5 1 v (encAll (l.take k)).length (byV (encAll (l.take k))) ∧ Below w.heap.size w wr

def EncPost (w : World) (l : List Int) (e : Ending) (w' : World) : Prop := e = .returned (.tuple #[.string ⟨(encAll l).toArray⟩, .int .i64 0]) ∧ Below w.heap.size w w'

theorem not_allMay {l : List Int} (h : ¬ allMay l) : ∃ k : Nat, k < l.length ∧ may (l[k]?.getD 0) = false ∧ ∀ j, j < k → may (l[j]?.getD 0) = true := by
  induction l with
  | nil => exact absurd (fun r hr => by cases hr) h
  | cons a l ih =>
    cases ha : may a with
    | false => exact ⟨0, by simp, by simpa using ha, fun j hj => by omega⟩
    | true =>
      have hn : ¬ allMay l := fun hl => h (fun r hr => by
        rcases List.mem_cons.1 hr with rfl | hr
        · exact ha
        · exact hl r hr)
      obtain ⟨k, h1, h2, h3⟩ := ih hn
      refine ⟨k + 1, by simpa using h1, by simpa using h2, fun j hj => ?_⟩
      cases j with
      | zero => simpa using ha
      | succ j => simpa using h3 j (by omega)

end Go.Proofs.Ytienfppidmjfpaa.Utf
