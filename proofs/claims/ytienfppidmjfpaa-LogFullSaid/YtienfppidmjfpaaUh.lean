/-
  The walks of two statements of layer 1: UtfRunes, UtfMakes; and of the chapter's rows ('known').
-/
import Derived.Test.YtienfppidmjfpaaUg
namespace Go.Proofs.Ytienfppidmjfpaa.Utf
open Go.RowKit Go.Proofs.Ytienfppidmjfpaa.Mem

/-- A bool is answered; what was there is as it was. -/
def GivesTrue (w : World) (e : Ending) (w' : World) : Prop := e = .returned (.bool true) ∧ Below w.heap.size w w'

theorem known_enc : encAll [8364] = [226, 130, 172] := by decide
theorem known_nx : nx [192, 128] = (0, 0) := by decide

end Go.Proofs.Ytienfppidmjfpaa.Utf
