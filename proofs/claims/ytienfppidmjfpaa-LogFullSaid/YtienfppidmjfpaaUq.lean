/-
  The walk of the statement UtfOrders.
-/
import Derived.Test.YtienfppidmjfpaaUo
import Derived.Test.YtienfppidmjfpaaUh
import Derived.Deep.DeepCutAuto
import Derived.Deep.CutBlock
namespace Go.Proofs.Ytienfppidmjfpaa.Utf
open Go.RowKit Go.Proofs.Ytienfppidmjfpaa.Mem

theorem ext_drop (l : List UInt8) (m : Nat) : ((ByteArray.mk l.toArray).extract m l.length).data.toList = l.drop m := by
  simp [ByteArray.extract, ByteArray.copySlice]
  rw [List.take_of_length_le (by simp)]
theorem ext_size (l : List UInt8) (m : Nat) : ((ByteArray.mk l.toArray).extract m l.length).size = l.length - m := by
  rw [← len_data, ext_drop, List.length_drop]

end Go.Proofs.Ytienfppidmjfpaa.Utf
