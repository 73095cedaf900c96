/-
  A part of the proof.
-/
import Derived.Test.YtfmmandlmbcncaaGreatDoorKbad
set_option maxHeartbeats 40000000
namespace Go.Proofs.YtfmmandlmbcncaaGreatDoor.Msg
open Go.RowKit Go.Proofs.YtfmmandlmbcncaaGreatDoor.Mem
theorem sliceT_txt:SliceT Tryz.prog 33 9 (.string ⟨#[]⟩) 1 16:=⟨Tryz.underlying33,by kernel_rfl,rfl,by decide⟩
theorem sliceT_att:SliceT Tryz.prog 32 106 (.agg #[.string ⟨#[]⟩,.string ⟨#[]⟩]) 2 32:=⟨Tryz.underlying32,by kernel_rfl,rfl,by decide⟩
end Go.Proofs.YtfmmandlmbcncaaGreatDoor.Msg
