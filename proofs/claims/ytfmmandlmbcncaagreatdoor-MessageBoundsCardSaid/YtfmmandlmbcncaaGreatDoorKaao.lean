/-
  A part of the proof.
-/
import Derived.Deep.Cut
import Derived.Test.YtfmmandlmbcncaaGreatDoorKaan
set_option maxHeartbeats 40000000
namespace Go.Proofs.YtfmmandlmbcncaaGreatDoor.Msg
open Go.RowKit Go.Lib Go.Proofs.YtfmmandlmbcncaaGreatDoor.Mem Go.Proofs.YtfmmandlmbcncaaGreatDoor.Tlv
def zeroR:RV:=⟨0,0,zeroV⟩
end Go.Proofs.YtfmmandlmbcncaaGreatDoor.Msg
