/-
  A part of the proof.
-/
import Derived.BigQuiet
import Derived.Test.YtfmmandlmbcncaaGreatDoorKaaa
import Derived.Test.YtfmmandlmbcncaaGreatDoorKaai
import Derived.Test.YtfmmandlmbcncaaGreatDoorKaaq
set_option maxHeartbeats 40000000
namespace Go.Proofs.YtfmmandlmbcncaaGreatDoor.Msg
open Go.RowKit Go.Lib Go.Proofs.YtfmmandlmbcncaaGreatDoor.Mem Go.Proofs.YtfmmandlmbcncaaGreatDoor.Utf
theorem cell_after {W W':World}(hb:Below W.heap.size W W'){a:Addr}{x:Value}(h:W.cell? a=some x):W'.cell? a=some x:=(hb.cell (World.block_lt_of_cell? W _ h)).trans h
end Go.Proofs.YtfmmandlmbcncaaGreatDoor.Msg
