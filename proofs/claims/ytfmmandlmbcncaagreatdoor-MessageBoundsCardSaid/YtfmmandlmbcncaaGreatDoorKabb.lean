/-
  A part of the proof.
-/
import Derived.Test.YtfmmandlmbcncaaGreatDoorKaam
set_option maxHeartbeats 40000000
namespace Go.Proofs.YtfmmandlmbcncaaGreatDoor.Tlv
open Go.RowKit Go.Proofs.YtfmmandlmbcncaaGreatDoor.Mem
structure RS where
 l:List UInt8
 bad:Bool
end Go.Proofs.YtfmmandlmbcncaaGreatDoor.Tlv
namespace Go.Proofs.YtfmmandlmbcncaaGreatDoor.Tlv
structure Took {α:Type}(body:α→List UInt8)(may good:α→Prop)(s:RS)(y:α)(s':RS):Prop where
 yes:s'.bad=false→s.bad=false∧s.l=body y++s'.l∧good y
 no:s'.bad=true→s.bad=true∨∀z rest,may z→s.l≠body z++rest
 le:s'.l.length≤s.l.length
end Go.Proofs.YtfmmandlmbcncaaGreatDoor.Tlv
