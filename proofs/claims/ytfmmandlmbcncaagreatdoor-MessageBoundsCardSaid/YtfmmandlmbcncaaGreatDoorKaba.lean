/-
  A part of the proof.
-/
import Derived.Deep.Slices
import Derived.Deep.Fields
import Derived.Deep.Strs
import Derived.ChangeSame
import Derived.ChangeArms
import Derived.Laws.CopyOwn
import Derived.Deep.Cut
import Derived.BigQuiet
import Derived.Test.YtfmmandlmbcncaaGreatDoorKaay
import Derived.Test.YtfmmandlmbcncaaGreatDoorKaaz
import Derived.Test.YtfmmandlmbcncaaGreatDoorKaag
import Derived.Test.YtfmmandlmbcncaaGreatDoorKaah
import Derived.Test.YtfmmandlmbcncaaGreatDoorKaab
import Derived.Test.YtfmmandlmbcncaaGreatDoorKaav
import Derived.Test.YtfmmandlmbcncaaGreatDoorKaar
set_option maxHeartbeats 40000000
namespace Go.Proofs.YtfmmandlmbcncaaGreatDoor.Msg
open Go.RowKit Go.Lib Go.Proofs.YtfmmandlmbcncaaGreatDoor.Mem Go.Proofs.YtfmmandlmbcncaaGreatDoor.Tlv
open Go.ChangeShapes Go.WideShapes Go.Deep
abbrev RP:=RV×OC
section
variable {H:Type} {enc:TypeId×Value→H} {P:Program} {W:World}
end
section
variable {H:Type} {enc:TypeId×Value→H} {W:World}
end
end Go.Proofs.YtfmmandlmbcncaaGreatDoor.Msg
