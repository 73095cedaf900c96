/-
  A part of the proof.
-/
import Derived.Test.YtfmmandlmbcncaaGreatDoorKdbk
set_option maxHeartbeats 40000000
set_option maxRecDepth 100000
namespace Go.Proofs.YtfmmandlmbcncaaGreatDoor.Msg
open Go.RowKit Go.Lib Mem Tlv
theorem Ho {m:MV}{c:MC}{ls:List Int}(hls:∀x∈ls,x∈dA)(hz:∀x∈dA,x∉ls->agree x m c (ay m.k) dI=true):aG m c (iQ ls m) (kH ls c)=true:=
 same_iff.2 ⟨(BN m ls (ay m.k)).symm,fun x hx=>by
  have h:=pY m c ls hls x hx (ay m.k) dI;by_cases hm:x∈ls
  ·exact gI (h.1 hm)
  exact dQ (hz x hx hm) (gI (h.2 hm))⟩
end Go.Proofs.YtfmmandlmbcncaaGreatDoor.Msg
