/-
  A part of the proof.
-/
import Derived.Laws.CopyOwn
import Derived.Test.YtfmmandlmbcncaaGreatDoorKdam
set_option maxHeartbeats 40000000
set_option maxRecDepth 100000
namespace Go.Proofs.YtfmmandlmbcncaaGreatDoor.Msg
open Go.RowKit Go.Lib Mem Utf
theorem sQ (k:Int):fieldsOf k=[]\/(k=1/\fieldsOf k=[110,97])\/(k=2/\fieldsOf k=[110])\/(k=3/\fieldsOf k=[110,97])\/(k=4/\fieldsOf k=[110,116])\/(k=5/\fieldsOf k=[110,97])\/(k=6/\fieldsOf k=[110])\/(k=7/\fieldsOf k=[112,99,107])\/(k=8/\fieldsOf k=[99,107]):=by
 by_cases h:1<=k/\k<=8
 ·rcases (by omega:k=1\/k=2\/k=3\/k=4\/k=5\/k=6\/k=7\/k=8) with rfl|rfl|rfl|rfl|rfl|rfl|rfl|rfl<;>simp[fieldsOf]
 left;unfold fieldsOf
 repeat rw[if_neg (by omega)]
end Go.Proofs.YtfmmandlmbcncaaGreatDoor.Msg
