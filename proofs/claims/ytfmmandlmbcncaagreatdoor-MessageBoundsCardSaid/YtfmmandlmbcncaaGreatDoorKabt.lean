/-
  A part of the proof.
-/
import Derived.Laws.CopyOwn
import Derived.Deep.Cut
import Derived.BigQuiet
import Derived.Test.YtfmmandlmbcncaaGreatDoorKabp
import Derived.Test.YtfmmandlmbcncaaGreatDoorKabk
import Derived.Test.YtfmmandlmbcncaaGreatDoorKabc
import Derived.Test.YtfmmandlmbcncaaGreatDoorKabl
import Derived.Test.YtfmmandlmbcncaaGreatDoorKaab
import Derived.Test.YtfmmandlmbcncaaGreatDoorKaav
import Derived.Test.YtfmmandlmbcncaaGreatDoorKabh
import Derived.Test.YtfmmandlmbcncaaGreatDoorKaaz
import Derived.Test.YtfmmandlmbcncaaGreatDoorKaag
import Derived.Test.YtfmmandlmbcncaaGreatDoorKabf
import Derived.Test.YtfmmandlmbcncaaGreatDoorKaam
import Derived.Test.YtfmmandlmbcncaaGreatDoorKabo
set_option maxHeartbeats 40000000
namespace Go.Proofs.YtfmmandlmbcncaaGreatDoor.Msg
open Go.RowKit Go.Lib Go.Proofs.YtfmmandlmbcncaaGreatDoor.Mem Go.Proofs.YtfmmandlmbcncaaGreatDoor.Tlv
def agree (x:Int)(m:MV)(c:MC)(m':MV)(c':MC):Bool:=
 if x=118 then decide (m.vi=m'.vi)
 else if x=110 then decide (m.no=m'.no)
 else if x=102 then decide (m.fr=m'.fr)
 else if x=99 then decide (m.cl=m'.cl)
 else if x=117 then decide (m.nu=m'.nu)
 else if x=113 then sameReq m.rq c.rq m'.rq c'.rq
 else if x=114 then sameRes m.rs c.rs m'.rs c'.rs
 else if x=97 then decide (m.at_=m'.at_)
 else if x=109 then decide (m.cm=m'.cm)
 else if x=98 then decide (m.bs=m'.bs)
 else if x=115 then decide (c.snap=c'.snap)
 else if x=108 then sameLog c.log c'.log
 else if x=111 then decide (m.nc=m'.nc)
 else if x=119 then decide (m.wh=m'.wh)
 else decide (c.seen=c'.seen)
theorem at_new (W:World)(o:Obj):(W.alloc o).heap[W.heap.size]?=some o:=by show (W.heap.push o)[W.heap.size]?=some o;exact Array.getElem?_push_size
theorem allX_of {k:Int}{wh:Bool}:∀x∈lettersOf k wh,x∈allX:=fun _ hx=>(List.mem_filter.1 hx).1
end Go.Proofs.YtfmmandlmbcncaaGreatDoor.Msg
