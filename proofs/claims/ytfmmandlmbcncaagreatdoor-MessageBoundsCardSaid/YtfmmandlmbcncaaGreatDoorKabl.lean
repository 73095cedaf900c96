/-
  A part of the proof.
-/
import Derived.Test.YtfmmandlmbcncaaGreatDoorKabd
import Derived.Test.YtfmmandlmbcncaaGreatDoorKabk
set_option maxHeartbeats 40000000
namespace Go.Proofs.YtfmmandlmbcncaaGreatDoor.Msg
open Go.RowKit Go.Lib Go.Proofs.YtfmmandlmbcncaaGreatDoor.Mem Go.Proofs.YtfmmandlmbcncaaGreatDoor.Tlv
structure MV where
 k:Int
 vi:Int
 no:Int
 fr:Int
 cl:Int
 nu:Int
 rq:RV
 rs:QV
 at_:Int
 cm:Int
 bs:Int
 so:Option Addr
 sn:Nat
 sc:Nat
 lo:Option Addr
 ln:Nat
 lc:Nat
 nc:Int
 wh:Bool
 ho:Option Addr
 hn:Nat
 hc:Nat
def MV.cells (m:MV):Array Value:=#[.int .i64 m.k,.int .u64 m.vi,.int .u64 m.no,.int .i64 m.fr,.int .u64 m.cl,.int .u64 m.nu,.int .u64 m.rq.cl,.int .u64 m.rq.nu,.int .i64 m.rq.op.k,.string m.rq.op.name,.string m.rq.op.to,.slice m.rq.op.ao m.rq.op.an m.rq.op.ac,.slice m.rq.op.bo m.rq.op.bn m.rq.op.bc,.slice m.rq.op.co m.rq.op.cn m.rq.op.cc,.int .i64 m.rq.op.n,.int .i64 m.rs.code,.bool m.rs.yes,.slice m.rs.eo m.rs.en m.rs.ec,.slice m.rs.co m.rs.cn m.rs.cc,.int .u64 m.at_,.int .u64 m.cm,.int .u64 m.bs,.slice m.so m.sn m.sc,.slice m.lo m.ln m.lc,.int .u64 m.nc,.bool m.wh,.slice m.ho m.hn m.hc]
def MV.val (m:MV):Value:=.agg m.cells
def MV.box (m:MV):Obj:=.cells m.cells 59
structure MC where
 rq:OC
 rs:QC
 snap:List UInt8
 log:List RP
 seen:List Nat
structure MAt (W:World)(m:MV)(c:MC):Prop where
 rq:OpAt W m.rq.op c.rq
 rs:QAt W m.rs c.rs
 sn:Rd W 1 m.so m.sn m.sc (byV c.snap)
 lg:LgAt W m.lo m.ln m.lc c.log
 se:Rd W 1 m.ho m.hn m.hc (u64V c.seen)
 ls:m.sn≤1000000000
 lh:m.hn≤1000000000
theorem MAt.later {W W':World}{m:MV}{c:MC}(h:MAt W m c)(hb:Below W.heap.size W W'):MAt W' m c:=⟨h.rq.later hb,h.rs.later hb,h.sn.later hb,h.lg.later hb,h.se.later hb,h.ls,h.lh⟩
theorem mcell {W:World}{B:Nat}{m:MV}(h:W.heap[B]?=some m.box)(i:Nat)(v:Value)(hv:m.cells[i]?=some v):W.cell? ⟨B,i,none⟩=some v:=by
 unfold MV.box at h
 simp[World.cell?,h,hv]
theorem mfrozen {W:World}{B:Nat}{m:MV}(h:W.heap[B]?=some m.box)(i:Nat):W.frozen? ⟨B,i,none⟩=false:=by
 unfold MV.box at h
 simp[World.frozen?,h]
structure McAt (W:World)(B:Nat)(m:MV):Prop where
 c0:W.cell? ⟨B,0,none⟩=some (.int .i64 m.k)
 c1:W.cell? ⟨B,1,none⟩=some (.int .u64 m.vi)
 c2:W.cell? ⟨B,2,none⟩=some (.int .u64 m.no)
 c3:W.cell? ⟨B,3,none⟩=some (.int .i64 m.fr)
 c4:W.cell? ⟨B,4,none⟩=some (.int .u64 m.cl)
 c5:W.cell? ⟨B,5,none⟩=some (.int .u64 m.nu)
 c6:W.cell? ⟨B,6,none⟩=some (.int .u64 m.rq.cl)
 c7:W.cell? ⟨B,7,none⟩=some (.int .u64 m.rq.nu)
 c8:W.cell? ⟨B,8,none⟩=some (.int .i64 m.rq.op.k)
 c9:W.cell? ⟨B,9,none⟩=some (.string m.rq.op.name)
 c10:W.cell? ⟨B,10,none⟩=some (.string m.rq.op.to)
 c11:W.cell? ⟨B,11,none⟩=some (.slice m.rq.op.ao m.rq.op.an m.rq.op.ac)
 c12:W.cell? ⟨B,12,none⟩=some (.slice m.rq.op.bo m.rq.op.bn m.rq.op.bc)
 c13:W.cell? ⟨B,13,none⟩=some (.slice m.rq.op.co m.rq.op.cn m.rq.op.cc)
 c14:W.cell? ⟨B,14,none⟩=some (.int .i64 m.rq.op.n)
 c15:W.cell? ⟨B,15,none⟩=some (.int .i64 m.rs.code)
 c16:W.cell? ⟨B,16,none⟩=some (.bool m.rs.yes)
 c17:W.cell? ⟨B,17,none⟩=some (.slice m.rs.eo m.rs.en m.rs.ec)
 c18:W.cell? ⟨B,18,none⟩=some (.slice m.rs.co m.rs.cn m.rs.cc)
 c19:W.cell? ⟨B,19,none⟩=some (.int .u64 m.at_)
 c20:W.cell? ⟨B,20,none⟩=some (.int .u64 m.cm)
 c21:W.cell? ⟨B,21,none⟩=some (.int .u64 m.bs)
 c22:W.cell? ⟨B,22,none⟩=some (.slice m.so m.sn m.sc)
 c23:W.cell? ⟨B,23,none⟩=some (.slice m.lo m.ln m.lc)
 c24:W.cell? ⟨B,24,none⟩=some (.int .u64 m.nc)
 c25:W.cell? ⟨B,25,none⟩=some (.bool m.wh)
 c26:W.cell? ⟨B,26,none⟩=some (.slice m.ho m.hn m.hc)
 q:∀(j:Nat) (v:Value),m.rq.cells[j]?=some v→W.cell? ⟨B,6+j,none⟩=some v
 r:∀(j:Nat) (v:Value),m.rs.cells[j]?=some v→W.cell? ⟨B,15+j,none⟩=some v
theorem McAt.of {W:World}{B:Nat}{m:MV}(h:W.heap[B]?=some m.box):McAt W B m where
 c0:=mcell h 0 _ rfl
 c1:=mcell h 1 _ rfl
 c2:=mcell h 2 _ rfl
 c3:=mcell h 3 _ rfl
 c4:=mcell h 4 _ rfl
 c5:=mcell h 5 _ rfl
 c6:=mcell h 6 _ rfl
 c7:=mcell h 7 _ rfl
 c8:=mcell h 8 _ rfl
 c9:=mcell h 9 _ rfl
 c10:=mcell h 10 _ rfl
 c11:=mcell h 11 _ rfl
 c12:=mcell h 12 _ rfl
 c13:=mcell h 13 _ rfl
 c14:=mcell h 14 _ rfl
 c15:=mcell h 15 _ rfl
 c16:=mcell h 16 _ rfl
 c17:=mcell h 17 _ rfl
 c18:=mcell h 18 _ rfl
 c19:=mcell h 19 _ rfl
 c20:=mcell h 20 _ rfl
 c21:=mcell h 21 _ rfl
 c22:=mcell h 22 _ rfl
 c23:=mcell h 23 _ rfl
 c24:=mcell h 24 _ rfl
 c25:=mcell h 25 _ rfl
 c26:=mcell h 26 _ rfl
 q:=fun j v hv=>by
  have hj:j<9:=by
   have:=(Array.getElem?_eq_some_iff.1 hv).1
   simpa [RV.cells] using this
  refine mcell h (6+j) v ?_
  rcases (by omega:j=0∨j=1∨j=2∨j=3∨j=4∨j=5∨j=6∨j=7∨j=8) with rfl|rfl|rfl|rfl|rfl|rfl|rfl|rfl|rfl<;>exact hv
 r:=fun j v hv=>by
  have hj:j<4:=by
   have:=(Array.getElem?_eq_some_iff.1 hv).1
   simpa [QV.cells] using this
  refine mcell h (15+j) v ?_
  rcases (by omega:j=0∨j=1∨j=2∨j=3) with rfl|rfl|rfl|rfl<;>exact hv
theorem mbox_step {W W':World}{B:Nat}{m:MV}(h:W.heap[B]?=some m.box)(hb:Below W.heap.size W W'):W'.heap[B]?=some m.box:=(hb.block _ (Array.getElem?_eq_some_iff.1 h).1).trans h
def sameMsg (m:MV)(c:MC)(m':MV)(c':MC):Bool:=
 decide (m.k=m'.k)&&(decide (m.vi=m'.vi)&&(decide (m.no=m'.no)&&(decide (m.fr=m'.fr)&&(decide (m.cl=m'.cl)&&(decide (m.nu=m'.nu)&&(sameReq m.rq c.rq m'.rq c'.rq&&(sameRes m.rs c.rs m'.rs c'.rs&&(decide (m.at_=m'.at_)&&(decide (m.cm=m'.cm)&&(decide (m.bs=m'.bs)&&(decide (c.snap=c'.snap)&&(sameLog c.log c'.log&&(decide (m.nc=m'.nc)&&(decide (m.wh=m'.wh)&&decide (c.seen=c'.seen)))))))))))))))
end Go.Proofs.YtfmmandlmbcncaaGreatDoor.Msg
