/-
  A part of the proof.
-/
import Derived.Test.YtfmmandlmbcncaaGreatDoorKaal
import Derived.Test.YtfmmandlmbcncaaGreatDoorKaao
import Derived.Test.YtfmmandlmbcncaaGreatDoorKaar
set_option maxHeartbeats 40000000
namespace Go.Proofs.YtfmmandlmbcncaaGreatDoor.Msg
open Go.RowKit Go.Lib Go.Proofs.YtfmmandlmbcncaaGreatDoor.Mem
set_option maxRecDepth 100000 in
theorem eqfReq_nil (f:Value)(w:World):Calls Tryz.prog 140 #[.slice none 0 0,.slice none 0 0,f] w (GivesB true w):=by
 go_enter Tryz.func140,Tryz.ntmps140
 go_wp2_with fail
 go_loopw [17] (fun p wr=>p=.int .i64 0∧wr=w) (fun _ _=>0)
 case atStart=>exact⟨rfl,rfl⟩
 case round=>
  obtain⟨rfl,rfl⟩:=hrel
  go_wp2_with fail
  go_ret
  exact⟨rfl,Below.refl _ _⟩
set_option maxRecDepth 100000 in
theorem eqfEnt_nil (f:Value)(w:World):Calls Tryz.prog 172 #[.slice none 0 0,.slice none 0 0,f] w (GivesB true w):=by
 go_enter Tryz.func172,Tryz.ntmps172
 go_wp2_with fail
 go_loopw [17] (fun p wr=>p=.int .i64 0∧wr=w) (fun _ _=>0)
 case atStart=>exact⟨rfl,rfl⟩
 case round=>
  obtain⟨rfl,rfl⟩:=hrel
  go_wp2_with fail
  go_ret
  exact⟨rfl,Below.refl _ _⟩
set_option maxRecDepth 100000 in
theorem equalU_nil (w:World):Calls Tryz.prog 141 #[.slice none 0 0,.slice none 0 0] w (GivesB true w):=by
 go_enter Tryz.func141,Tryz.ntmps141
 go_wp2_with fail
 go_loopw [13] (fun p wr=>p=.int .i64 0∧wr=w) (fun _ _=>0)
 case atStart=>exact⟨rfl,rfl⟩
 case round=>
  obtain⟨rfl,rfl⟩:=hrel
  go_wp2_with fail
  go_ret
  exact⟨rfl,Below.refl _ _⟩
theorem equalB_nil (w:World):Calls Tryz.prog 121 #[.slice none 0 0,.slice none 0 0] w (GivesB true w):=
 (equal_byt none none 0 0 0 0 [] [] w (Rd.nil _ _) (Rd.nil _ _) (by decide)).mono fun _ _ h=>h
set_option maxRecDepth 100000 in
theorem sameReq_self (r:RV)(c:OC)(w:World)(h:OpAt w r.op c):Calls Tryz.prog 138 #[r.val,r.val] w (GivesB true w):=by
 have hb0:Below w.heap.size w ((w.alloc r.box).alloc r.box):=below_two w _ _
 obtain⟨hx,hx'⟩:=two_boxes w r.box r.box
 have ho:=h.later hb0
 have hcall:=sameOp_any r.op r.op c c ((w.alloc r.box).alloc r.box) ho ho
 rw[show sameOp r.op c r.op c=true from same_yes ⟨rfl,rfl,rfl,rfl,rfl,rfl,rfl⟩] at hcall
 have hz:((w.alloc r.box).alloc r.box).heap.size=w.heap.size+1+1:=by simp
 clear ho
 unfold RV.box at hx hx' hb0 hcall
 unfold RV.cells at hx hx' hb0 hcall
 unfold OV.val at hcall
 unfold RV.val RV.cells
 have g1:(r.cl==r.cl)=true:=by simp
 have g2:(r.nu==r.nu)=true:=by simp
 go_enter Tryz.func138,Tryz.ntmps138
 go_wp2_with fail
 refine hcall.mono ?_
 rintro e w1 ⟨rfl,hb1⟩
 go_wp2_with fail
 go_ret
 exact⟨rfl,hb0.trans (hb1.mono hb0.size)⟩
set_option maxRecDepth 100000 in
theorem sameRes_self (code:Int)(yes:Bool)(w:World):Calls Tryz.prog 139 #[.agg #[.int .i64 code,.bool yes,.slice none 0 0,.slice none 0 0],.agg #[.int .i64 code,.bool yes,.slice none 0 0,.slice none 0 0]] w (GivesB true w):=by
 have g1:(code==code)=true:=by simp
 have g2:(yes==yes)=true:=by simp
 obtain⟨hx,hx'⟩:=two_boxes w (.cells #[.int .i64 code,.bool yes,.slice none 0 0,.slice none 0 0] 39) (.cells #[.int .i64 code,.bool yes,.slice none 0 0,.slice none 0 0] 39)
 have hb0:=below_two w (.cells #[.int .i64 code,.bool yes,.slice none 0 0,.slice none 0 0] 39) (.cells #[.int .i64 code,.bool yes,.slice none 0 0,.slice none 0 0] 39)
 go_enter Tryz.func139,Tryz.ntmps139
 go_wp2_with fail
 refine (eqfEnt_nil _ _).mono ?_
 rintro e w1 ⟨rfl,hb1⟩
 have k1:=(hb1.block _ (by simp only[World.size_alloc];omega)).trans hx
 have k2:=(hb1.block _ (by simp only[World.size_alloc];omega)).trans hx'
 have hb2:=hb0.trans (hb1.mono hb0.size)
 have c1:w1.cell? ⟨w.heap.size,3,none⟩=some (.slice none 0 0):=by simp[World.cell?,k1]
 have c2:w1.cell? ⟨w.heap.size+1,3,none⟩=some (.slice none 0 0):=by simp[World.cell?,k2]
 go_wp2_with fail
 refine (equalB_nil _).mono ?_
 rintro e w2 ⟨rfl,hb3⟩
 go_wp2_with fail
 go_ret
 exact⟨rfl,hb2.trans (hb3.mono hb2.size)⟩
structure FM where
 k:Int
 vi:Int
 no:Int
 fr:Int
 cl:Int
 nu:Int
 rq:RV
 co:Int
 ye:Bool
 at_:Int
 cm:Int
 ba:Int
 on:Int
 wh:Bool
def FM.cells (m:FM):Array Value:=#[.int .i64 m.k,.int .u64 m.vi,.int .u64 m.no,.int .i64 m.fr,.int .u64 m.cl,.int .u64 m.nu,
 .int .u64 m.rq.cl,.int .u64 m.rq.nu,.int .i64 m.rq.op.k,.string m.rq.op.name,.string m.rq.op.to,.slice m.rq.op.ao m.rq.op.an m.rq.op.ac,.slice m.rq.op.bo m.rq.op.bn m.rq.op.bc,.slice m.rq.op.co m.rq.op.cn m.rq.op.cc,.int .i64 m.rq.op.n,
 .int .i64 m.co,.bool m.ye,.slice none 0 0,.slice none 0 0,.int .u64 m.at_,.int .u64 m.cm,.int .u64 m.ba,.slice none 0 0,.slice none 0 0,.int .u64 m.on,.bool m.wh,.slice none 0 0]
def FM.val (m:FM):Value:=.agg m.cells
def FM.box (m:FM):Obj:=.cells m.cells 59
theorem mbox_cells {W:World}{B:Nat}{m:FM}(h:W.heap[B]?=some m.box)(i:Nat)(v:Value)(hv:m.cells[i]?=some v):W.cell? ⟨B,i,none⟩=some v:=by
 unfold FM.box at h
 simp[World.cell?,h,hv]
set_option maxRecDepth 100000 in
theorem same_self (m:FM)(c:OC)(w:World)(h:OpAt w m.rq.op c):Calls Tryz.prog 102 #[m.val,m.val] w (GivesB true w):=by
 have hb0:Below w.heap.size w ((w.alloc m.box).alloc m.box):=below_two w _ _
 obtain⟨hx,hx'⟩:=two_boxes w m.box m.box
 have hz:((w.alloc m.box).alloc m.box).heap.size=w.heap.size+1+1:=by simp
 have hcall:=sameReq_self m.rq c ((w.alloc m.box).alloc m.box) (h.later hb0)
 have g1:(m.k==m.k)=true:=by simp
 have g2:(m.vi==m.vi)=true:=by simp
 have g3:(m.no==m.no)=true:=by simp
 have g4:(m.fr==m.fr)=true:=by simp
 have g5:(m.cl==m.cl)=true:=by simp
 have g6:(m.nu==m.nu)=true:=by simp
 have g7:(m.at_==m.at_)=true:=by simp
 have g8:(m.cm==m.cm)=true:=by simp
 have g9:(m.ba==m.ba)=true:=by simp
 have g10:(m.on==m.on)=true:=by simp
 have g11:(m.wh==m.wh)=true:=by simp
 unfold FM.box at hb0 hcall hz
 unfold RV.val at hcall
 unfold RV.cells at hcall
 unfold FM.cells at hb0 hcall hz
 unfold FM.val FM.cells
 go_enter Tryz.func102,Tryz.ntmps102
 go_wp2_with fail
 refine hcall.mono ?_
 rintro e w1 ⟨rfl,hb1x⟩
 have hz1:w.heap.size+1+1≤w1.heap.size:=by have:=hb1x.size;rw[hz] at this;exact this
 have k1_1:w1.heap[w.heap.size]?=some m.box:=(hb1x.block _ (by rw[hz];omega)).trans hx
 have k2_1:w1.heap[w.heap.size+1]?=some m.box:=(hb1x.block _ (by rw[hz];omega)).trans hx'
 have hb1:=hb0.trans (hb1x.mono hb0.size)
 clear hx hx' hcall hz
 have a15:w1.cell? ⟨w.heap.size,15,none⟩=some (.int .i64 m.co):=mbox_cells k1_1 15 _ rfl
 have b15:w1.cell? ⟨w.heap.size+1,15,none⟩=some (.int .i64 m.co):=mbox_cells k2_1 15 _ rfl
 have a16:w1.cell? ⟨w.heap.size,16,none⟩=some (.bool m.ye):=mbox_cells k1_1 16 _ rfl
 have b16:w1.cell? ⟨w.heap.size+1,16,none⟩=some (.bool m.ye):=mbox_cells k2_1 16 _ rfl
 have a17:w1.cell? ⟨w.heap.size,17,none⟩=some (.slice none 0 0):=mbox_cells k1_1 17 _ rfl
 have b17:w1.cell? ⟨w.heap.size+1,17,none⟩=some (.slice none 0 0):=mbox_cells k2_1 17 _ rfl
 have a18:w1.cell? ⟨w.heap.size,18,none⟩=some (.slice none 0 0):=mbox_cells k1_1 18 _ rfl
 have b18:w1.cell? ⟨w.heap.size+1,18,none⟩=some (.slice none 0 0):=mbox_cells k2_1 18 _ rfl
 go_wp2_with fail
 clear a15 b15 a16 b16 a17 b17 a18 b18
 refine (sameRes_self m.co m.ye _).mono ?_
 rintro e w2 ⟨rfl,hb2x⟩
 have hz2:w.heap.size+1+1≤w2.heap.size:=Nat.le_trans hz1 hb2x.size
 have k1_2:=(hb2x.block w.heap.size (by omega)).trans k1_1
 have k2_2:=(hb2x.block (w.heap.size+1) (by omega)).trans k2_1
 have hb2:=hb1.trans (hb2x.mono hb1.size)
 have a19:w2.cell? ⟨w.heap.size,19,none⟩=some (.int .u64 m.at_):=mbox_cells k1_2 19 _ rfl
 have b19:w2.cell? ⟨w.heap.size+1,19,none⟩=some (.int .u64 m.at_):=mbox_cells k2_2 19 _ rfl
 have a20:w2.cell? ⟨w.heap.size,20,none⟩=some (.int .u64 m.cm):=mbox_cells k1_2 20 _ rfl
 have b20:w2.cell? ⟨w.heap.size+1,20,none⟩=some (.int .u64 m.cm):=mbox_cells k2_2 20 _ rfl
 have a21:w2.cell? ⟨w.heap.size,21,none⟩=some (.int .u64 m.ba):=mbox_cells k1_2 21 _ rfl
 have b21:w2.cell? ⟨w.heap.size+1,21,none⟩=some (.int .u64 m.ba):=mbox_cells k2_2 21 _ rfl
 have a22:w2.cell? ⟨w.heap.size,22,none⟩=some (.slice none 0 0):=mbox_cells k1_2 22 _ rfl
 have b22:w2.cell? ⟨w.heap.size+1,22,none⟩=some (.slice none 0 0):=mbox_cells k2_2 22 _ rfl
 go_wp2_with fail
 clear a19 b19 a20 b20 a21 b21 a22 b22
 refine (equalB_nil _).mono ?_
 rintro e w3 ⟨rfl,hb3x⟩
 have hz3:w.heap.size+1+1≤w3.heap.size:=Nat.le_trans hz2 hb3x.size
 have k1_3:=(hb3x.block w.heap.size (by omega)).trans k1_2
 have k2_3:=(hb3x.block (w.heap.size+1) (by omega)).trans k2_2
 have hb3:=hb2.trans (hb3x.mono hb2.size)
 have a23:w3.cell? ⟨w.heap.size,23,none⟩=some (.slice none 0 0):=mbox_cells k1_3 23 _ rfl
 have b23:w3.cell? ⟨w.heap.size+1,23,none⟩=some (.slice none 0 0):=mbox_cells k2_3 23 _ rfl
 go_wp2_with fail
 clear a23 b23
 refine (eqfReq_nil _ _).mono ?_
 rintro e w4 ⟨rfl,hb4x⟩
 have hz4:w.heap.size+1+1≤w4.heap.size:=Nat.le_trans hz3 hb4x.size
 have k1_4:=(hb4x.block w.heap.size (by omega)).trans k1_3
 have k2_4:=(hb4x.block (w.heap.size+1) (by omega)).trans k2_3
 have hb4:=hb3.trans (hb4x.mono hb3.size)
 have a24:w4.cell? ⟨w.heap.size,24,none⟩=some (.int .u64 m.on):=mbox_cells k1_4 24 _ rfl
 have b24:w4.cell? ⟨w.heap.size+1,24,none⟩=some (.int .u64 m.on):=mbox_cells k2_4 24 _ rfl
 have a25:w4.cell? ⟨w.heap.size,25,none⟩=some (.bool m.wh):=mbox_cells k1_4 25 _ rfl
 have b25:w4.cell? ⟨w.heap.size+1,25,none⟩=some (.bool m.wh):=mbox_cells k2_4 25 _ rfl
 have a26:w4.cell? ⟨w.heap.size,26,none⟩=some (.slice none 0 0):=mbox_cells k1_4 26 _ rfl
 have b26:w4.cell? ⟨w.heap.size+1,26,none⟩=some (.slice none 0 0):=mbox_cells k2_4 26 _ rfl
 go_wp2_with fail
 clear a24 b24 a25 b25 a26 b26
 refine (equalU_nil _).mono ?_
 rintro e w5 ⟨rfl,hb5x⟩
 have hz5:w.heap.size+1+1≤w5.heap.size:=Nat.le_trans hz4 hb5x.size
 have k1_5:=(hb5x.block w.heap.size (by omega)).trans k1_4
 have k2_5:=(hb5x.block (w.heap.size+1) (by omega)).trans k2_4
 have hb5:=hb4.trans (hb5x.mono hb4.size)
 go_wp2_with fail
 go_ret
 exact⟨rfl,hb5⟩
end Go.Proofs.YtfmmandlmbcncaaGreatDoor.Msg
namespace Go.Proofs.YtfmmandlmbcncaaGreatDoor.Msg
open Go.RowKit Go.Lib Go.Proofs.YtfmmandlmbcncaaGreatDoor.Mem Go.Proofs.YtfmmandlmbcncaaGreatDoor.Tlv
set_option maxRecDepth 100000 in
theorem indexReq_nil (f:Value)(w:World):Calls Tryz.prog 142 #[.slice none 0 0,f] w fun e w'=>e=.returned (.int .i64 (-1))∧Below w.heap.size w w':=by
 go_enter Tryz.func142,Tryz.ntmps142
 go_wp2_with fail
 go_loopw [8] (fun p wr=>p=.int .i64 0∧wr=w) (fun _ _=>0)
 case atStart=>exact⟨rfl,rfl⟩
 case round=>
  obtain⟨rfl,rfl⟩:=hrel
  go_wp2_with fail
  go_ret
  exact⟨rfl,Below.refl _ _⟩
set_option maxRecDepth 100000 in
theorem containsReq_nil (f:Value)(w:World):Calls Tryz.prog 103 #[.slice none 0 0,f] w (GivesB false w):=by
 go_enter Tryz.func103,Tryz.ntmps103
 go_wp2_with fail
 refine (indexReq_nil f w).mono ?_
 rintro e w1 ⟨rfl,hb1⟩
 go_wp2_with fail
 go_ret
 exact⟨rfl,hb1⟩
end Go.Proofs.YtfmmandlmbcncaaGreatDoor.Msg
