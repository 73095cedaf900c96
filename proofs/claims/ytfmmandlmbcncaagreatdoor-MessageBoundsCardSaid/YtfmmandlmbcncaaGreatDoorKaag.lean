/-
  A part of the proof.
-/
import Derived.Test.YtfmmandlmbcncaaGreatDoorKaaf
set_option maxHeartbeats 40000000
namespace Go.Proofs.YtfmmandlmbcncaaGreatDoor.Msg
open Go.RowKit Go.Proofs.YtfmmandlmbcncaaGreatDoor.Mem
structure OV where
 k:Int
 name:ByteArray
 «to»:ByteArray
 ao:Option Addr
 an:Nat
 ac:Nat
 bo:Option Addr
 bn:Nat
 bc:Nat
 co:Option Addr
 cn:Nat
 cc:Nat
 n:Int
structure OC where
 attrs:List (ByteArray×ByteArray)
 parts:List ByteArray
 cursor:List UInt8
def OV.val (v:OV):Value:=.agg #[.int .i64 v.k,.string v.name,.string v.to,.slice v.ao v.an v.ac,.slice v.bo v.bn v.bc,.slice v.co v.cn v.cc,.int .i64 v.n]
structure OpAt (W:World)(v:OV)(c:OC):Prop where
 a:Rd W 2 v.ao v.an v.ac (atV c.attrs)
 b:Rd W 1 v.bo v.bn v.bc (txV c.parts)
 c:Rd W 1 v.co v.cn v.cc (byV c.cursor)
 la:v.an≤1000000000
 lb:v.bn≤1000000000
 lc:v.cn≤1000000000
theorem OpAt.later {W W':World}{v:OV}{c:OC}(h:OpAt W v c)(hb:Below W.heap.size W W'):OpAt W' v c:=⟨h.a.later hb,h.b.later hb,h.c.later hb,h.la,h.lb,h.lc⟩
def sameOp (v:OV)(c:OC)(v':OV)(c':OC):Bool:=decide (v.k=v'.k∧v.name=v'.name∧v.to=v'.to∧c.attrs=c'.attrs∧c.parts=c'.parts∧c.cursor=c'.cursor∧v.n=v'.n)
theorem below_two (w:World)(o p:Obj):Below w.heap.size w ((w.alloc o).alloc p):=((Below.refl _ w).alloc (Nat.le_refl _) _).alloc (by simp) _
def OV.box (v:OV):Obj:=.cells #[.int .i64 v.k,.string v.name,.string v.to,.slice v.ao v.an v.ac,.slice v.bo v.bn v.bc,.slice v.co v.cn v.cc,.int .i64 v.n] 36
theorem box_cells {W:World}{B:Nat}{v:OV}(h:W.heap[B]?=some v.box):W.cell? ⟨B,3,none⟩=some (.slice v.ao v.an v.ac)∧W.cell? ⟨B,4,none⟩=some (.slice v.bo v.bn v.bc)∧W.cell? ⟨B,5,none⟩=some (.slice v.co v.cn v.cc)∧W.cell? ⟨B,6,none⟩=some (.int .i64 v.n):=by
 unfold OV.box at h
 simp[World.cell?,h]
theorem two_boxes (w:World)(o p:Obj):((w.alloc o).alloc p).heap[w.heap.size]?=some o∧((w.alloc o).alloc p).heap[w.heap.size+1]?=some p:=by
 constructor
 ·show ((w.heap.push o).push p)[w.heap.size]?=some o
  simp[Array.getElem?_push]
 show ((w.heap.push o).push p)[w.heap.size+1]?=some p
 rw[←Array.size_push (xs:=w.heap) o]
 exact Array.getElem?_push_size
theorem same_no {v v':OV}{c c':OC}(h:¬(v.k=v'.k∧v.name=v'.name∧v.to=v'.to∧c.attrs=c'.attrs∧c.parts=c'.parts∧c.cursor=c'.cursor∧v.n=v'.n)):sameOp v c v' c'=false:=decide_eq_false h
theorem same_yes {v v':OV}{c c':OC}(h:(v.k=v'.k∧v.name=v'.name∧v.to=v'.to∧c.attrs=c'.attrs∧c.parts=c'.parts∧c.cursor=c'.cursor∧v.n=v'.n)):sameOp v c v' c'=true:=decide_eq_true h
set_option maxRecDepth 100000 in
theorem sameOp_any (v v':OV)(c c':OC)(w:World)(h:OpAt w v c)(h':OpAt w v' c') :
  Calls Tryz.prog 76 #[v.val,v'.val] w (GivesB (sameOp v c v' c') w):=by
 have hb0:Below w.heap.size w ((w.alloc v.box).alloc v'.box):=below_two w _ _
 obtain⟨hx,hx'⟩:=two_boxes w v.box v'.box
 have ho:=h.later hb0
 have ho':=h'.later hb0
 have hz:((w.alloc v.box).alloc v'.box).heap.size=w.heap.size+1+1:=by simp
 have key:∀e1:v.k=v'.k,∀e2:v.name=v'.name,∀e3:v.to=v'.to,Hid (sameOp v c v' c'=decide (c.attrs=c'.attrs∧c.parts=c'.parts∧c.cursor=c'.cursor∧v.n=v'.n)):=fun e1 e2 e3=>Lib.hid (by simp[sameOp,e1,e2,e3])
 unfold OV.box at hb0 hx hx' ho ho' hz
 by_cases e1:v.k=v'.k
 ·have f1:(v.k==v'.k)=true:=by simp[e1]
  by_cases e2:v.name=v'.name
  ·have f2:(v.name.toList==v'.name.toList)=true:=by simp[e2]
   by_cases e3:v.to=v'.to
   ·have f3:(v.to.toList==v'.to.toList)=true:=by simp[e3]
    have Hk:=key e1 e2 e3
    unfold OV.val
    clear e1 e2 e3 key
    go_enter Tryz.func76,Tryz.ntmps76
    go_wp2_with fail
    refine (equal_att _ _ _ _ _ _ c.attrs c'.attrs _ ho.a ho'.a ho.la).mono ?_
    rintro e w1 ⟨rfl,hb1⟩
    have hb2:=hb0.trans (hb1.mono hb0.size)
    have k1:=(hb1.block w.heap.size (by rw[hz];omega)).trans hx
    have k2:=(hb1.block (w.heap.size+1) (by rw[hz];omega)).trans hx'
    have q1:=ho.later hb1
    have q1':=ho'.later hb1
    obtain⟨-,c1,c2,c3⟩:=box_cells (v:=v) k1
    obtain⟨-,c4,c5,c6⟩:=box_cells (v:=v') k2
    have hz1:=hb1.size
    rw[hz] at hz1
    by_cases e4:c.attrs=c'.attrs
    ·rw[decide_eq_true e4]
     go_wp2_with fail
     refine (equal_txt _ _ _ _ _ _ c.parts c'.parts _ q1.b q1'.b q1.lb).mono ?_
     rintro e w2 ⟨rfl,hb3⟩
     have hb4:=hb2.trans (hb3.mono hb2.size)
     have k3:=(hb3.block w.heap.size (by omega)).trans k1
     have k4:=(hb3.block (w.heap.size+1) (by omega)).trans k2
     have q2:=q1.later hb3
     have q2':=q1'.later hb3
     clear c1 c2 c3 c4 c5 c6
     obtain⟨-,-,c2,c3⟩:=box_cells (v:=v) k3
     obtain⟨-,-,c5,c6⟩:=box_cells (v:=v') k4
     have hz2:=hb3.size
     by_cases e5:c.parts=c'.parts
     ·rw[decide_eq_true e5]
      go_wp2_with fail
      refine (equal_byt _ _ _ _ _ _ c.cursor c'.cursor _ q2.c q2'.c q2.lc).mono ?_
      rintro e w3 ⟨rfl,hb5⟩
      have hb6:=hb4.trans (hb5.mono hb4.size)
      have k5:=(hb5.block w.heap.size (by omega)).trans k3
      have k6:=(hb5.block (w.heap.size+1) (by omega)).trans k4
      clear c2 c3 c5 c6
      obtain⟨-,-,-,c3⟩:=box_cells (v:=v) k5
      obtain⟨-,-,-,c6⟩:=box_cells (v:=v') k6
      by_cases e6:c.cursor=c'.cursor
      ·rw[decide_eq_true e6]
       by_cases e7:v.n=v'.n
       ·have f7:(v.n==v'.n)=true:=by simp[e7]
        have Hs:Hid (sameOp v c v' c'=true):=Lib.hid (by rw[Hk.out];simp[e4,e5,e6,e7])
        clear e7
        go_wp2_with fail
        go_ret
        exact⟨by rw[Hs.out];rfl,hb6⟩
       have f7:(v.n==v'.n)=false:=by simp[e7]
       have Hs:Hid (sameOp v c v' c'=false):=Lib.hid (by rw[Hk.out];simp[e7])
       clear e7
       go_wp2_with fail
       go_ret
       exact⟨by rw[Hs.out];rfl,hb6⟩
      rw[decide_eq_false e6]
      have Hs:Hid (sameOp v c v' c'=false):=Lib.hid (by rw[Hk.out];simp[e6])
      go_wp2_with fail
      go_ret
      exact⟨by rw[Hs.out];rfl,hb6⟩
     rw[decide_eq_false e5]
     have Hs:Hid (sameOp v c v' c'=false):=Lib.hid (by rw[Hk.out];simp[e5])
     go_wp2_with fail
     go_ret
     exact⟨by rw[Hs.out];rfl,hb4⟩
    rw[decide_eq_false e4]
    have Hs:Hid (sameOp v c v' c'=false):=Lib.hid (by rw[Hk.out];simp[e4])
    go_wp2_with fail
    go_ret
    exact⟨by rw[Hs.out];rfl,hb2⟩
   have f3:(v.to.toList==v'.to.toList)=false:=tol_no e3
   have Hs:=Lib.hid (same_no (v:=v) (v':=v') (c:=c) (c':=c') (fun h=>e3 h.2.2.1))
   unfold OV.val
   clear e1 e2 e3 key
   go_enter Tryz.func76,Tryz.ntmps76
   go_wp2_with fail
   go_ret
   exact⟨by rw[Hs.out];rfl,hb0⟩
  have f2:(v.name.toList==v'.name.toList)=false:=tol_no e2
  have Hs:=Lib.hid (same_no (v:=v) (v':=v') (c:=c) (c':=c') (fun h=>e2 h.2.1))
  unfold OV.val
  clear e1 e2 key
  go_enter Tryz.func76,Tryz.ntmps76
  go_wp2_with fail
  go_ret
  exact⟨by rw[Hs.out];rfl,hb0⟩
 have f1:(v.k==v'.k)=false:=by simp[e1]
 have Hs:=Lib.hid (same_no (v:=v) (v':=v') (c:=c) (c':=c') (fun h=>e1 h.1))
 unfold OV.val
 clear e1 key
 go_enter Tryz.func76,Tryz.ntmps76
 go_wp2_with fail
 go_ret
 exact⟨by rw[Hs.out];rfl,hb0⟩
end Go.Proofs.YtfmmandlmbcncaaGreatDoor.Msg
