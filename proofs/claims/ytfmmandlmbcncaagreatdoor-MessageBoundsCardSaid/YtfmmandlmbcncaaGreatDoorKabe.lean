/-
  A part of the proof.
-/
import Derived.Test.YtfmmandlmbcncaaGreatDoorKabc
import Derived.Test.YtfmmandlmbcncaaGreatDoorKaao
import Derived.Test.YtfmmandlmbcncaaGreatDoorKaav
set_option maxHeartbeats 40000000
namespace Go.Proofs.YtfmmandlmbcncaaGreatDoor.Msg
open Go.RowKit Go.Lib Go.Proofs.YtfmmandlmbcncaaGreatDoor.Mem Go.Proofs.YtfmmandlmbcncaaGreatDoor.Tlv
structure EV where
 name:ByteArray
 ao:Option Addr
 an:Nat
 ac:Nat
def EV.cells (v:EV):Array Value:=#[.string v.name,.slice v.ao v.an v.ac]
def EV.val (v:EV):Value:=.agg v.cells
def EV.box (v:EV):Obj:=.cells v.cells 124
structure EAt (W:World)(v:EV)(x:List (ByteArray×ByteArray)):Prop where
 a:Rd W 2 v.ao v.an v.ac (atV x)
 la:v.an≤1000000000
theorem EAt.later {W W':World}{v:EV}{x:List (ByteArray×ByteArray)}(h:EAt W v x)(hb:Below W.heap.size W W'):EAt W' v x:=⟨h.a.later hb,h.la⟩
theorem ebox_all {W:World}{B:Nat}{v:EV}(h:W.heap[B]?=some v.box):W.cell? ⟨B,0,none⟩=some (.string v.name)∧W.cell? ⟨B,1,none⟩=some (.slice v.ao v.an v.ac)∧∀i,W.frozen? ⟨B,i,none⟩=false:=by
 unfold EV.box EV.cells at h
 simp[World.cell?,World.frozen?,h]
def sameEntry (v:EV)(x:List (ByteArray×ByteArray))(v':EV)(x':List (ByteArray×ByteArray)):Bool:=decide (v.name=v'.name)&&decide (x=x')
def mayEntry (v:EV)(x:List (ByteArray×ByteArray)):Bool:=mayName v.name&&mayAttrs x
set_option maxRecDepth 100000 in
theorem sameEntry_any (v v':EV)(x x':List (ByteArray×ByteArray))(w:World)(h:EAt w v x)(h':EAt w v' x'):Calls Tryz.prog 173 #[v.val,v'.val] w (GivesB (sameEntry v x v' x') w):=by
 have hb0:Below w.heap.size w ((w.alloc v.box).alloc v'.box):=below_two w _ _
 obtain⟨k1,k2⟩:=two_boxes w v.box v'.box
 have hsame:=equal_att v.ao v'.ao v.an v'.an v.ac v'.ac x x' _ (h.a.later hb0) (h'.a.later hb0) h.la
 unfold EV.box EV.cells at hb0 k1 k2 hsame
 unfold EV.val EV.cells
 by_cases e1:v.name=v'.name
 case neg=>
  have f1:(v.name.toList==v'.name.toList)=false:=tol_no e1
  have Hs:Hid (sameEntry v x v' x'=false):=hid (by unfold sameEntry;rw[decide_eq_false e1];simp)
  clear e1 hsame
  go_enter Tryz.func173,Tryz.ntmps173
  go_wp2_with fail
  go_ret
  exact⟨by rw[Hs.out];rfl,hb0⟩
 have f1:(v.name.toList==v'.name.toList)=true:=by simp[e1]
 have Hs:Hid (sameEntry v x v' x'=decide (x=x')):=hid (by unfold sameEntry;rw[decide_eq_true e1];simp)
 clear e1
 go_enter Tryz.func173,Tryz.ntmps173
 go_wp2_with fail
 refine hsame.mono ?_
 rintro e w1 ⟨rfl,hb1⟩
 rw[←Hs.out]
 go_wp2_with fail
 go_ret
 exact⟨rfl,hb0.trans (hb1.mono hb0.size)⟩
set_option maxRecDepth 100000 in
theorem mayEntry_any (v:EV)(x:List (ByteArray×ByteArray))(w:World)(h:EAt w v x):Calls Tryz.prog 145 #[v.val] w (GivesB (mayEntry v x) w):=by
 have hb0:Below w.heap.size w (w.alloc v.box):=(Below.refl _ _).alloc (Nat.le_refl _) _
 have k0:(w.alloc v.box).heap[w.heap.size]?=some v.box:=by show (w.heap.push _)[w.heap.size]?=some _;exact Array.getElem?_push_size
 unfold EV.box EV.cells at hb0 k0
 unfold EV.val EV.cells
 go_enter Tryz.func145,Tryz.ntmps145
 go_upto_region 1 with fail
 generalize hg:w.alloc _=W0 at *
 have k0f:W0.heap[w.heap.size]?=some v.box:=k0
 clear hg k0
 obtain⟨c0,c1,-⟩:=ebox_all k0f
 go_wp2_with fail
 refine (mayName_any v.name W0).mono ?_
 rintro e W1 ⟨rfl,hb1⟩
 have k1f:=(hb1.block _ (Array.getElem?_eq_some_iff.1 k0f).1).trans k0f
 have hb1':=hb0.trans (hb1.mono hb0.size)
 clear c0 c1
 obtain⟨c0,c1,-⟩:=ebox_all k1f
 cases hm:mayName v.name with
 | false=>
  have HM:=hid hm
  clear hm
  go_wp2_with fail
  go_ret
  exact⟨by unfold mayEntry;rw[HM.out];rfl,hb1'⟩
 | true=>
  have HM:=hid hm
  clear hm
  go_wp2_with fail
  refine (mayAttrs_any v.ao v.an v.ac x W1 (h.a.later hb1') h.la).mono ?_
  rintro e W2 ⟨rfl,hb2⟩
  go_wp2_with fail
  go_ret
  exact⟨by unfold mayEntry;rw[HM.out];rfl,hb1'.trans (hb2.mono hb1'.size)⟩
theorem mayResult1_any (v:EV)(x:List (ByteArray×ByteArray))(w:World)(h:EAt w v x):Calls Tryz.prog 144 #[v.val] w (GivesB (!mayEntry v x) w):=by
 have hb0:Below w.heap.size w (w.alloc v.box):=(Below.refl _ _).alloc (Nat.le_refl _) _
 have k0:(w.alloc v.box).heap[w.heap.size]?=some v.box:=by show (w.heap.push _)[w.heap.size]?=some _;exact Array.getElem?_push_size
 have hc:=mayEntry_any v x _ (h.later hb0)
 unfold EV.box EV.cells at hb0 k0 hc
 unfold EV.val EV.cells at hc
 unfold EV.val EV.cells
 go_enter Tryz.func144,Tryz.ntmps144
 go_wp2_with fail
 refine hc.mono ?_
 rintro e W1 ⟨rfl,hb1⟩
 go_wp2_with fail
 go_ret
 exact⟨rfl,hb0.trans (hb1.mono hb0.size)⟩
end Go.Proofs.YtfmmandlmbcncaaGreatDoor.Msg
