/-
  A part of the proof.
-/
import Derived.Laws.CopyOwn
import Derived.Test.YtfmmandlmbcncaaGreatDoorKabg
import Derived.Test.YtfmmandlmbcncaaGreatDoorKabc
import Derived.Test.YtfmmandlmbcncaaGreatDoorKaab
import Derived.Test.YtfmmandlmbcncaaGreatDoorKaaq
import Derived.Test.YtfmmandlmbcncaaGreatDoorKabf
import Derived.Test.YtfmmandlmbcncaaGreatDoorKaav
set_option maxHeartbeats 40000000
namespace Go.Proofs.YtfmmandlmbcncaaGreatDoor.Msg
open Go.RowKit Go.Lib Go.Proofs.YtfmmandlmbcncaaGreatDoor.Mem Go.Proofs.YtfmmandlmbcncaaGreatDoor.Tlv
structure QV where
 code:Int
 yes:Bool
 eo:Option Addr
 en:Nat
 ec:Nat
 co:Option Addr
 cn:Nat
 cc:Nat
def QV.cells (v:QV):Array Value:=#[.int .i64 v.code,.bool v.yes,.slice v.eo v.en v.ec,.slice v.co v.cn v.cc]
def QV.val (v:QV):Value:=.agg v.cells
def QV.box (v:QV):Obj:=.cells v.cells 39
structure QC where
 ents:List EP
 cursor:List UInt8
structure QAt (W:World)(v:QV)(c:QC):Prop where
 e:EnAt W v.eo v.en v.ec c.ents
 c:Rd W 1 v.co v.cn v.cc (byV c.cursor)
 lc:v.cn≤1000000000
theorem QAt.later {W W':World}{v:QV}{c:QC}(h:QAt W v c)(hb:Below W.heap.size W W'):QAt W' v c:=⟨h.e.later hb,h.c.later hb,h.lc⟩
theorem qbox_all {W:World}{B:Nat}{v:QV}(h:W.heap[B]?=some v.box):W.cell? ⟨B,0,none⟩=some (.int .i64 v.code)∧W.cell? ⟨B,1,none⟩=some (.bool v.yes)∧W.cell? ⟨B,2,none⟩=some (.slice v.eo v.en v.ec)∧W.cell? ⟨B,3,none⟩=some (.slice v.co v.cn v.cc)∧∀i,W.frozen? ⟨B,i,none⟩=false:=by
 unfold QV.box QV.cells at h
 simp[World.cell?,World.frozen?,h]
def sameRes (v:QV)(c:QC)(v':QV)(c':QC):Bool:=decide (v.code=v'.code)&&(decide (v.yes=v'.yes)&&(sameEnts c.ents c'.ents&&decide (c.cursor=c'.cursor)))
theorem qtwo_step {w W W':World}{v v':QV}(h1:W.heap[w.heap.size]?=some v.box)(h2:W.heap[w.heap.size+1]?=some v'.box)(hb:Below W.heap.size W W'):W'.heap[w.heap.size]?=some v.box∧W'.heap[w.heap.size+1]?=some v'.box:=
 ⟨(hb.block _ (Array.getElem?_eq_some_iff.1 h1).1).trans h1,(hb.block _ (Array.getElem?_eq_some_iff.1 h2).1).trans h2⟩
set_option maxRecDepth 100000 in
theorem sameRes_any (v v':QV)(c c':QC)(w:World)(h:QAt w v c)(h':QAt w v' c'):Calls Tryz.prog 139 #[v.val,v'.val] w (GivesB (sameRes v c v' c') w):=by
 have hb0:Below w.heap.size w ((w.alloc v.box).alloc v'.box):=below_two w _ _
 obtain⟨k1,k2⟩:=two_boxes w v.box v'.box
 have hE:=eqfEnt_any v.eo v'.eo v.en v'.en v.ec v'.ec c.ents c'.ents _ (h.e.later hb0) (h'.e.later hb0)
 unfold QV.box QV.cells at hb0 k1 k2 hE
 unfold QV.val QV.cells
 by_cases e1:v.code=v'.code
 case neg=>
  have f1:(v.code==v'.code)=false:=by simp[e1]
  have Hs:Hid (sameRes v c v' c'=false):=hid (by unfold sameRes;rw[decide_eq_false e1];simp)
  clear e1 hE
  go_enter Tryz.func139,Tryz.ntmps139
  go_wp2_with fail
  go_ret
  exact⟨by rw[Hs.out];rfl,hb0⟩
 have f1:(v.code==v'.code)=true:=by simp[e1]
 by_cases e2:v.yes=v'.yes
 case neg=>
  have f2:(v.yes==v'.yes)=false:=by simp[e2]
  have Hs:Hid (sameRes v c v' c'=false):=hid (by unfold sameRes;rw[decide_eq_false e2];simp)
  clear e1 e2 hE
  go_enter Tryz.func139,Tryz.ntmps139
  go_wp2_with fail
  go_ret
  exact⟨by rw[Hs.out];rfl,hb0⟩
 have f2:(v.yes==v'.yes)=true:=by simp[e2]
 have Hs:Hid (sameRes v c v' c'=(sameEnts c.ents c'.ents&&decide (c.cursor=c'.cursor))):=hid (by unfold sameRes;rw[decide_eq_true e1,decide_eq_true e2];simp)
 clear e1 e2
 go_enter Tryz.func139,Tryz.ntmps139
 go_upto_region 1 with fail
 generalize hg:World.alloc _ _=W0 at *
 have q1:W0.heap[w.heap.size]?=some v.box:=k1
 have q2:W0.heap[w.heap.size+1]?=some v'.box:=k2
 clear hg k1 k2
 obtain⟨c0,c1,c2,c3,-⟩:=qbox_all q1
 obtain⟨d0,d1,d2,d3,-⟩:=qbox_all q2
 go_wp2_with fail
 refine hE.mono ?_
 rintro e W1 ⟨rfl,hb1⟩
 obtain⟨q1',q2'⟩:=qtwo_step q1 q2 hb1
 have hbel:=hb0.trans (hb1.mono hb0.size)
 clear c0 c1 c2 c3 d0 d1 d2 d3 hE q1 q2
 obtain⟨c0,c1,c2,c3,-⟩:=qbox_all q1'
 obtain⟨d0,d1,d2,d3,-⟩:=qbox_all q2'
 cases hm:sameEnts c.ents c'.ents with
 | false=>
  have HM:=hid hm
  clear hm
  go_wp2_with fail
  go_ret
  exact⟨by rw[Hs.out,HM.out];rfl,hbel⟩
 | true=>
  have HM:=hid hm
  clear hm
  go_wp2_with fail
  refine (equal_byt v.co v'.co v.cn v'.cn v.cc v'.cc c.cursor c'.cursor W1 (h.c.later hbel) (h'.c.later hbel) h.lc).mono ?_
  rintro e W2 ⟨rfl,hb2⟩
  go_wp2_with fail
  go_ret
  exact⟨by rw[Hs.out,HM.out,Bool.true_and];rfl,hbel.trans (hb2.mono hbel.size)⟩
def entsB (l:List EP):List UInt8:=l.flatMap fun p=>val 1 (entL p.1 p.2)
theorem entsB_cons (p:EP)(l:List EP):entsB (p::l)=val 1 (entL p.1 p.2)++entsB l:=rfl
theorem entsB_snoc (l:List EP)(p:EP):entsB (l++[p])=entsB l++val 1 (entL p.1 p.2):=by simp[entsB]
def resL (v:QV)(c:QC):List UInt8:=val 1 (num8 v.code.toNat)++(val 2 [if v.yes then 1 else 0]++(val 3 (entsB c.ents)++(val 4 c.cursor++[])))
def zeroQ:QV:=⟨0,false,none,0,0,none,0,0⟩
def bareQ (k:Int):QV:=⟨k,false,none,0,0,none,0,0⟩
def mayRes (v:QV)(c:QC):Bool:=
 if v.code=0 then !(decide (1000<v.en)||(c.ents.any fun u=>!mayEntry u.1 u.2)||decide (4000<v.cn))&&decide ((entsB c.ents).length≤4194304)
 else decide (0<v.code)&&decide (v.code≤14)&&sameRes v c (bareQ v.code) ⟨[],[]⟩
set_option maxRecDepth 100000 in
theorem resb1_any (B g rb:Nat)(st:WS)(v:QV)(l:List EP)(k:Nat)(p:EP)(W:World)(hw:WrS B g st W)(hl:st.l.length≤100000000)(hrb:W.heap[rb]?=some v.box)(he:EnAt W v.eo v.en v.ec l)(hp:l[k]?=some p)(hm:mayEntry p.1 p.2=true) :
  Calls Tryz.prog 177 #[.pointer (some ⟨g,0,none⟩),.int .i64 (k:Int),.pointer (some ⟨rb,0,none⟩)] W fun e w'=>(∃r,e=.returned r)∧WrS B g (st.put 1 (entL p.1 p.2)) w'∧Below B W w':=by
 have hkn:k<v.en:=by have:=he.len;have:=(List.getElem?_eq_some_iff.1 hp).1;omega
 obtain⟨b1,o1,hao,hl1,hc1⟩:=he.r.some (by have:=he.r.le;omega)
 obtain⟨v1,v2⟩:=enV_at l k p hp
 have x0:=hc1 (k*2) _ v1
 have x1:W.cell? ⟨b1,o1+k*2+1,none⟩=_:=hc1 (k*2+1) _ v2
 obtain⟨c0,c1,c2,c3,-⟩:=qbox_all hrb
 rw[hao] at c2
 have hE:=he.each p (List.mem_of_getElem? hp)
 have hc:=entBytes_any p.1 p.2 W hE
 have hB:=hw.le
 unfold EV.val EV.cells at hc
 have i0:(0:Int)≤(k:Int):=by omega
 have i1:(k:Int)<(v.en:Int):=by omega
 have HM:=hid hm
 clear hm hc1 v1 v2 he hp hkn hao
 go_enter Tryz.func177,Tryz.ntmps177
 go_wp2_with fail
 refine hc.mono ?_
 rintro e W1 ⟨lx,ax,cx,ex,rfl,hrx,hb1,hfr,hx1,-⟩
 obtain⟨rfl,rfl⟩:=hx1 HM.out
 have hln:=entL_len HM.out
 have hw1:=hw.later hb1
 clear hc x0 x1 c0 c1 c2 c3 hx1
 go_wp2_with fail
 refine (wput_any B g st 1 (entL p.1 p.2) ax _ cx W1 hw1 hl (by omega) hrx (fun h0 a ha u hu e=>?_)).mono ?_
 ·have h1:=hfr a ha
  obtain⟨u0,hu0⟩:=hw
  have hh:=hu0.at_
  have h2:=hu.at_
  rw[(hb1.block _ (Array.getElem?_eq_some_iff.1 hh).1).trans hh] at h2
  cases h2
  have:=own_lt hu0.own a.block e.symm
  omega
 rintro e W2 ⟨rfl,hw2,hb2,-⟩
 go_wp2_with fail
 refine bodyPost_end (results_none rfl _ _ _) rfl ?_
 exact⟨⟨_,rfl⟩,hw2,(hb1.mono hB).trans hb2⟩
end Go.Proofs.YtfmmandlmbcncaaGreatDoor.Msg
