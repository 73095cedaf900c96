/-
  A part of the proof.
-/
import Derived.Test.YtfmmandlmbcncaaGreatDoorKbbh
import Derived.Test.YtfmmandlmbcncaaGreatDoorKbbf
import Derived.Test.YtfmmandlmbcncaaGreatDoorKbaz
set_option maxHeartbeats 40000000
namespace Go.Proofs.YtfmmandlmbcncaaGreatDoor.Msg
open Go.RowKit Go.Lib Go.Proofs.YtfmmandlmbcncaaGreatDoor.Mem Go.Proofs.YtfmmandlmbcncaaGreatDoor.Tlv
structure SmAt (w:World)(m m':MV)(b1 o1 b2 o2 k:Nat)(p q:RV)(W:World):Prop where
 bel:Below w.heap.size w W
 q1:W.heap[w.heap.size]?=some m.box
 q2:W.heap[w.heap.size+1]?=some m'.box
 x:∀(j:Nat) (v:Value),p.cells[j]?=some v→W.cell? ⟨b1,o1+k*9+j,none⟩=some v
 y:∀(j:Nat) (v:Value),q.cells[j]?=some v→W.cell? ⟨b2,o2+k*9+j,none⟩=some v
theorem SmAt.step {w W W':World}{m m':MV}{b1 o1 b2 o2 k:Nat}{p q:RV}(h:SmAt w m m' b1 o1 b2 o2 k p q W)(hb:Below W.heap.size W W'):SmAt w m m' b1 o1 b2 o2 k p q W':=
 ⟨h.bel.trans (hb.mono h.bel.size),mbox_step h.q1 hb,mbox_step h.q2 hb,range_later h.x hb,range_later h.y hb⟩
structure SnAt (w:World)(m m':MV)(b1 o1 b2 o2 k:Nat)(p q:Nat)(W:World):Prop where
 bel:Below w.heap.size w W
 q1:W.heap[w.heap.size]?=some m.box
 q2:W.heap[w.heap.size+1]?=some m'.box
 x:W.cell? ⟨b1,o1+k,none⟩=some (.int .u64 (p:Int))
 y:W.cell? ⟨b2,o2+k,none⟩=some (.int .u64 (q:Int))
theorem SnAt.step {w W W':World}{m m':MV}{b1 o1 b2 o2 k p q:Nat}(h:SnAt w m m' b1 o1 b2 o2 k p q W)(hb:Below W.heap.size W W'):SnAt w m m' b1 o1 b2 o2 k p q W':=
 ⟨h.bel.trans (hb.mono h.bel.size),mbox_step h.q1 hb,mbox_step h.q2 hb,cell_after hb h.x,cell_after hb h.y⟩
set_option maxRecDepth 100000 in
theorem rSame_a (m m':MV)(w:World)(hne:¬(m.k=m'.k∧m.vi=m'.vi∧m.no=m'.no∧m.fr=m'.fr∧m.cl=m'.cl∧m.nu=m'.nu)):Calls Tryz.prog 30 #[m.val,m'.val] w (GivesB false w):=by
 have hb0:Below w.heap.size w ((w.alloc m.box).alloc m'.box):=below_two w _ _
 obtain⟨k1,k2⟩:=two_boxes w m.box m'.box
 unfold MV.box MV.cells at hb0 k1 k2
 unfold MV.val MV.cells
 go_enter Tryz.func30,Tryz.ntmps30
 go_upto_region 1 with fail
 generalize hg:World.alloc _ _=W0 at *
 have q1:W0.heap[w.heap.size]?=some m.box:=k1
 have q2:W0.heap[w.heap.size+1]?=some m'.box:=k2
 clear hg k1 k2
 have c0:=(McAt.of q1).c0
 have d0:=(McAt.of q2).c0
 have c1:=(McAt.of q1).c1
 have d1:=(McAt.of q2).c1
 have c2:=(McAt.of q1).c2
 have d2:=(McAt.of q2).c2
 have c3:=(McAt.of q1).c3
 have d3:=(McAt.of q2).c3
 have c4:=(McAt.of q1).c4
 have d4:=(McAt.of q2).c4
 have c5:=(McAt.of q1).c5
 have d5:=(McAt.of q2).c5
 have c6:=(McAt.of q1).c6
 have d6:=(McAt.of q2).c6
 have c7:=(McAt.of q1).c7
 have d7:=(McAt.of q2).c7
 have c8:=(McAt.of q1).c8
 have d8:=(McAt.of q2).c8
 have c9:=(McAt.of q1).c9
 have d9:=(McAt.of q2).c9
 have c10:=(McAt.of q1).c10
 have d10:=(McAt.of q2).c10
 have c11:=(McAt.of q1).c11
 have d11:=(McAt.of q2).c11
 have c12:=(McAt.of q1).c12
 have d12:=(McAt.of q2).c12
 have c13:=(McAt.of q1).c13
 have d13:=(McAt.of q2).c13
 have c14:=(McAt.of q1).c14
 have d14:=(McAt.of q2).c14
 by_cases e1:m.k=m'.k
 case neg=>
  have f1:(m.k==m'.k)=false:=by simp[e1]
  have g1:(m.k != m'.k)=true:=by rw[bne,f1];rfl
  clear hne e1
  go_wp2_with fail
  go_ret
  exact⟨rfl,hb0⟩
 have f1:(m.k==m'.k)=true:=by simp[e1]
 have g1:(m.k != m'.k)=false:=by rw[bne,f1];rfl
 by_cases e2:m.vi=m'.vi
 case neg=>
  have f2:(m.vi==m'.vi)=false:=by simp[e2]
  have g2:(m.vi != m'.vi)=true:=by rw[bne,f2];rfl
  clear hne e1 e2
  go_wp2_with fail
  go_ret
  exact⟨rfl,hb0⟩
 have f2:(m.vi==m'.vi)=true:=by simp[e2]
 have g2:(m.vi != m'.vi)=false:=by rw[bne,f2];rfl
 by_cases e3:m.no=m'.no
 case neg=>
  have f3:(m.no==m'.no)=false:=by simp[e3]
  have g3:(m.no != m'.no)=true:=by rw[bne,f3];rfl
  clear hne e1 e2 e3
  go_wp2_with fail
  go_ret
  exact⟨rfl,hb0⟩
 have f3:(m.no==m'.no)=true:=by simp[e3]
 have g3:(m.no != m'.no)=false:=by rw[bne,f3];rfl
 by_cases e4:m.fr=m'.fr
 case neg=>
  have f4:(m.fr==m'.fr)=false:=by simp[e4]
  have g4:(m.fr != m'.fr)=true:=by rw[bne,f4];rfl
  clear hne e1 e2 e3 e4
  go_wp2_with fail
  go_ret
  exact⟨rfl,hb0⟩
 have f4:(m.fr==m'.fr)=true:=by simp[e4]
 have g4:(m.fr != m'.fr)=false:=by rw[bne,f4];rfl
 by_cases e5:m.cl=m'.cl
 case neg=>
  have f5:(m.cl==m'.cl)=false:=by simp[e5]
  have g5:(m.cl != m'.cl)=true:=by rw[bne,f5];rfl
  clear hne e1 e2 e3 e4 e5
  go_wp2_with fail
  go_ret
  exact⟨rfl,hb0⟩
 have f5:(m.cl==m'.cl)=true:=by simp[e5]
 have g5:(m.cl != m'.cl)=false:=by rw[bne,f5];rfl
 by_cases e6:m.nu=m'.nu
 case neg=>
  have f6:(m.nu==m'.nu)=false:=by simp[e6]
  have g6:(m.nu != m'.nu)=true:=by rw[bne,f6];rfl
  clear hne e1 e2 e3 e4 e5 e6
  go_wp2_with fail
  go_ret
  exact⟨rfl,hb0⟩
 have f6:(m.nu==m'.nu)=true:=by simp[e6]
 have g6:(m.nu != m'.nu)=false:=by rw[bne,f6];rfl
 exact absurd ⟨e1,e2,e3,e4,e5,e6⟩ hne
set_option maxRecDepth 100000 in
theorem rSame_b (m m':MV)(c c':MC)(w:World)(h:MAt w m c)(h':MAt w m' c')(e1:m.k=m'.k)(e2:m.vi=m'.vi)(e3:m.no=m'.no)(e4:m.fr=m'.fr)(e5:m.cl=m'.cl)(e6:m.nu=m'.nu)(hne:¬(sameReq m.rq c.rq m'.rq c'.rq=true∧sameRes m.rs c.rs m'.rs c'.rs=true∧m.at_=m'.at_∧m.cm=m'.cm∧m.bs=m'.bs∧c.snap=c'.snap∧m.ln=m'.ln∧m.nc=m'.nc∧m.wh=m'.wh∧m.hn=m'.hn)):Calls Tryz.prog 30 #[m.val,m'.val] w (GivesB false w):=by
 have Q1:=hid e1
 have Q2:=hid e2
 have Q3:=hid e3
 have Q4:=hid e4
 have Q5:=hid e5
 have Q6:=hid e6
 clear e1 e2 e3 e4 e5 e6
 have hb0:Below w.heap.size w ((w.alloc m.box).alloc m'.box):=below_two w _ _
 obtain⟨k1,k2⟩:=two_boxes w m.box m'.box
 unfold MV.box MV.cells at hb0 k1 k2
 unfold MV.val MV.cells
 go_enter Tryz.func30,Tryz.ntmps30
 go_upto_region 1 with fail
 generalize hg:World.alloc _ _=W0 at *
 have q1:W0.heap[w.heap.size]?=some m.box:=k1
 have q2:W0.heap[w.heap.size+1]?=some m'.box:=k2
 clear hg k1 k2
 have c0:=(McAt.of q1).c0
 have d0:=(McAt.of q2).c0
 have c1:=(McAt.of q1).c1
 have d1:=(McAt.of q2).c1
 have c2:=(McAt.of q1).c2
 have d2:=(McAt.of q2).c2
 have c3:=(McAt.of q1).c3
 have d3:=(McAt.of q2).c3
 have c4:=(McAt.of q1).c4
 have d4:=(McAt.of q2).c4
 have c5:=(McAt.of q1).c5
 have d5:=(McAt.of q2).c5
 have c6:=(McAt.of q1).c6
 have d6:=(McAt.of q2).c6
 have c7:=(McAt.of q1).c7
 have d7:=(McAt.of q2).c7
 have c8:=(McAt.of q1).c8
 have d8:=(McAt.of q2).c8
 have c9:=(McAt.of q1).c9
 have d9:=(McAt.of q2).c9
 have c10:=(McAt.of q1).c10
 have d10:=(McAt.of q2).c10
 have c11:=(McAt.of q1).c11
 have d11:=(McAt.of q2).c11
 have c12:=(McAt.of q1).c12
 have d12:=(McAt.of q2).c12
 have c13:=(McAt.of q1).c13
 have d13:=(McAt.of q2).c13
 have c14:=(McAt.of q1).c14
 have d14:=(McAt.of q2).c14
 have f1:(m.k==m'.k)=true:=by simp[Q1.out]
 have g1:(m.k != m'.k)=false:=by rw[bne,f1];rfl
 have f2:(m.vi==m'.vi)=true:=by simp[Q2.out]
 have g2:(m.vi != m'.vi)=false:=by rw[bne,f2];rfl
 have f3:(m.no==m'.no)=true:=by simp[Q3.out]
 have g3:(m.no != m'.no)=false:=by rw[bne,f3];rfl
 have f4:(m.fr==m'.fr)=true:=by simp[Q4.out]
 have g4:(m.fr != m'.fr)=false:=by rw[bne,f4];rfl
 have f5:(m.cl==m'.cl)=true:=by simp[Q5.out]
 have g5:(m.cl != m'.cl)=false:=by rw[bne,f5];rfl
 have f6:(m.nu==m'.nu)=true:=by simp[Q6.out]
 have g6:(m.nu != m'.nu)=false:=by rw[bne,f6];rfl
 have hc:=rSameReq_any m.rq m'.rq c.rq c'.rq W0 (h.later hb0).rq (h'.later hb0).rq
 unfold RV.val RV.cells at hc
 go_wp2_with fail
 refine hc.mono ?_
 rintro e W1 ⟨rfl,hb1⟩
 have hbel1:=hb0.trans (hb1.mono hb0.size)
 have p1:=mbox_step q1 hb1
 have p2:=mbox_step q2 hb1
 clear hc c0 d0 c1 d1 c2 d2 c3 d3 c4 d4 c5 d5 c6 d6 c7 d7 c8 d8 c9 d9 c10 d10 c11 d11 c12 d12 c13 d13 c14 d14
 have c15:=(McAt.of p1).c15
 have d15:=(McAt.of p2).c15
 have c16:=(McAt.of p1).c16
 have d16:=(McAt.of p2).c16
 have c17:=(McAt.of p1).c17
 have d17:=(McAt.of p2).c17
 have c18:=(McAt.of p1).c18
 have d18:=(McAt.of p2).c18
 cases hm1:sameReq m.rq c.rq m'.rq c'.rq with
 | false=>
  clear hm1 hne
  go_wp2_with fail
  go_ret
  exact⟨rfl,hbel1⟩
 | true=>
  have hc:=rSameRes_any m.rs m'.rs c.rs c'.rs W1 (h.later hbel1).rs (h'.later hbel1).rs
  unfold QV.val QV.cells at hc
  go_wp2_with fail
  refine hc.mono ?_
  rintro e W2 ⟨rfl,hb2⟩
  have hbel2:=hbel1.trans (hb2.mono hbel1.size)
  have p3:=mbox_step p1 hb2
  have p4:=mbox_step p2 hb2
  clear hc c15 d15 c16 d16 c17 d17 c18 d18
  have c19:=(McAt.of p3).c19
  have d19:=(McAt.of p4).c19
  have c20:=(McAt.of p3).c20
  have d20:=(McAt.of p4).c20
  have c21:=(McAt.of p3).c21
  have d21:=(McAt.of p4).c21
  have c22:=(McAt.of p3).c22
  have d22:=(McAt.of p4).c22
  have c23:=(McAt.of p3).c23
  have d23:=(McAt.of p4).c23
  have c24:=(McAt.of p3).c24
  have d24:=(McAt.of p4).c24
  have c25:=(McAt.of p3).c25
  have d25:=(McAt.of p4).c25
  have c26:=(McAt.of p3).c26
  have d26:=(McAt.of p4).c26
  cases hm2:sameRes m.rs c.rs m'.rs c'.rs with
  | false=>
   clear hm2 hne
   go_wp2_with fail
   go_ret
   exact⟨rfl,hbel2⟩
  | true=>
   have hs1:=run_strD m.so m.sn m.sc c.snap W2 (h.later hbel2).sn
   have hs2:=run_strD m'.so m'.sn m'.sc c'.snap W2 (h'.later hbel2).sn
   by_cases e7:m.at_=m'.at_
   case neg=>
    have f7:(m.at_==m'.at_)=false:=by simp[e7]
    have g7:(m.at_ != m'.at_)=true:=by rw[bne,f7];rfl
    clear hne hm1 hm2 e7
    go_wp2_with fail
    go_ret
    exact⟨rfl,hbel2⟩
   have f7:(m.at_==m'.at_)=true:=by simp[e7]
   have g7:(m.at_ != m'.at_)=false:=by rw[bne,f7];rfl
   by_cases e8:m.cm=m'.cm
   case neg=>
    have f8:(m.cm==m'.cm)=false:=by simp[e8]
    have g8:(m.cm != m'.cm)=true:=by rw[bne,f8];rfl
    clear hne hm1 hm2 e7 e8
    go_wp2_with fail
    go_ret
    exact⟨rfl,hbel2⟩
   have f8:(m.cm==m'.cm)=true:=by simp[e8]
   have g8:(m.cm != m'.cm)=false:=by rw[bne,f8];rfl
   by_cases e9:m.bs=m'.bs
   case neg=>
    have f9:(m.bs==m'.bs)=false:=by simp[e9]
    have g9:(m.bs != m'.bs)=true:=by rw[bne,f9];rfl
    clear hne hm1 hm2 e7 e8 e9
    go_wp2_with fail
    go_ret
    exact⟨rfl,hbel2⟩
   have f9:(m.bs==m'.bs)=true:=by simp[e9]
   have g9:(m.bs != m'.bs)=false:=by rw[bne,f9];rfl
   by_cases e10:c.snap=c'.snap
   case neg=>
    have f10:=str_no e10
    have g10:(c.snap==c'.snap)=false:=beq_eq_false_iff_ne.2 e10
    clear hne hm1 hm2 e7 e8 e9 e10
    go_wp2_with fail
    go_ret
    exact⟨rfl,hbel2⟩
   rw[e10] at hs1
   have f10:=tol_yes ⟨c'.snap.toArray⟩
   have g10:(c'.snap==c'.snap)=true:=by simp
   by_cases e11:m.ln=m'.ln
   case neg=>
    have f11:((m.ln:Int)==(m'.ln:Int))=false:=by rw[beq_eq_false_iff_ne];omega
    have g11:((m.ln:Int) != (m'.ln:Int))=true:=by rw[bne,f11];rfl
    clear hne hm1 hm2 e7 e8 e9 e10 e11
    go_wp2_with fail
    go_ret
    exact⟨rfl,hbel2⟩
   have f11:((m.ln:Int)==(m'.ln:Int))=true:=by rw[beq_iff_eq];omega
   have g11:((m.ln:Int) != (m'.ln:Int))=false:=by rw[bne,f11];rfl
   by_cases e12:m.nc=m'.nc
   case neg=>
    have f12:(m.nc==m'.nc)=false:=by simp[e12]
    have g12:(m.nc != m'.nc)=true:=by rw[bne,f12];rfl
    clear hne hm1 hm2 e7 e8 e9 e10 e11 e12
    go_wp2_with fail
    go_ret
    exact⟨rfl,hbel2⟩
   have f12:(m.nc==m'.nc)=true:=by simp[e12]
   have g12:(m.nc != m'.nc)=false:=by rw[bne,f12];rfl
   by_cases e13:m.wh=m'.wh
   case neg=>
    have f13:(m.wh==m'.wh)=false:=by simp[e13]
    have g13:(m.wh != m'.wh)=true:=by rw[bne,f13];rfl
    have x13:(m.wh ^^ m'.wh)=true:=by cases h1:m.wh<;>cases h2:m'.wh<;>simp_all
    clear hne hm1 hm2 e7 e8 e9 e10 e11 e12 e13
    go_wp2_with fail
    go_ret
    exact⟨rfl,hbel2⟩
   have f13:(m.wh==m'.wh)=true:=by simp[e13]
   have g13:(m.wh != m'.wh)=false:=by rw[bne,f13];rfl
   have x13:(m.wh ^^ m'.wh)=false:=by simp[e13]
   by_cases e14:m.hn=m'.hn
   case neg=>
    have f14:((m.hn:Int)==(m'.hn:Int))=false:=by rw[beq_eq_false_iff_ne];omega
    have g14:((m.hn:Int) != (m'.hn:Int))=true:=by rw[bne,f14];rfl
    clear hne hm1 hm2 e7 e8 e9 e10 e11 e12 e13 e14
    go_wp2_with fail
    go_ret
    exact⟨rfl,hbel2⟩
   have f14:((m.hn:Int)==(m'.hn:Int))=true:=by rw[beq_iff_eq];omega
   have g14:((m.hn:Int) != (m'.hn:Int))=false:=by rw[bne,f14];rfl
   exact absurd ⟨hm1,hm2,e7,e8,e9,e10,e11,e12,e13,e14⟩ hne
end Go.Proofs.YtfmmandlmbcncaaGreatDoor.Msg
