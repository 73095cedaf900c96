/-
  A part of the proof.
-/
import Derived.Test.YtfmmandlmbcncaaGreatDoorKabl
set_option maxHeartbeats 40000000
namespace Go.Proofs.YtfmmandlmbcncaaGreatDoor.Msg
open Go.RowKit Go.Lib Go.Proofs.YtfmmandlmbcncaaGreatDoor.Mem Go.Proofs.YtfmmandlmbcncaaGreatDoor.Tlv
set_option maxRecDepth 100000 in
theorem pSame_any (m m':MV)(c c':MC)(w:World)(h:MAt w m c)(h':MAt w m' c'):Calls Tryz.prog 102 #[m.val,m'.val] w (GivesB (sameMsg m c m' c') w):=by
 have hb0:Below w.heap.size w ((w.alloc m.box).alloc m'.box):=below_two w _ _
 obtain⟨k1,k2⟩:=two_boxes w m.box m'.box
 unfold MV.box MV.cells at hb0 k1 k2
 unfold MV.val MV.cells
 go_enter Tryz.func102,Tryz.ntmps102
 go_upto_region 1 with fail
 generalize hg:World.alloc _ _=W0 at *
 have q1:W0.heap[w.heap.size]?=some m.box:=k1
 have q2:W0.heap[w.heap.size+1]?=some m'.box:=k2
 clear hg k1 k2
 have c0:=(McAt.of q1).c0
 have d0:=(McAt.of q2).c0
 have c1:=(McAt.of q1).c1
 have d1:=(McAt.of q2).c1
 have c2:=(McAt.of q1).c2
 have d2:=(McAt.of q2).c2
 have c3:=(McAt.of q1).c3
 have d3:=(McAt.of q2).c3
 have c4:=(McAt.of q1).c4
 have d4:=(McAt.of q2).c4
 have c5:=(McAt.of q1).c5
 have d5:=(McAt.of q2).c5
 have c6:=(McAt.of q1).c6
 have d6:=(McAt.of q2).c6
 have c7:=(McAt.of q1).c7
 have d7:=(McAt.of q2).c7
 have c8:=(McAt.of q1).c8
 have d8:=(McAt.of q2).c8
 have c9:=(McAt.of q1).c9
 have d9:=(McAt.of q2).c9
 have c10:=(McAt.of q1).c10
 have d10:=(McAt.of q2).c10
 have c11:=(McAt.of q1).c11
 have d11:=(McAt.of q2).c11
 have c12:=(McAt.of q1).c12
 have d12:=(McAt.of q2).c12
 have c13:=(McAt.of q1).c13
 have d13:=(McAt.of q2).c13
 have c14:=(McAt.of q1).c14
 have d14:=(McAt.of q2).c14
 by_cases e1:m.k=m'.k
 case neg=>
  have f1:(m.k==m'.k)=false:=by simp[e1]
  have Hs:Hid (sameMsg m c m' c'=false):=hid (by unfold sameMsg;rw[decide_eq_false e1];simp)
  clear e1
  go_wp2_with fail
  go_ret
  exact⟨by rw[Hs.out];rfl,hb0⟩
 have f1:(m.k==m'.k)=true:=by simp[e1]
 by_cases e2:m.vi=m'.vi
 case neg=>
  have f2:(m.vi==m'.vi)=false:=by simp[e2]
  have Hs:Hid (sameMsg m c m' c'=false):=hid (by unfold sameMsg;rw[decide_eq_false e2];simp)
  clear e1 e2
  go_wp2_with fail
  go_ret
  exact⟨by rw[Hs.out];rfl,hb0⟩
 have f2:(m.vi==m'.vi)=true:=by simp[e2]
 by_cases e3:m.no=m'.no
 case neg=>
  have f3:(m.no==m'.no)=false:=by simp[e3]
  have Hs:Hid (sameMsg m c m' c'=false):=hid (by unfold sameMsg;rw[decide_eq_false e3];simp)
  clear e1 e2 e3
  go_wp2_with fail
  go_ret
  exact⟨by rw[Hs.out];rfl,hb0⟩
 have f3:(m.no==m'.no)=true:=by simp[e3]
 by_cases e4:m.fr=m'.fr
 case neg=>
  have f4:(m.fr==m'.fr)=false:=by simp[e4]
  have Hs:Hid (sameMsg m c m' c'=false):=hid (by unfold sameMsg;rw[decide_eq_false e4];simp)
  clear e1 e2 e3 e4
  go_wp2_with fail
  go_ret
  exact⟨by rw[Hs.out];rfl,hb0⟩
 have f4:(m.fr==m'.fr)=true:=by simp[e4]
 by_cases e5:m.cl=m'.cl
 case neg=>
  have f5:(m.cl==m'.cl)=false:=by simp[e5]
  have Hs:Hid (sameMsg m c m' c'=false):=hid (by unfold sameMsg;rw[decide_eq_false e5];simp)
  clear e1 e2 e3 e4 e5
  go_wp2_with fail
  go_ret
  exact⟨by rw[Hs.out];rfl,hb0⟩
 have f5:(m.cl==m'.cl)=true:=by simp[e5]
 by_cases e6:m.nu=m'.nu
 case neg=>
  have f6:(m.nu==m'.nu)=false:=by simp[e6]
  have Hs:Hid (sameMsg m c m' c'=false):=hid (by unfold sameMsg;rw[decide_eq_false e6];simp)
  clear e1 e2 e3 e4 e5 e6
  go_wp2_with fail
  go_ret
  exact⟨by rw[Hs.out];rfl,hb0⟩
 have f6:(m.nu==m'.nu)=true:=by simp[e6]
 have E1:=hid e1
 have E2:=hid e2
 have E3:=hid e3
 have E4:=hid e4
 have E5:=hid e5
 have E6:=hid e6
 clear e1 e2 e3 e4 e5 e6
 have hc:=pSameReq_any m.rq m'.rq c.rq c'.rq W0 (h.later hb0).rq (h'.later hb0).rq
 unfold RV.val RV.cells at hc
 go_wp2_with fail
 refine hc.mono ?_
 rintro e W1 ⟨rfl,hb1⟩
 have hbel1:=hb0.trans (hb1.mono hb0.size)
 have p1:=mbox_step q1 hb1
 have p2:=mbox_step q2 hb1
 clear hc c0 d0 c1 d1 c2 d2 c3 d3 c4 d4 c5 d5 c6 d6 c7 d7 c8 d8 c9 d9 c10 d10 c11 d11 c12 d12 c13 d13 c14 d14
 have c15:=(McAt.of p1).c15
 have d15:=(McAt.of p2).c15
 have c16:=(McAt.of p1).c16
 have d16:=(McAt.of p2).c16
 have c17:=(McAt.of p1).c17
 have d17:=(McAt.of p2).c17
 have c18:=(McAt.of p1).c18
 have d18:=(McAt.of p2).c18
 cases hm1:sameReq m.rq c.rq m'.rq c'.rq with
 | false=>
  have Hs:Hid (sameMsg m c m' c'=false):=hid (by unfold sameMsg;rw[hm1];simp)
  clear hm1
  go_wp2_with fail
  go_ret
  exact⟨by rw[Hs.out];rfl,hbel1⟩
 | true=>
  have HM1:=hid hm1
  clear hm1
  have hc:=sameRes_any m.rs m'.rs c.rs c'.rs W1 (h.later hbel1).rs (h'.later hbel1).rs
  unfold QV.val QV.cells at hc
  go_wp2_with fail
  refine hc.mono ?_
  rintro e W2 ⟨rfl,hb2⟩
  have hbel2:=hbel1.trans (hb2.mono hbel1.size)
  have p3:=mbox_step p1 hb2
  have p4:=mbox_step p2 hb2
  clear hc c15 d15 c16 d16 c17 d17 c18 d18
  have c19:=(McAt.of p3).c19
  have d19:=(McAt.of p4).c19
  have c20:=(McAt.of p3).c20
  have d20:=(McAt.of p4).c20
  have c21:=(McAt.of p3).c21
  have d21:=(McAt.of p4).c21
  have c22:=(McAt.of p3).c22
  have d22:=(McAt.of p4).c22
  cases hm2:sameRes m.rs c.rs m'.rs c'.rs with
  | false=>
   have Hs:Hid (sameMsg m c m' c'=false):=hid (by unfold sameMsg;rw[hm2];simp)
   clear hm2
   go_wp2_with fail
   go_ret
   exact⟨by rw[Hs.out];rfl,hbel2⟩
  | true=>
   have HM2:=hid hm2
   clear hm2
   by_cases e7:m.at_=m'.at_
   case neg=>
    have f7:(m.at_==m'.at_)=false:=by simp[e7]
    have Hs:Hid (sameMsg m c m' c'=false):=hid (by unfold sameMsg;rw[decide_eq_false e7];simp)
    clear e7
    go_wp2_with fail
    go_ret
    exact⟨by rw[Hs.out];rfl,hbel2⟩
   have f7:(m.at_==m'.at_)=true:=by simp[e7]
   by_cases e8:m.cm=m'.cm
   case neg=>
    have f8:(m.cm==m'.cm)=false:=by simp[e8]
    have Hs:Hid (sameMsg m c m' c'=false):=hid (by unfold sameMsg;rw[decide_eq_false e8];simp)
    clear e7 e8
    go_wp2_with fail
    go_ret
    exact⟨by rw[Hs.out];rfl,hbel2⟩
   have f8:(m.cm==m'.cm)=true:=by simp[e8]
   by_cases e9:m.bs=m'.bs
   case neg=>
    have f9:(m.bs==m'.bs)=false:=by simp[e9]
    have Hs:Hid (sameMsg m c m' c'=false):=hid (by unfold sameMsg;rw[decide_eq_false e9];simp)
    clear e7 e8 e9
    go_wp2_with fail
    go_ret
    exact⟨by rw[Hs.out];rfl,hbel2⟩
   have f9:(m.bs==m'.bs)=true:=by simp[e9]
   have E7:=hid e7
   have E8:=hid e8
   have E9:=hid e9
   clear e7 e8 e9
   have hc:=equal_byt m.so m'.so m.sn m'.sn m.sc m'.sc c.snap c'.snap W2 (h.later hbel2).sn (h'.later hbel2).sn h.ls
   skip
   go_wp2_with fail
   refine hc.mono ?_
   rintro e W3 ⟨rfl,hb3⟩
   have hbel3:=hbel2.trans (hb3.mono hbel2.size)
   have p5:=mbox_step p3 hb3
   have p6:=mbox_step p4 hb3
   clear hc c19 d19 c20 d20 c21 d21 c22 d22
   have c23:=(McAt.of p5).c23
   have d23:=(McAt.of p6).c23
   cases hm3:decide (c.snap=c'.snap) with
   | false=>
    have Hs:Hid (sameMsg m c m' c'=false):=hid (by unfold sameMsg;rw[hm3];simp)
    clear hm3
    go_wp2_with fail
    go_ret
    exact⟨by rw[Hs.out];rfl,hbel3⟩
   | true=>
    have HM3:=hid hm3
    clear hm3
    have hc:=eqfReq_any m.lo m'.lo m.ln m'.ln m.lc m'.lc c.log c'.log W3 (h.later hbel3).lg (h'.later hbel3).lg
    skip
    go_wp2_with fail
    refine hc.mono ?_
    rintro e W4 ⟨rfl,hb4⟩
    have hbel4:=hbel3.trans (hb4.mono hbel3.size)
    have p7:=mbox_step p5 hb4
    have p8:=mbox_step p6 hb4
    clear hc c23 d23
    have c24:=(McAt.of p7).c24
    have d24:=(McAt.of p8).c24
    have c25:=(McAt.of p7).c25
    have d25:=(McAt.of p8).c25
    have c26:=(McAt.of p7).c26
    have d26:=(McAt.of p8).c26
    cases hm4:sameLog c.log c'.log with
    | false=>
     have Hs:Hid (sameMsg m c m' c'=false):=hid (by unfold sameMsg;rw[hm4];simp)
     clear hm4
     go_wp2_with fail
     go_ret
     exact⟨by rw[Hs.out];rfl,hbel4⟩
    | true=>
     have HM4:=hid hm4
     clear hm4
     by_cases e10:m.nc=m'.nc
     case neg=>
      have f10:(m.nc==m'.nc)=false:=by simp[e10]
      have Hs:Hid (sameMsg m c m' c'=false):=hid (by unfold sameMsg;rw[decide_eq_false e10];simp)
      clear e10
      go_wp2_with fail
      go_ret
      exact⟨by rw[Hs.out];rfl,hbel4⟩
     have f10:(m.nc==m'.nc)=true:=by simp[e10]
     by_cases e11:m.wh=m'.wh
     case neg=>
      have f11:(m.wh==m'.wh)=false:=by simp[e11]
      have Hs:Hid (sameMsg m c m' c'=false):=hid (by unfold sameMsg;rw[decide_eq_false e11];simp)
      clear e10 e11
      go_wp2_with fail
      go_ret
      exact⟨by rw[Hs.out];rfl,hbel4⟩
     have f11:(m.wh==m'.wh)=true:=by simp[e11]
     have E10:=hid e10
     have E11:=hid e11
     clear e10 e11
     have hc:=equal_u64 m.ho m'.ho m.hn m'.hn m.hc m'.hc c.seen c'.seen W4 (h.later hbel4).se (h'.later hbel4).se h.lh
     go_wp2_with fail
     refine hc.mono ?_
     rintro e W5 ⟨rfl,hb5⟩
     have Hs:Hid (sameMsg m c m' c'=decide (c.seen=c'.seen)):=hid (by unfold sameMsg;rw[decide_eq_true E1.out,decide_eq_true E2.out,decide_eq_true E3.out,decide_eq_true E4.out,decide_eq_true E5.out,decide_eq_true E6.out,decide_eq_true E7.out,decide_eq_true E8.out,decide_eq_true E9.out,decide_eq_true E10.out,decide_eq_true E11.out,HM1.out,HM2.out,HM3.out,HM4.out];simp only[Bool.true_and])
     go_wp2_with fail
     go_ret
     exact⟨by rw[Hs.out];rfl,hbel4.trans (hb5.mono hbel4.size)⟩
end Go.Proofs.YtfmmandlmbcncaaGreatDoor.Msg
