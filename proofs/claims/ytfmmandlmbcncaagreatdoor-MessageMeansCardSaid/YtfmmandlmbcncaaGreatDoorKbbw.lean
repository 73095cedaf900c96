/-
  A part of the proof.
-/
import Derived.Deep.Cut
import Derived.Test.YtfmmandlmbcncaaGreatDoorKbbk
import Derived.Test.YtfmmandlmbcncaaGreatDoorKbbh
import Derived.Test.YtfmmandlmbcncaaGreatDoorKbbs
import Derived.Test.YtfmmandlmbcncaaGreatDoorKbbt
import Derived.Test.YtfmmandlmbcncaaGreatDoorKbbv
import Derived.Test.YtfmmandlmbcncaaGreatDoorKbbm
import Derived.Test.YtfmmandlmbcncaaGreatDoorKbaq
import Derived.Test.YtfmmandlmbcncaaGreatDoorKbab
set_option maxHeartbeats 40000000
namespace Go.Proofs.YtfmmandlmbcncaaGreatDoor.Msg
open Go.RowKit Go.Lib Go.Proofs.YtfmmandlmbcncaaGreatDoor.Mem Go.Proofs.YtfmmandlmbcncaaGreatDoor.Tlv
structure MRd (W:World)(m:MV)(c:MC):Prop where
 rq:OpRd W m.rq.op c.rq
 rs:QRd W m.rs c.rs
 sn:Rd W 1 m.so m.sn m.sc (byV c.snap)
 lg:Rd W 9 m.lo m.ln m.lc (rpV c.log)
 ops:∀p∈c.log,OpRd W p.1.op p.2
 se:Rd W 1 m.ho m.hn m.hc (u64V c.seen)
theorem MRd.later {W W':World}{m:MV}{c:MC}(h:MRd W m c)(hb:Below W.heap.size W W'):MRd W' m c:=⟨h.rq.later hb,h.rs.later hb,h.sn.later hb,h.lg.later hb,fun p hp=>(h.ops p hp).later hb,h.se.later hb⟩
theorem OpRd.at_ {w W:World}{v:OV}{c:OC}(h:OpRd w v c)(h':OpAt W v c):OpAt w v c:=⟨h.a,h.b,h.c,h'.la,h'.lb,h'.lc⟩
theorem QRd.at_ {w W:World}{v:QV}{c:QC}(h:QRd w v c)(h':QAt W v c):QAt w v c:=⟨⟨h.e,fun p hp=>⟨h.a p hp,(h'.e.each p hp).la⟩⟩,h.c,h'.lc⟩
def GivesMuch (m:MV)(c:MC)(w:World)(e:Ending)(w':World):Prop:=∃b:Bool,e=.returned (.bool b)∧(b=false→MAt w m c∧m.ln≤6∧m.sn≤9000∧m.hn≤12∧m.rs.en≤8∧m.rs.cn≤9000)∧Below w.heap.size w w'
structure MbAt (w:World)(m:MV)(W:World):Prop where
 q:W.heap[w.heap.size]?=some m.box
 bel:Below w.heap.size w W
theorem MbAt.step {w W W':World}{m:MV}(h:MbAt w m W)(hb:Below W.heap.size W W'):MbAt w m W':=⟨mbox_step h.q hb,h.bel.trans (hb.mono h.bel.size)⟩
set_option maxRecDepth 100000 in
theorem muchM_any (m:MV)(c:MC)(w:World)(h:MRd w m c):Calls Tryz.prog 26 #[m.val] w (GivesMuch m c w):=by
 have lx:c.log.length=m.ln:=by have:=h.lg.1;rw[rpV_len] at this;omega
 have LX:=hid lx
 have hcap:m.ln≤9223372036854775807:=by have:=h.lg.2.1;have:=h.lg.2.2.1;unfold maxLen at this;omega
 have hb0:Below w.heap.size w (w.alloc m.box):=(Below.refl _ _).alloc (Nat.le_refl _) _
 have k0:(w.alloc m.box).heap[w.heap.size]?=some m.box:=by show (w.heap.push _)[w.heap.size]?=some _;exact Array.getElem?_push_size
 clear lx
 unfold MV.box MV.cells at hb0 k0
 unfold MV.val MV.cells
 go_enter Tryz.func26,Tryz.ntmps26
 go_upto_region 1 with fail
 generalize hg:w.alloc _=W0 at *
 have s0:MbAt w m W0:=⟨k0,hb0⟩
 clear hg k0 hb0
 go_wp2_with fail
 go_loopw [3] (fun p wr=>∃k:Nat,k≤m.ln∧k≤7∧p=.int .i64 (k:Int)∧MbAt w m wr∧Hid (∀p∈c.log.take k,OpAt w p.1.op p.2)) (fun p _=>m.ln-(intOf p).toNat)
 case atStart=>exact⟨0,Nat.zero_le _,Nat.zero_le _,rfl,s0,hid (fun p hp=>by simp at hp)⟩
 case round=>
  obtain⟨k,hk,hk9,rfl,s1,HA⟩:=hrel
  have c23:=(McAt.of s1.q).c23
  by_cases hkn:k<m.ln
  ·have f0:decide ((k:Int)<(m.ln:Int))=true:=decide_eq_true (by omega)
   by_cases hk8:k≤6
   ·have f1:decide ((k:Int)≤6)=true:=decide_eq_true (by omega)
    have hE:=h.lg.later s1.bel
    obtain⟨b1,o1,hao,hl1,hc1⟩:=hE.some (by have:=hE.le;omega)
    obtain⟨p,hp⟩:∃p,c.log[k]?=some p:=⟨_,List.getElem?_eq_getElem (by rw[LX.out];exact hkn)⟩
    rw[hao] at hE c23
    have hrg:=rp_range hE hp
    have hop:∀(j:Nat) (v:Value),p.1.op.cells[j]?=some v→wr.cell? ⟨b1,o1+k*9+2+j,none⟩=some v:=fun j v hv=>by
     have hj:j<7:=by
      have:=(Array.getElem?_eq_some_iff.1 hv).1
      simpa [OV.cells] using this
     have:=hrg (2+j) v (by rcases (by omega:j=0∨j=1∨j=2∨j=3∨j=4∨j=5∨j=6) with rfl|rfl|rfl|rfl|rfl|rfl|rfl<;>exact hv)
     rw[show o1+k*9+(2+j)=o1+k*9+2+j by omega] at this
     exact this
    have hpr:=h.ops p (List.mem_of_getElem? hp)
    have hme:=big_any p.1.op p.2 wr (hpr.later s1.bel)
    unfold OV.val at hme
    unfold OV.cells at hop
    have HP:=hid hp
    have HR:=hid hpr
    have i0:(0:Int)≤(k:Int):=by omega
    have i1:(k:Int)<(m.ln:Int):=by omega
    clear hc1 hp hE hao hrg hpr
    go_wp2_with (refine wpList_load_at (ty:=36) hop rfl rfl rfl (by kernel_rfl) (by kernel_rfl) ?_;go_simp)
    refine hme.mono ?_
    rintro e W1 ⟨b,rfl,hb,hb1⟩
    have s2:=s1.step hb1
    have Hb:=hid hb
    clear hb c23 hop hme s1 hb1
    cases b with
    | true=>
     go_wp2_with fail
     go_ret
     exact⟨true,rfl,fun h=>(by cases h),s2.bel⟩
    | false=>
     have hp2:=HP.out
     have HA2:Hid (∀q∈c.log.take (k+1),OpAt w q.1.op q.2):=hid (fun q hq=>by
      rw[List.take_add_one,hp2] at hq
      rcases List.mem_append.1 hq with hq | hq
      ·exact HA.out q hq
      obtain rfl:q=p:=by simpa using hq
      exact HR.out.at_ (Hb.out rfl))
     clear hp2
     go_wp2_with fail
     go_roundw
     case rel=>exact⟨k+1,by omega,by omega,by go_num,s2,HA2⟩
     case measure=>simp[intOf];omega
   have f1:decide ((k:Int)≤6)=false:=decide_eq_false (by omega)
   have f3:decide ((6:Int)<(m.ln:Int))=true:=decide_eq_true (by omega)
   go_wp2_with fail
   go_ret
   exact⟨true,rfl,fun h=>(by cases h),s1.bel⟩
  have f0:decide ((k:Int)<(m.ln:Int))=false:=decide_eq_false (by omega)
  by_cases h8:6<m.ln
  ·have f3:decide ((6:Int)<(m.ln:Int))=true:=decide_eq_true (by omega)
   go_wp2_with fail
   go_ret
   exact⟨true,rfl,fun h=>(by cases h),s1.bel⟩
  have f3:decide ((6:Int)<(m.ln:Int))=false:=decide_eq_false (by omega)
  have hfull:c.log.take k=c.log:=List.take_of_length_le (by rw[LX.out];omega)
  have HB:Hid (∀p∈c.log,OpAt w p.1.op p.2):=hid (by rw[←hfull];exact HA.out)
  have H8:=hid h8
  have hop:=(McAt.of s1.q).op
  have hbg:=big_any m.rq.op c.rq wr (h.rq.later s1.bel)
  unfold OV.val at hbg
  unfold OV.cells at hop
  clear hfull HA
  go_wp2_with (refine wpList_load_at (ty:=36) hop rfl rfl rfl (by kernel_rfl) (by kernel_rfl) ?_;go_simp)
  refine hbg.mono ?_
  rintro e W1 ⟨b,rfl,hb,hb1⟩
  have s2:=s1.step hb1
  have Hb:=hid hb
  clear hb c23 hop hbg s1 hb1
  cases b with
  | true=>
   go_wp2_with fail
   go_ret
   exact⟨true,rfl,fun h=>(by cases h),s2.bel⟩
  | false=>
   have hr:=(McAt.of s2.q).r
   have hwd:=wide_any m.rs c.rs W1 (h.rs.later s2.bel)
   unfold QV.val QV.cells at hwd
   unfold QV.cells at hr
   go_wp2_with (refine wpList_load_at (ty:=39) hr rfl rfl rfl (by kernel_rfl) (by kernel_rfl) ?_;go_simp)
   refine hwd.mono ?_
   rintro e W2 ⟨b,rfl,hb2,hb3⟩
   have s3:=s2.step hb3
   have Hw:=hid hb2
   clear hb2 hr hwd s2 hb3
   cases b with
   | true=>
    go_wp2_with fail
    go_ret
    exact⟨true,rfl,fun h=>(by cases h),s3.bel⟩
   | false=>
    have c22:=(McAt.of s3.q).c22
    have c26:=(McAt.of s3.q).c26
    by_cases h9:9000<m.sn
    ·have f4:decide ((9000:Int)<(m.sn:Int))=true:=decide_eq_true (by omega)
     go_wp2_with fail
     go_ret
     exact⟨true,rfl,fun h=>(by cases h),s3.bel⟩
    have f4:decide ((9000:Int)<(m.sn:Int))=false:=decide_eq_false (by omega)
    by_cases h12:12<m.hn
    ·have f5:decide ((12:Int)<(m.hn:Int))=true:=decide_eq_true (by omega)
     clear h9
     go_wp2_with fail
     go_ret
     exact⟨true,rfl,fun h=>(by cases h),s3.bel⟩
    have f5:decide ((12:Int)<(m.hn:Int))=false:=decide_eq_false (by omega)
    have H9:=hid h9
    have H12:=hid h12
    clear h9 h12
    go_wp2_with fail
    go_ret
    refine⟨false,rfl,fun _=>⟨⟨h.rq.at_ (Hb.out trivial),h.rs.at_ (Hw.out trivial).1,h.sn,⟨h.lg,HB.out⟩,h.se,by have:=H9.out;omega,by have:=H12.out;omega⟩,by have:=H8.out;omega,by have:=H9.out;omega,by have:=H12.out;omega,(Hw.out trivial).2.1,(Hw.out trivial).2.2⟩,s3.bel⟩
structure MnE (w:World)(W:World):Prop where
 bel:Below w.heap.size w W
structure MnAt (w:World)(m o q:MV)(c d cq:MC)(xb:Nat)(ax:Option Addr)(cx:Nat)(lx:List UInt8)(ay:Option Addr)(cy:Nat)(ly:List UInt8)(W:World):Prop where
 bel:Below w.heap.size w W
 b0:W.heap[w.heap.size]?=some m.box
 b1:W.heap[w.heap.size+1]?=some o.box
 bq:W.heap[xb]?=some q.box
 o0:MAt W m c
 o1:MAt W o d
 oq:MAt W q cq
 rx:Rd W 1 ax lx.length cx (byV lx)
 ry:Rd W 1 ay ly.length cy (byV ly)
theorem MnAt.step {w W W':World}{m o q:MV}{c d cq:MC}{xb:Nat}{ax:Option Addr}{cx:Nat}{lx:List UInt8}{ay:Option Addr}{cy:Nat}{ly:List UInt8}(h:MnAt w m o q c d cq xb ax cx lx ay cy ly W)(hb:Below W.heap.size W W'):MnAt w m o q c d cq xb ax cx lx ay cy ly W':=
 ⟨h.bel.trans (hb.mono h.bel.size),mbox_step h.b0 hb,mbox_step h.b1 hb,mbox_step h.bq hb,h.o0.later hb,h.o1.later hb,h.oq.later hb,h.rx.later hb,h.ry.later hb⟩
theorem MnAt.rest {w W:World}{m o q:MV}{c d cq:MC}{xb:Nat}{ax:Option Addr}{cx:Nat}{lx:List UInt8}{ay:Option Addr}{cy:Nat}{ly:List UInt8}(h:MnAt w m o q c d cq xb ax cx lx ay cy ly W):MnE w W:=⟨h.bel⟩
set_option maxRecDepth 100000 in
theorem messageMeans_any (m o:MV)(c d:MC)(lb:List UInt8)(bo:Option Addr)(bn bc:Nat)(w:World)(hE:ErrG w)(hm:MRd w m c)(ho:MRd w o d)(u0:U64M m c)(u1:U64M o d)(hlb:Rd w 1 bo bn bc (byV lb)):Calls Tryz.prog 4 #[m.val,o.val,.slice bo bn bc] w (GivesB true w):=by
 have hmo:Tryz.prog.follows .mixedOrders=true:=by kernel_rfl
 have hb0:Below w.heap.size w ((w.alloc m.box).alloc o.box):=below_two w _ _
 obtain⟨k1,k2⟩:=two_boxes w m.box o.box
 unfold MV.box MV.cells at hb0 k1 k2
 unfold MV.val MV.cells
 go_enter Tryz.func4,Tryz.ntmps4
 go_upto_region 1 with fail
 generalize hg:World.alloc _ _=W0 at *
 have q1:W0.heap[w.heap.size]?=some m.box:=k1
 have q2:W0.heap[w.heap.size+1]?=some o.box:=k2
 clear hg k1 k2
 go_wp2_with fail
 refine (known_any W0).mono ?_
 rintro e Wk ⟨rfl,hbk⟩
 have hb0':=hb0.trans (hbk.mono hb0.size)
 have q1k:=mbox_step q1 hbk
 have q2k:=mbox_step q2 hbk
 clear hb0 q1 q2 hbk
 have hbig0:=muchM_any m c Wk (hm.later hb0')
 unfold MV.val MV.cells at hbig0
 go_wp2_with (refine wpList_load_row (ty:=59) q1k rfl rfl rfl (by kernel_rfl) (by kernel_rfl) ?_;go_simp)
 refine hbig0.mono ?_
 rintro e W1 ⟨b1,rfl,hB1,hb1⟩
 have hb1':=hb0'.trans (hb1.mono hb0'.size)
 have HB1:=hid hB1
 clear hbig0 hB1
 cases b1 with
 | true=>
  go_wp2_with fail
  go_ret
  exact⟨rfl,hb1'⟩
 | false=>
  have q2':=mbox_step q2k hb1
  have q1':=mbox_step q1k hb1
  have hbig1:=muchM_any o d W1 (ho.later hb1')
  unfold MV.val MV.cells at hbig1
  go_wp2_with (refine wpList_load_row (ty:=59) q2' rfl rfl rfl (by kernel_rfl) (by kernel_rfl) ?_;go_simp)
  refine hbig1.mono ?_
  rintro e W2 ⟨b2,rfl,hB2,hb2⟩
  have hb2':=hb1'.trans (hb2.mono hb1'.size)
  have HB2:=hid hB2
  clear hbig1 hB2
  cases b2 with
  | true=>
   go_wp2_with fail
   go_ret
   exact⟨rfl,hb2'⟩
  | false=>
   by_cases hbig:30000<bn
   ·have f0:decide ((30000:Int)<(bn:Int))=true:=decide_eq_true (by omega)
    clear hbig
    go_wp2_with fail
    go_ret
    exact⟨rfl,hb2'⟩
   have f0:decide ((30000:Int)<(bn:Int))=false:=decide_eq_false (by omega)
   have w0:=HB1.out (by first | rfl | trivial)
   have w1:=HB2.out (by first | rfl | trivial)
   have o0:=(w0.1.later hb1).later hb2
   have o1:=w1.1.later hb2
   obtain⟨-,l1,l2,l3,l4,-⟩:=w0
   obtain⟨-,l1',l2',l3',l4',-⟩:=w1
   have HF:=hid (fitsM_of o0 l1 l4)
   have HF':=hid (fitsM_of o1 l1' l4')
   have p1:=mbox_step q1' hb2
   have p2:=mbox_step q2' hb2
   have HBN:=hid hbig
   clear HB1 HB2 hb1 hb2 hb1' q1k q2k q1' q2' hb0' hm ho l1 l2 l3 l4 l1' l2' l3' l4' hbig
   have hOB:=msgBytes_any m c W2 o0 u0 HF.out
   unfold MV.val MV.cells at hOB
   go_wp2_with (refine wpList_load_row (ty:=59) p1 rfl rfl rfl (by kernel_rfl) (by kernel_rfl) ?_;go_simp)
   refine hOB.mono ?_
   rintro e W3 ⟨lx,ax,cx,ex,rfl,hrx,hb3,-,hx1,hx2⟩
   have hb3':=hb2'.trans (hb3.mono hb2'.size)
   have o0':=o0.later hb3
   have o1':=o1.later hb3
   have p1':=mbox_step p1 hb3
   have p2':=mbox_step p2 hb3
   have Hx:=hid (And.intro hx1 hx2)
   clear hOB o0 o1 p1 p2 hx1 hx2 hb3 hb2'
   have hOC:=msgBytes_any o d W3 o1' u1 HF'.out
   unfold MV.val MV.cells at hOC
   go_wp2_with (refine wpList_load_row (ty:=59) p2' rfl rfl rfl (by kernel_rfl) (by kernel_rfl) ?_;go_simp)
   refine hOC.mono ?_
   rintro e W4 ⟨ly,ay,cy,ey,rfl,hry,hb4,-,hy1,hy2⟩
   have hb4':=hb3'.trans (hb4.mono hb3'.size)
   have o0'':=o0'.later hb4
   have o1'':=o1'.later hb4
   have p1'':=mbox_step p1' hb4
   have p2'':=mbox_step p2' hb4
   have hrx':=hrx.later hb4
   have Hy:=hid (And.intro hy1 hy2)
   clear hOC o0' o1' p1' p2' hrx hy1 hy2 hb4 hb3'
   obtain⟨mm,hmm⟩:∃mm,mayMsg m c=mm:=⟨_,rfl⟩
   have fex:(ex==0)=mm:=by
    cases hm2:mayMsg m c with
    | true=>rw[←hmm,hm2,(Hx.out.1 hm2).2];rfl
    | false=>rw[←hmm,hm2,(Hx.out.2 hm2).2];rfl
   have HMM:=hid hmm
   have hEw:=hE.below (hb4'.mono (by omega))
   clear hmm
   go_wp2_with fail
   refine (num_any ex W4).mono ?_
   rintro e _ ⟨rfl,rfl⟩
   go_upto_if 42 with fail
   go_cut [] from 43 to 72 (fun wk=>MnE w wk)
   case first=>
    cases mm with
    | false=>
     go_wp2_with fail
     go_meet
     case rel=>exact⟨hb4'⟩
    | true=>
     obtain⟨elx,-⟩:=Hx.out.1 HMM.out
     have hlen:lx.length≤8388608:=by
      have h1:=HMM.out
      unfold mayMsg at h1
      rw[Bool.and_eq_true] at h1
      rw[elx]
      exact of_decide_eq_true h1.2
     have hOf:=ofM_any lx ax lx.length cx W4 hrx' hlen hEw
     have HEL:=hid elx
     clear elx hlen fex
     go_wp2_with fail
     refine hOf.mono ?_
     rintro e W6 ⟨hb6,⟨q,cq,rfl,oq,uq,-,fq,mq,eq⟩ | ⟨-,hno⟩⟩
     rotate_left
     ·exact absurd (by rw[←HEL.out];exact hno) (not_none o0'' u0 HF.out HMM.out)
     have HQM:Hid (sameMsg q cq m c=true):=hid (same_msgL oq o0'' uq u0 fq HF.out mq HMM.out (eq.trans HEL.out))
     have hb6':=hb4'.trans (hb6.mono hb4'.size)
     have o0x:=o0''.later hb6
     have o1x:=o1''.later hb6
     have p1x:=mbox_step p1'' hb6
     have p2x:=mbox_step p2'' hb6
     have hrxx:=hrx'.later hb6
     have hryx:=hry.later hb6
     clear hOf o0'' o1'' p1'' p2'' hrx' hry hb6 hb4' uq fq mq eq hEw
     unfold MV.val MV.cells
     go_upto_region 9 with (refine wpList_store_new rfl rfl rfl rfl (by kernel_rfl) rfl (by kernel_rfl) ?_;go_simp)
     generalize hg:W6.alloc _=W7
     have e7:W6.alloc q.box=W7:=hg
     have hb7:Below W6.heap.size W6 W7:=by rw[←e7];exact (Below.refl _ _).alloc (Nat.le_refl _) _
     have k7:W7.heap[W6.heap.size]?=some q.box:=by rw[←e7];exact at_new _ _
     have hS:MnAt w m o q c d cq W6.heap.size ax cx lx ay cy ly W7:=⟨hb6'.trans (hb7.mono hb6'.size),mbox_step p1x hb7,mbox_step p2x hb7,k7,o0x.later hb7,o1x.later hb7,oq.later hb7,hrxx.later hb7,hryx.later hb7⟩
     have s0:MnAt w m o q c d cq W6.heap.size ax cx lx ay cy ly W7.drew:=hS.step (Below.refl _ _).drew
     clear hg e7 hb7 k7 hS o0x o1x oq p1x p2x hrxx hryx hb6'
     generalize W6.heap.size=xb at *
     cases hmo2:mayMsg o d with
     | true=>
      obtain⟨ely,eey⟩:=Hy.out.1 hmo2
      have fey:(ey==0)=true:=by rw[eey];rfl
      obtain⟨qq,hqq⟩:∃qq,sameMsg m c o d=qq:=⟨_,rfl⟩
      have HEQ:Hid ((lx==ly)=qq):=hid (by rw[HEL.out,ely,←hqq];exact bytes_same s0.o0 s0.o1 u0 u1 HF.out HF'.out HMM.out hmo2)
      have HQQ:=hid hqq
      clear hmo2 ely eey hqq
      refine wp_region_held (S:=MnAt w m o q c d cq xb ax cx lx ay cy ly) hmo ?_
      change wpAnyH _ _ _ _ _ _ _ _ (World.drew W7)
      generalize World.drew W7=X0 at *
      refine zHp 0 (.int .i64 0) rfl s0 ?_
      go_simp
      refine zH1 1 rfl (fun K hK=>?_)
      go_simp
      refine (num_any 0 X0).mono ?_
      rintro e X1 ⟨rfl,hw0⟩
      have s1:MnAt w m o q c d cq xb ax cx lx ay cy ly X1:=by rw[←hw0];exact s0
      clear hw0
      go_simp
      refine hK _ _ ⟨s1,?_⟩
      clear hK K
      refine zHa 2 (.bool false) rfl (by rintro w2 h;go_simp) s1 ?_
      go_simp
      refine zHp 3 (.bool false) rfl s1 ?_
      go_simp
      refine zHa 4 (.agg #[.int .i64 q.k,.int .u64 q.vi,.int .u64 q.no,.int .i64 q.fr,.int .u64 q.cl,.int .u64 q.nu,.int .u64 q.rq.cl,.int .u64 q.rq.nu,.int .i64 q.rq.op.k,.string q.rq.op.name,.string q.rq.op.to,.slice q.rq.op.ao q.rq.op.an q.rq.op.ac,.slice q.rq.op.bo q.rq.op.bn q.rq.op.bc,.slice q.rq.op.co q.rq.op.cn q.rq.op.cc,.int .i64 q.rq.op.n,.int .i64 q.rs.code,.bool q.rs.yes,.slice q.rs.eo q.rs.en q.rs.ec,.slice q.rs.co q.rs.cn q.rs.cc,.int .u64 q.at_,.int .u64 q.cm,.int .u64 q.bs,.slice q.so q.sn q.sc,.slice q.lo q.ln q.lc,.int .u64 q.nc,.bool q.wh,.slice q.ho q.hn q.hc]) rfl (by rintro w2 h;exact exec_load_row (cs:=q.cells) h.bq rfl rfl (by kernel_rfl) (by kernel_rfl)) s1 ?_
      go_simp
      refine zHa 5 (.agg #[.int .i64 m.k,.int .u64 m.vi,.int .u64 m.no,.int .i64 m.fr,.int .u64 m.cl,.int .u64 m.nu,.int .u64 m.rq.cl,.int .u64 m.rq.nu,.int .i64 m.rq.op.k,.string m.rq.op.name,.string m.rq.op.to,.slice m.rq.op.ao m.rq.op.an m.rq.op.ac,.slice m.rq.op.bo m.rq.op.bn m.rq.op.bc,.slice m.rq.op.co m.rq.op.cn m.rq.op.cc,.int .i64 m.rq.op.n,.int .i64 m.rs.code,.bool m.rs.yes,.slice m.rs.eo m.rs.en m.rs.ec,.slice m.rs.co m.rs.cn m.rs.cc,.int .u64 m.at_,.int .u64 m.cm,.int .u64 m.bs,.slice m.so m.sn m.sc,.slice m.lo m.ln m.lc,.int .u64 m.nc,.bool m.wh,.slice m.ho m.hn m.hc]) rfl (by rintro w2 h;exact exec_load_row (cs:=m.cells) h.b0 rfl rfl (by kernel_rfl) (by kernel_rfl)) s1 ?_
      go_simp
      refine zH1 6 rfl (fun K hK=>?_)
      go_simp
      have hc:=rSameMsg_any q m cq c X1 s1.oq s1.o0
      unfold MV.val MV.cells at hc
      rw[HQM.out] at hc
      refine hc.mono ?_
      rintro e X2 ⟨rfl,hb1⟩
      have s2:=s1.step hb1
      clear hc
      go_simp
      refine hK _ _ ⟨s2,?_⟩
      clear hK K
      refine zHa 7 (.bool false) rfl (by rintro w2 h;go_simp) s2 ?_
      go_simp
      refine zHp 8 (.bool false) rfl s2 ?_
      go_simp
      refine zHp 9 (.bool false) rfl s2 ?_
      go_simp
      refine zHp 10 (.int .i64 ey) rfl s2 ?_
      go_simp
      refine zH1 11 rfl (fun K hK=>?_)
      go_simp
      refine (num_any ey X2).mono ?_
      rintro e X3 ⟨rfl,hw2⟩
      have s3:MnAt w m o q c d cq xb ax cx lx ay cy ly X3:=by rw[←hw2];exact s2
      clear hw2
      go_simp
      refine hK _ _ ⟨s3,?_⟩
      clear hK K
      refine zHa 12 (.bool true) rfl (by rintro w2 h;go_simp) s3 ?_
      go_simp
      refine zHp 13 (.bool true) rfl s3 ?_
      go_simp
      refine zHp 14 (.slice ax lx.length cx) rfl s3 ?_
      go_simp
      refine zHa 15 (.string ⟨lx.toArray⟩) rfl (by rintro w2 h;have hs:=run_strD ax _ cx _ w2 h.rx;go_simp) s3 ?_
      go_simp
      refine zHp 16 (.slice ay ly.length cy) rfl s3 ?_
      go_simp
      refine zHa 17 (.string ⟨ly.toArray⟩) rfl (by rintro w2 h;have hs:=run_strD ay _ cy _ w2 h.ry;go_simp) s3 ?_
      go_simp
      refine zHa 18 (.bool qq) rfl (by rintro w2 h;have hq2:=HEQ.out;go_simp) s3 ?_
      go_simp
      refine zHa 19 (.agg #[.int .i64 m.k,.int .u64 m.vi,.int .u64 m.no,.int .i64 m.fr,.int .u64 m.cl,.int .u64 m.nu,.int .u64 m.rq.cl,.int .u64 m.rq.nu,.int .i64 m.rq.op.k,.string m.rq.op.name,.string m.rq.op.to,.slice m.rq.op.ao m.rq.op.an m.rq.op.ac,.slice m.rq.op.bo m.rq.op.bn m.rq.op.bc,.slice m.rq.op.co m.rq.op.cn m.rq.op.cc,.int .i64 m.rq.op.n,.int .i64 m.rs.code,.bool m.rs.yes,.slice m.rs.eo m.rs.en m.rs.ec,.slice m.rs.co m.rs.cn m.rs.cc,.int .u64 m.at_,.int .u64 m.cm,.int .u64 m.bs,.slice m.so m.sn m.sc,.slice m.lo m.ln m.lc,.int .u64 m.nc,.bool m.wh,.slice m.ho m.hn m.hc]) rfl (by rintro w2 h;exact exec_load_row (cs:=m.cells) h.b0 rfl rfl (by kernel_rfl) (by kernel_rfl)) s3 ?_
      go_simp
      refine zHa 20 (.agg #[.int .i64 o.k,.int .u64 o.vi,.int .u64 o.no,.int .i64 o.fr,.int .u64 o.cl,.int .u64 o.nu,.int .u64 o.rq.cl,.int .u64 o.rq.nu,.int .i64 o.rq.op.k,.string o.rq.op.name,.string o.rq.op.to,.slice o.rq.op.ao o.rq.op.an o.rq.op.ac,.slice o.rq.op.bo o.rq.op.bn o.rq.op.bc,.slice o.rq.op.co o.rq.op.cn o.rq.op.cc,.int .i64 o.rq.op.n,.int .i64 o.rs.code,.bool o.rs.yes,.slice o.rs.eo o.rs.en o.rs.ec,.slice o.rs.co o.rs.cn o.rs.cc,.int .u64 o.at_,.int .u64 o.cm,.int .u64 o.bs,.slice o.so o.sn o.sc,.slice o.lo o.ln o.lc,.int .u64 o.nc,.bool o.wh,.slice o.ho o.hn o.hc]) rfl (by rintro w2 h;exact exec_load_row (cs:=o.cells) h.b1 rfl rfl (by kernel_rfl) (by kernel_rfl)) s3 ?_
      go_simp
      refine zH1 21 rfl (fun K hK=>?_)
      go_simp
      have hc:=rSameMsg_any m o c d X3 s3.o0 s3.o1
      unfold MV.val MV.cells at hc
      rw[HQQ.out] at hc
      refine hc.mono ?_
      rintro e X4 ⟨rfl,hb3⟩
      have s4:=s3.step hb3
      clear hc
      go_simp
      refine hK _ _ ⟨s4,?_⟩
      clear hK K
      refine zHa 22 (.bool false) rfl (by rintro w2 h;cases qq<;>go_simp) s4 ?_
      go_simp
      refine zHp 23 (.bool false) rfl s4 ?_
      go_simp
      refine zHp 24 (.bool false) rfl s4 ?_
      go_simp
      refine wpAnyH_done (by kernel_rfl) ?_ _
      go_wp2_with fail
      go_meet
      case rel=>exact s4.rest
     | false=>
      obtain⟨-,eey⟩:=Hy.out.2 hmo2
      have fey:(ey==0)=false:=by rw[eey];rfl
      clear hmo2 eey
      refine wp_region_held (S:=MnAt w m o q c d cq xb ax cx lx ay cy ly) hmo ?_
      change wpAnyH _ _ _ _ _ _ _ _ (World.drew W7)
      generalize World.drew W7=X0 at *
      refine zHp 0 (.int .i64 0) rfl s0 ?_
      go_simp
      refine zH1 1 rfl (fun K hK=>?_)
      go_simp
      refine (num_any 0 X0).mono ?_
      rintro e X1 ⟨rfl,hw0⟩
      have s1:MnAt w m o q c d cq xb ax cx lx ay cy ly X1:=by rw[←hw0];exact s0
      clear hw0
      go_simp
      refine hK _ _ ⟨s1,?_⟩
      clear hK K
      refine zHa 2 (.bool false) rfl (by rintro w2 h;go_simp) s1 ?_
      go_simp
      refine zHp 3 (.bool false) rfl s1 ?_
      go_simp
      refine zHa 4 (.agg #[.int .i64 q.k,.int .u64 q.vi,.int .u64 q.no,.int .i64 q.fr,.int .u64 q.cl,.int .u64 q.nu,.int .u64 q.rq.cl,.int .u64 q.rq.nu,.int .i64 q.rq.op.k,.string q.rq.op.name,.string q.rq.op.to,.slice q.rq.op.ao q.rq.op.an q.rq.op.ac,.slice q.rq.op.bo q.rq.op.bn q.rq.op.bc,.slice q.rq.op.co q.rq.op.cn q.rq.op.cc,.int .i64 q.rq.op.n,.int .i64 q.rs.code,.bool q.rs.yes,.slice q.rs.eo q.rs.en q.rs.ec,.slice q.rs.co q.rs.cn q.rs.cc,.int .u64 q.at_,.int .u64 q.cm,.int .u64 q.bs,.slice q.so q.sn q.sc,.slice q.lo q.ln q.lc,.int .u64 q.nc,.bool q.wh,.slice q.ho q.hn q.hc]) rfl (by rintro w2 h;exact exec_load_row (cs:=q.cells) h.bq rfl rfl (by kernel_rfl) (by kernel_rfl)) s1 ?_
      go_simp
      refine zHa 5 (.agg #[.int .i64 m.k,.int .u64 m.vi,.int .u64 m.no,.int .i64 m.fr,.int .u64 m.cl,.int .u64 m.nu,.int .u64 m.rq.cl,.int .u64 m.rq.nu,.int .i64 m.rq.op.k,.string m.rq.op.name,.string m.rq.op.to,.slice m.rq.op.ao m.rq.op.an m.rq.op.ac,.slice m.rq.op.bo m.rq.op.bn m.rq.op.bc,.slice m.rq.op.co m.rq.op.cn m.rq.op.cc,.int .i64 m.rq.op.n,.int .i64 m.rs.code,.bool m.rs.yes,.slice m.rs.eo m.rs.en m.rs.ec,.slice m.rs.co m.rs.cn m.rs.cc,.int .u64 m.at_,.int .u64 m.cm,.int .u64 m.bs,.slice m.so m.sn m.sc,.slice m.lo m.ln m.lc,.int .u64 m.nc,.bool m.wh,.slice m.ho m.hn m.hc]) rfl (by rintro w2 h;exact exec_load_row (cs:=m.cells) h.b0 rfl rfl (by kernel_rfl) (by kernel_rfl)) s1 ?_
      go_simp
      refine zH1 6 rfl (fun K hK=>?_)
      go_simp
      have hc:=rSameMsg_any q m cq c X1 s1.oq s1.o0
      unfold MV.val MV.cells at hc
      rw[HQM.out] at hc
      refine hc.mono ?_
      rintro e X2 ⟨rfl,hb1⟩
      have s2:=s1.step hb1
      clear hc
      go_simp
      refine hK _ _ ⟨s2,?_⟩
      clear hK K
      refine zHa 7 (.bool false) rfl (by rintro w2 h;go_simp) s2 ?_
      go_simp
      refine zHp 8 (.bool false) rfl s2 ?_
      go_simp
      refine zHp 9 (.bool false) rfl s2 ?_
      go_simp
      refine zHp 10 (.int .i64 ey) rfl s2 ?_
      go_simp
      refine zH1 11 rfl (fun K hK=>?_)
      go_simp
      refine (num_any ey X2).mono ?_
      rintro e X3 ⟨rfl,hw2⟩
      have s3:MnAt w m o q c d cq xb ax cx lx ay cy ly X3:=by rw[←hw2];exact s2
      clear hw2
      go_simp
      refine hK _ _ ⟨s3,?_⟩
      clear hK K
      refine zHa 12 (.bool false) rfl (by rintro w2 h;go_simp) s3 ?_
      go_simp
      refine zHp 13 (.bool false) rfl s3 ?_
      go_simp
      refine zHo 14 rfl s3 ?_
      go_simp
      refine zHo 15 rfl s3 ?_
      go_simp
      refine zHo 16 rfl s3 ?_
      go_simp
      refine zHo 17 rfl s3 ?_
      go_simp
      refine zHo 18 rfl s3 ?_
      go_simp
      refine zHo 19 rfl s3 ?_
      go_simp
      refine zHo 20 rfl s3 ?_
      go_simp
      refine zHo 21 rfl s3 ?_
      go_simp
      refine zHo 22 rfl s3 ?_
      go_simp
      refine zHp 23 (.bool false) rfl s3 ?_
      go_simp
      refine zHp 24 (.bool false) rfl s3 ?_
      go_simp
      refine wpAnyH_done (by kernel_rfl) ?_ _
      go_wp2_with fail
      go_meet
      case rel=>exact s3.rest
   case rest=>
    have hbw:=hcut.bel
    have hlb1:=hlb.later (hbw.mono (by omega))
    have hE1:=hE.below (hbw.mono (by omega))
    clear hcut hb4' o0'' o1'' p1'' p2'' hrx' hry hEw fex
    have hOf:=ofM_any lb bo bn bc wc hlb1 (by have:=HBN.out;omega) hE1
    go_wp2_with fail
    refine hOf.mono ?_
    rintro e V1 ⟨hv1,⟨q,cq,rfl,oq,uq,-,fq,mq,eq⟩ | ⟨rfl,-⟩⟩
    ·have hbv:=hbw.trans (hv1.mono hbw.size)
     have hlb2:=hlb1.later hv1
     clear hOf hv1 hE1 hlb1 hbw
     unfold MV.val MV.cells
     go_upto_region 12 with (refine wpList_store_new rfl rfl rfl rfl (by kernel_rfl) rfl (by kernel_rfl) ?_;go_simp)
     generalize hg:V1.alloc _=V2
     have e2:V1.alloc q.box=V2:=hg
     have hv2:Below V1.heap.size V1 V2:=by rw[←e2];exact (Below.refl _ _).alloc (Nat.le_refl _) _
     have kq:V2.heap[V1.heap.size]?=some q.box:=by rw[←e2];exact at_new _ _
     have hbv2:=hbv.trans (hv2.mono hbv.size)
     have hlb3:=hlb2.later hv2
     have oq2:=oq.later hv2
     clear hg e2 hv2 hbv hlb2 oq
     go_wp2_with fail
     refine (num_any 0 V2).mono ?_
     rintro e _ ⟨rfl,rfl⟩
     have hB:=msgBytes_any q cq V2 oq2 uq fq
     unfold MV.val MV.cells at hB
     go_wp2_with (refine wpList_load_row (ty:=59) kq rfl rfl rfl (by kernel_rfl) (by kernel_rfl) ?_;go_simp)
     refine hB.mono ?_
     rintro e V4 ⟨lz,az,cz,ez,rfl,hrz,hv4,-,hz1,-⟩
     obtain⟨elz,rfl⟩:=hz1 mq
     have elb:lz=lb:=elz.trans eq
     subst elb
     have hbv4:=hbv2.trans (hv4.mono hbv2.size)
     have hlb4:=hlb3.later hv4
     have oq4:=oq2.later hv4
     have kq4:=mbox_step kq hv4
     clear hB hz1 elz hv4 hbv2 hlb3 oq2 kq
     go_wp2_with fail
     refine (num_any 0 V4).mono ?_
     rintro e _ ⟨rfl,rfl⟩
     have hs1:=run_strD az _ cz _ V4 hrz
     have hs2:=run_strD bo _ bc _ V4 hlb4
     have hM:=mayMsg_any q cq V4 oq4 uq fq
     rw[mq] at hM
     unfold MV.val MV.cells at hM
     go_wp2_with (refine wpList_load_row (ty:=59) kq4 rfl rfl rfl (by kernel_rfl) (by kernel_rfl) ?_;go_simp)
     refine hM.mono ?_
     rintro e V6 ⟨rfl,hv6⟩
     have hbv6:=hbv4.trans (hv6.mono hbv4.size)
     clear hs1 hs2 hM hv6
     go_wp2_with fail
     go_ret
     exact⟨rfl,hbv6⟩
    have hbv:=hbw.trans (hv1.mono hbw.size)
    clear hOf hv1 hE1 hlb1 hbw
    unfold MV.val MV.cells
    go_upto_region 12 with (refine wpList_store_new rfl rfl rfl rfl (by kernel_rfl) rfl (by kernel_rfl) ?_;go_simp)
    generalize hg:V1.alloc _=V2
    have hv2:Below V1.heap.size V1 V2:=by rw[←hg];exact (Below.refl _ _).alloc (Nat.le_refl _) _
    have hbv2:=hbv.trans (hv2.mono hbv.size)
    clear hg hv2 hbv
    go_wp2_with fail
    refine (num_any 4 V2).mono ?_
    rintro e V3 ⟨rfl,rfl⟩
    go_wp2_with fail
    go_ret
    exact⟨rfl,hbv2⟩
end Go.Proofs.YtfmmandlmbcncaaGreatDoor.Msg
