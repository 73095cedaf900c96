/-
  A part of the proof.
-/
import Derived.Test.YtgeafnggodkpaaaGreatKabl
import Derived.Test.YtgeafnggodkpaaaGreatKabh
set_option maxHeartbeats 40000000
namespace Go.Proofs.YtgeafnggodkpaaaGreat.Msg
open Go.RowKit Go.Lib Go.Proofs.YtgeafnggodkpaaaGreat.Mem Go.Proofs.YtgeafnggodkpaaaGreat.Tlv
structure MRd (W:World)(m:MV)(c:MC):Prop where
 rq:OpRd W m.rq.op c.rq
 rs:QRd W m.rs c.rs
 sn:Rd W 1 m.so m.sn m.sc (byV c.snap)
 lg:Rd W 9 m.lo m.ln m.lc (rpV c.log)
 ops:∀p∈c.log,OpRd W p.1.op p.2
 se:Rd W 1 m.ho m.hn m.hc (u64V c.seen)
theorem MRd.later {W W':World}{m:MV}{c:MC}(h:MRd W m c)(hb:Below W.heap.size W W'):MRd W' m c:=⟨h.rq.later hb,h.rs.later hb,h.sn.later hb,h.lg.later hb,fun p hp=>(h.ops p hp).later hb,h.se.later hb⟩
theorem OpRd.at_ {w W:World}{v:OV}{c:OC}(h:OpRd w v c)(h':OpAt W v c):OpAt w v c:=⟨h.a,h.b,h.c,h'.la,h'.lb,h'.lc⟩
theorem QRd.at_ {w W:World}{v:QV}{c:QC}(h:QRd w v c)(h':QAt W v c):QAt w v c:=⟨⟨h.e,fun p hp=>⟨h.a p hp,(h'.e.each p hp).la⟩⟩,h.c,h'.lc⟩
def GivesMuch (m:MV)(c:MC)(w:World)(e:Ending)(w':World):Prop:=∃b:Bool,e=.returned (.bool b)∧(b=false→MAt w m c∧m.ln≤6∧m.sn≤9000∧m.hn≤12∧m.rs.en≤8∧m.rs.cn≤9000)∧Below w.heap.size w w'
structure MbAt (w:World)(m:MV)(W:World):Prop where
 q:W.heap[w.heap.size]?=some m.box
 bel:Below w.heap.size w W
theorem MbAt.step {w W W':World}{m:MV}(h:MbAt w m W)(hb:Below W.heap.size W W'):MbAt w m W':=⟨mbox_step h.q hb,h.bel.trans (hb.mono h.bel.size)⟩
set_option maxRecDepth 100000 in
theorem muchM_any (m:MV)(c:MC)(w:World)(h:MRd w m c):Calls Tryz.prog 35 #[m.val] w (GivesMuch m c w):=by
 have lx:c.log.length=m.ln:=by have:=h.lg.1;rw[rpV_len] at this;omega
 have LX:=hid lx
 have hcap:m.ln≤9223372036854775807:=by have:=h.lg.2.1;have:=h.lg.2.2.1;unfold maxLen at this;omega
 have hb0:Below w.heap.size w (w.alloc m.box):=(Below.refl _ _).alloc (Nat.le_refl _) _
 have k0:(w.alloc m.box).heap[w.heap.size]?=some m.box:=by show (w.heap.push _)[w.heap.size]?=some _;exact Array.getElem?_push_size
 clear lx
 unfold MV.box MV.cells at hb0 k0
 unfold MV.val MV.cells
 go_enter Tryz.func35,Tryz.ntmps35
 go_upto_region 1 with fail
 generalize hg:w.alloc _=W0 at *
 have s0:MbAt w m W0:=⟨k0,hb0⟩
 clear hg k0 hb0
 go_wp2_with fail
 go_loopw [3] (fun p wr=>∃k:Nat,k≤m.ln∧k≤7∧p=.int .i64 (k:Int)∧MbAt w m wr∧Hid (∀p∈c.log.take k,OpAt w p.1.op p.2)) (fun p _=>m.ln-(intOf p).toNat)
 case atStart=>exact⟨0,Nat.zero_le _,Nat.zero_le _,rfl,s0,hid (fun p hp=>by simp at hp)⟩
 case round=>
  obtain⟨k,hk,hk9,rfl,s1,HA⟩:=hrel
  have c23:=(McAt.of s1.q).c23
  by_cases hkn:k<m.ln
  ·have f0:decide ((k:Int)<(m.ln:Int))=true:=decide_eq_true (by omega)
   by_cases hk8:k≤6
   ·have f1:decide ((k:Int)≤6)=true:=decide_eq_true (by omega)
    have hE:=h.lg.later s1.bel
    obtain⟨b1,o1,hao,hl1,hc1⟩:=hE.some (by have:=hE.le;omega)
    obtain⟨p,hp⟩:∃p,c.log[k]?=some p:=⟨_,List.getElem?_eq_getElem (by rw[LX.out];exact hkn)⟩
    rw[hao] at hE c23
    have hrg:=rp_range hE hp
    have hop:∀(j:Nat) (v:Value),p.1.op.cells[j]?=some v→wr.cell? ⟨b1,o1+k*9+2+j,none⟩=some v:=fun j v hv=>by
     have hj:j<7:=by
      have:=(Array.getElem?_eq_some_iff.1 hv).1
      simpa [OV.cells] using this
     have:=hrg (2+j) v (by rcases (by omega:j=0∨j=1∨j=2∨j=3∨j=4∨j=5∨j=6) with rfl|rfl|rfl|rfl|rfl|rfl|rfl<;>exact hv)
     rw[show o1+k*9+(2+j)=o1+k*9+2+j by omega] at this
     exact this
    have hpr:=h.ops p (List.mem_of_getElem? hp)
    have hme:=big_any p.1.op p.2 wr (hpr.later s1.bel)
    unfold OV.val at hme
    unfold OV.cells at hop
    have HP:=hid hp
    have HR:=hid hpr
    have i0:(0:Int)≤(k:Int):=by omega
    have i1:(k:Int)<(m.ln:Int):=by omega
    clear hc1 hp hE hao hrg hpr
    go_wp2_with (refine wpList_load_at (ty:=27) hop rfl rfl rfl (by kernel_rfl) (by kernel_rfl) ?_;go_simp)
    refine hme.mono ?_
    rintro e W1 ⟨b,rfl,hb,hb1⟩
    have s2:=s1.step hb1
    have Hb:=hid hb
    clear hb c23 hop hme s1 hb1
    cases b with
    | true=>
     go_wp2_with fail
     go_ret
     exact⟨true,rfl,fun h=>(by cases h),s2.bel⟩
    | false=>
     have hp2:=HP.out
     have HA2:Hid (∀q∈c.log.take (k+1),OpAt w q.1.op q.2):=hid (fun q hq=>by
      rw[List.take_add_one,hp2] at hq
      rcases List.mem_append.1 hq with hq | hq
      ·exact HA.out q hq
      obtain rfl:q=p:=by simpa using hq
      exact HR.out.at_ (Hb.out rfl))
     clear hp2
     go_wp2_with fail
     go_roundw
     case rel=>exact⟨k+1,by omega,by omega,by go_num,s2,HA2⟩
     case measure=>simp[intOf];omega
   have f1:decide ((k:Int)≤6)=false:=decide_eq_false (by omega)
   have f3:decide ((6:Int)<(m.ln:Int))=true:=decide_eq_true (by omega)
   go_wp2_with fail
   go_ret
   exact⟨true,rfl,fun h=>(by cases h),s1.bel⟩
  have f0:decide ((k:Int)<(m.ln:Int))=false:=decide_eq_false (by omega)
  by_cases h8:6<m.ln
  ·have f3:decide ((6:Int)<(m.ln:Int))=true:=decide_eq_true (by omega)
   go_wp2_with fail
   go_ret
   exact⟨true,rfl,fun h=>(by cases h),s1.bel⟩
  have f3:decide ((6:Int)<(m.ln:Int))=false:=decide_eq_false (by omega)
  have hfull:c.log.take k=c.log:=List.take_of_length_le (by rw[LX.out];omega)
  have HB:Hid (∀p∈c.log,OpAt w p.1.op p.2):=hid (by rw[←hfull];exact HA.out)
  have H8:=hid h8
  have hop:=(McAt.of s1.q).op
  have hbg:=big_any m.rq.op c.rq wr (h.rq.later s1.bel)
  unfold OV.val at hbg
  unfold OV.cells at hop
  clear hfull HA
  go_wp2_with (refine wpList_load_at (ty:=27) hop rfl rfl rfl (by kernel_rfl) (by kernel_rfl) ?_;go_simp)
  refine hbg.mono ?_
  rintro e W1 ⟨b,rfl,hb,hb1⟩
  have s2:=s1.step hb1
  have Hb:=hid hb
  clear hb c23 hop hbg s1 hb1
  cases b with
  | true=>
   go_wp2_with fail
   go_ret
   exact⟨true,rfl,fun h=>(by cases h),s2.bel⟩
  | false=>
   have hr:=(McAt.of s2.q).r
   have hwd:=wide_any m.rs c.rs W1 (h.rs.later s2.bel)
   unfold QV.val QV.cells at hwd
   unfold QV.cells at hr
   go_wp2_with (refine wpList_load_at (ty:=58) hr rfl rfl rfl (by kernel_rfl) (by kernel_rfl) ?_;go_simp)
   refine hwd.mono ?_
   rintro e W2 ⟨b,rfl,hb2,hb3⟩
   have s3:=s2.step hb3
   have Hw:=hid hb2
   clear hb2 hr hwd s2 hb3
   cases b with
   | true=>
    go_wp2_with fail
    go_ret
    exact⟨true,rfl,fun h=>(by cases h),s3.bel⟩
   | false=>
    have c22:=(McAt.of s3.q).c22
    have c26:=(McAt.of s3.q).c26
    by_cases h9:9000<m.sn
    ·have f4:decide ((9000:Int)<(m.sn:Int))=true:=decide_eq_true (by omega)
     go_wp2_with fail
     go_ret
     exact⟨true,rfl,fun h=>(by cases h),s3.bel⟩
    have f4:decide ((9000:Int)<(m.sn:Int))=false:=decide_eq_false (by omega)
    by_cases h12:12<m.hn
    ·have f5:decide ((12:Int)<(m.hn:Int))=true:=decide_eq_true (by omega)
     clear h9
     go_wp2_with fail
     go_ret
     exact⟨true,rfl,fun h=>(by cases h),s3.bel⟩
    have f5:decide ((12:Int)<(m.hn:Int))=false:=decide_eq_false (by omega)
    have H9:=hid h9
    have H12:=hid h12
    clear h9 h12
    go_wp2_with fail
    go_ret
    refine⟨false,rfl,fun _=>⟨⟨h.rq.at_ (Hb.out trivial),h.rs.at_ (Hw.out trivial).1,h.sn,⟨h.lg,HB.out⟩,h.se,by have:=H9.out;omega,by have:=H12.out;omega⟩,by have:=H8.out;omega,by have:=H9.out;omega,by have:=H12.out;omega,(Hw.out trivial).2.1,(Hw.out trivial).2.2⟩,s3.bel⟩
end Go.Proofs.YtgeafnggodkpaaaGreat.Msg
