/-
  A part of the proof.
-/
import Derived.Test.YtfmmandlmbcncaaGreatDoorKbbg
import Derived.Test.YtfmmandlmbcncaaGreatDoorKbbd
import Derived.Test.YtfmmandlmbcncaaGreatDoorKbay
import Derived.Test.YtfmmandlmbcncaaGreatDoorKban
import Derived.Test.YtfmmandlmbcncaaGreatDoorKbas
import Derived.Test.YtfmmandlmbcncaaGreatDoorKbba
import Derived.Test.YtfmmandlmbcncaaGreatDoorKbap
set_option maxHeartbeats 40000000
namespace Go.Proofs.YtfmmandlmbcncaaGreatDoor.Msg
open Go.RowKit Go.Lib Go.Proofs.YtfmmandlmbcncaaGreatDoor.Mem Go.Proofs.YtfmmandlmbcncaaGreatDoor.Tlv
theorem rd_belX {M size n cap:Nat}{ys:List Nat}{ao:Option Addr}{xs:List Value}{a b:World}(h:Rd a size ao n cap xs)(hb:BelX M ys a b)(hlt:0<cap→∀x,ao=some x→x.block<M∧x.block∉ys):Rd b size ao n cap xs:=by
 obtain⟨h1,h2,h3,h4,h5⟩:=h
 refine⟨h1,h2,h3,h4,fun h0 x hx=>?_⟩
 obtain⟨s1,l,c⟩:=h5 h0 x hx
 obtain⟨k1,k2⟩:=hlt h0 x hx
 exact⟨s1,Nat.lt_of_lt_of_le l hb.size,fun j u hu=>(World.cell?_of_block (a:=⟨x.block,x.off+j,none⟩) (hb.block _ k1 k2)).trans (c j u hu)⟩
open Go.ChangeShapes Go.WideShapes Go.Deep
structure QRd (W:World)(v:QV)(c:QC):Prop where
 e:Rd W 2 v.eo v.en v.ec (enV c.ents)
 a:∀p∈c.ents,Rd W 2 p.1.ao p.1.an p.1.ac (atV p.2)
 c:Rd W 1 v.co v.cn v.cc (byV c.cursor)
theorem QRd.later {W W':World}{v:QV}{c:QC}(h:QRd W v c)(hb:Below W.heap.size W W'):QRd W' v c:=⟨h.e.later hb,fun p hp=>(h.a p hp).later hb,h.c.later hb⟩
theorem entsB_le:∀(l:List EP),(∀p∈l,mayEntry p.1 p.2=true)→(entsB l).length≤l.length*101765
 | [],_=>Nat.zero_le _
 | p::l,h=>by
  have h1:=entL_len (h p (by simp))
  have h2:=entsB_le l (fun q hq=>h q (by simp[hq]))
  rw[entsB_cons,List.length_append,val_len,List.length_cons]
  omega
theorem shortQ_of {c:QC}(h:c.ents.length≤40):ShortQ c:=fun hall=>by have:=entsB_le c.ents hall;omega
section
variable {H:Type} {enc:TypeId×Value→H} {W:World}
theorem ent_leaves (fuel:Nat)(cs:List Value)(x:DataW H×List MemPlace)(h:DataW.trod enc Tryz.prog W 0 (fun _=>true) true fuel 124 cs=some x):Leaves enc Tryz.prog W [9,32] cs:=
 leaves_one (by kernel_rfl) Tryz.underlying124 (by kernel_rfl) (by kernel_rfl) h
theorem ent_dec (cs:List Value)(h:Leaves enc Tryz.prog W [9,32] cs):∃p:EP,Rd W 2 p.1.ao p.1.an p.1.ac (atV p.2)∧p.1.cells.toList=cs:=by
 obtain⟨v0,n0,y0,c0,d0⟩:=h.2 0 9 rfl
 obtain⟨v1,n1,y1,c1,d1⟩:=h.2 1 32 rfl
 obtain⟨s0,e0,-,-⟩:=DataW.trod_string Tryz.underlying9 d0
 obtain rfl:=List.head_eq_of_cons_eq e0
 obtain⟨ao,an,ac,la,rfl,hal,-,ha⟩:=open_rows attE (fun _=>True) 2 (fun _=>rfl) (by decide) (ts:=[9,9]) Tryz.underlying32 (by kernel_rfl) attr_leaves attr_dec d1
 refine⟨(⟨s0,ao,an,ac⟩,la),ha,?_⟩
 have hl:cs.length=2:=h.1
 refine List.ext_getElem? (fun j=>?_)
 match j with
 | 0=>exact c0.symm
 | 1=>exact c1.symm
 | j+2=>rw[List.getElem?_eq_none (by simp[EV.cells]),List.getElem?_eq_none (by omega)]
theorem res_leaves (fuel:Nat)(cs:List Value)(x:DataW H×List MemPlace)(h:DataW.trod enc Tryz.prog W 0 (fun _=>true) true fuel 39 cs=some x):Leaves enc Tryz.prog W [27,4,37,34] cs:=
 leaves_one (by kernel_rfl) Tryz.underlying39 (by kernel_rfl) (by kernel_rfl) h
theorem res_dec {ts:List TypeId}{cs:List Value}(o:Nat)(h:Leaves enc Tryz.prog W ts cs)(ht:∀j:Nat,ts[o+j]?=[27,4,37,34][j]?):∃(v:QV) (c:QC),QRd W v c∧∀(j:Nat) (u:Value),v.cells.toList[j]?=some u→cs[o+j]?=some u:=by
 obtain⟨v0,n0,y0,c0,d0⟩:=h.2 (o+0) 27 (ht 0)
 obtain⟨v1,n1,y1,c1,d1⟩:=h.2 (o+1) 4 (ht 1)
 obtain⟨v2,n2,y2,c2,d2⟩:=h.2 (o+2) 37 (ht 2)
 obtain⟨v3,n3,y3,c3,d3⟩:=h.2 (o+3) 34 (ht 3)
 obtain⟨z0,e0,-,-⟩:=DataW.trod_int (k:=.i64) Tryz.underlying27 d0
 obtain⟨b1,e1,-⟩:=DataW.trod_bool Tryz.underlying4 d1
 obtain rfl:=List.head_eq_of_cons_eq e0
 obtain rfl:=List.head_eq_of_cons_eq e1
 obtain⟨eo,en,ec,le,rfl,hel,hea,he⟩:=open_rows (fun p:EP=>p.1.cells.toList) (fun p:EP=>Rd W 2 p.1.ao p.1.an p.1.ac (atV p.2)) 2 (fun _=>rfl) (by decide) (ts:=[9,32]) Tryz.underlying37 (by kernel_rfl) ent_leaves ent_dec d2
 obtain⟨co,cn,cc,zs,rfl,hc,hz⟩:=rd_ints (e:=5) (k:=.u8) Tryz.underlying34 Tryz.underlying5 (by kernel_rfl) d3
 obtain⟨b,hbb⟩:=bytes_of zs (fun z h=>wf_u8 (hz z h))
 rw[hbb] at hc
 refine⟨⟨z0,b1,eo,en,ec,co,cn,cc⟩,⟨le,b⟩,⟨he,hea,hc⟩,fun j u hu=>?_⟩
 match j,hu with
 | 0,hu=>cases Option.some.inj hu;exact c0
 | 1,hu=>cases Option.some.inj hu;exact c1
 | 2,hu=>cases Option.some.inj hu;exact c2
 | 3,hu=>cases Option.some.inj hu;exact c3
 | j+4,hu=>simp[QV.cells] at hu
end
def GivesWide (v:QV)(c:QC)(w:World)(e:Ending)(w':World):Prop:=∃b:Bool,e=.returned (.bool b)∧(b=false→QAt w v c∧v.en≤8∧v.cn≤9000)∧Below w.heap.size w w'
set_option maxRecDepth 100000 in
theorem wide_any (v:QV)(c:QC)(w:World)(h:QRd w v c):Calls Tryz.prog 59 #[v.val] w (GivesWide v c w):=by
 have lx:c.ents.length=v.en:=by have:=h.e.1;rw[enV_len] at this;omega
 have LX:=Lib.hid lx
 have hcap:v.en≤9223372036854775807:=by have:=h.e.2.1;have:=h.e.2.2.1;unfold maxLen at this;omega
 have hb0:Below w.heap.size w (w.alloc v.box):=(Below.refl _ _).alloc (Nat.le_refl _) _
 have k0:(w.alloc v.box).heap[w.heap.size]?=some v.box:=by show (w.heap.push _)[w.heap.size]?=some _;exact Array.getElem?_push_size
 clear lx
 unfold QV.box QV.cells at hb0 k0
 unfold QV.val QV.cells
 go_enter Tryz.func59,Tryz.ntmps59
 go_upto_region 1 with fail
 generalize hg:w.alloc _=W0 at *
 have s0:QbAt w v W0:=⟨k0,hb0⟩
 clear hg k0 hb0
 go_wp2_with fail
 go_loopw [3] (fun p wr=>∃k:Nat,k≤v.en∧k≤9∧p=.int .i64 (k:Int)∧QbAt w v wr∧Hid (∀p∈c.ents.take k,p.1.an≤120)) (fun p _=>v.en-(intOf p).toNat)
 case atStart=>exact⟨0,Nat.zero_le _,Nat.zero_le _,rfl,s0,Lib.hid (fun p hp=>by simp at hp)⟩
 case round=>
  obtain⟨k,hk,hk9,rfl,s1,HA⟩:=hrel
  obtain⟨c0,c1,c2,c3,c4⟩:=qbox_all s1.o
  by_cases hkn:k<v.en
  ·have f0:decide ((k:Int)<(v.en:Int))=true:=decide_eq_true (by omega)
   by_cases hk8:k≤8
   ·have f1:decide ((k:Int)≤8)=true:=decide_eq_true (by omega)
    have hE:=h.e.later s1.bel
    obtain⟨b1,o1,hao,hl1,hc1⟩:=hE.some (by have:=hE.le;omega)
    rw[hao] at c2
    obtain⟨p,hp⟩:∃p,c.ents[k]?=some p:=⟨_,List.getElem?_eq_getElem (by rw[LX.out];exact hkn)⟩
    obtain⟨v1,v2⟩:=enV_at c.ents k p hp
    have x1:=hc1 (k*2) _ v1
    have x2:wr.cell? ⟨b1,o1+k*2+1,none⟩=_:=hc1 (k*2+1) _ v2
    have hEp:=(h.a p (List.mem_of_getElem? hp)).later s1.bel
    have HP:=Lib.hid hp
    have i0:(0:Int)≤(k:Int):=by omega
    have i1:(k:Int)<(v.en:Int):=by omega
    clear hc1 v1 v2 hp hE hao
    by_cases h3:3000<p.1.name.size
    ·have f2:decide ((3000:Int)<(p.1.name.size:Int))=true:=decide_eq_true (by omega)
     go_wp2_with fail
     go_ret
     exact⟨true,rfl,fun h=>(by cases h),s1.bel⟩
    have f2:decide ((3000:Int)<(p.1.name.size:Int))=false:=decide_eq_false (by omega)
    clear h3
    go_wp2_with fail
    refine (much_any p.1.ao p.1.an p.1.ac p.2 wr hEp).mono ?_
    rintro e W1 ⟨⟨b,rfl,hb⟩,hb1⟩
    have s2:=s1.step hb1
    have Hb:=Lib.hid hb
    clear hb x1 x2 c0 c1 c2 c3 c4
    cases b with
    | true=>
     go_wp2_with fail
     go_ret
     exact⟨true,rfl,fun h=>(by cases h),s2.bel⟩
    | false=>
     have hp2:=HP.out
     have HA2:Hid (∀q∈c.ents.take (k+1),q.1.an≤120):=Lib.hid (fun q hq=>by
      rw[List.take_add_one,hp2] at hq
      rcases List.mem_append.1 hq with hq | hq
      ·exact HA.out q hq
      obtain rfl:q=p:=by simpa using hq
      exact Hb.out rfl)
     clear hp2
     go_wp2_with fail
     go_roundw
     case rel=>exact⟨k+1,by omega,by omega,by go_num,s2,HA2⟩
     case measure=>simp[intOf];omega
   have f1:decide ((k:Int)≤8)=false:=decide_eq_false (by omega)
   have f3:decide ((8:Int)<(v.en:Int))=true:=decide_eq_true (by omega)
   go_wp2_with fail
   go_ret
   exact⟨true,rfl,fun h=>(by cases h),s1.bel⟩
  have f0:decide ((k:Int)<(v.en:Int))=false:=decide_eq_false (by omega)
  by_cases h8:8<v.en
  ·have f3:decide ((8:Int)<(v.en:Int))=true:=decide_eq_true (by omega)
   go_wp2_with fail
   go_ret
   exact⟨true,rfl,fun h=>(by cases h),s1.bel⟩
  have f3:decide ((8:Int)<(v.en:Int))=false:=decide_eq_false (by omega)
  have hfull:c.ents.take k=c.ents:=List.take_of_length_le (by rw[LX.out];omega)
  have HB:Hid (∀p∈c.ents,p.1.an≤120):=Lib.hid (by rw[←hfull];exact HA.out)
  clear hfull
  by_cases h9:9000<v.cn
  ·have f4:decide ((9000:Int)<(v.cn:Int))=true:=decide_eq_true (by omega)
   go_wp2_with fail
   go_ret
   exact⟨true,rfl,fun h=>(by cases h),s1.bel⟩
  have f4:decide ((9000:Int)<(v.cn:Int))=false:=decide_eq_false (by omega)
  have hN:v.en≤8∧v.cn≤9000:=by omega
  have HN:=Lib.hid hN
  clear hN h9 h8
  go_wp2_with fail
  go_ret
  exact⟨false,rfl,fun _=>⟨⟨⟨h.e,fun p hp=>⟨h.a p hp,by have:=HB.out p hp;omega⟩⟩,h.c,by have:=HN.out.2;omega⟩,HN.out.1,HN.out.2⟩,s1.bel⟩
end Go.Proofs.YtfmmandlmbcncaaGreatDoor.Msg
namespace Go.Proofs.YtfmmandlmbcncaaGreatDoor.Msg
open Go.RowKit Go.Lib Go.Proofs.YtfmmandlmbcncaaGreatDoor.Mem Go.Proofs.YtfmmandlmbcncaaGreatDoor.Tlv
structure MV where
 k:Int
 vi:Int
 no:Int
 fr:Int
 cl:Int
 nu:Int
 rq:RV
 rs:QV
 at_:Int
 cm:Int
 bs:Int
 so:Option Addr
 sn:Nat
 sc:Nat
 lo:Option Addr
 ln:Nat
 lc:Nat
 nc:Int
 wh:Bool
 ho:Option Addr
 hn:Nat
 hc:Nat
def MV.cells (m:MV):Array Value:=#[.int .i64 m.k,.int .u64 m.vi,.int .u64 m.no,.int .i64 m.fr,.int .u64 m.cl,.int .u64 m.nu,.int .u64 m.rq.cl,.int .u64 m.rq.nu,.int .i64 m.rq.op.k,.string m.rq.op.name,.string m.rq.op.to,.slice m.rq.op.ao m.rq.op.an m.rq.op.ac,.slice m.rq.op.bo m.rq.op.bn m.rq.op.bc,.slice m.rq.op.co m.rq.op.cn m.rq.op.cc,.int .i64 m.rq.op.n,.int .i64 m.rs.code,.bool m.rs.yes,.slice m.rs.eo m.rs.en m.rs.ec,.slice m.rs.co m.rs.cn m.rs.cc,.int .u64 m.at_,.int .u64 m.cm,.int .u64 m.bs,.slice m.so m.sn m.sc,.slice m.lo m.ln m.lc,.int .u64 m.nc,.bool m.wh,.slice m.ho m.hn m.hc]
def MV.val (m:MV):Value:=.agg m.cells
def MV.box (m:MV):Obj:=.cells m.cells 59
structure MC where
 rq:OC
 rs:QC
 snap:List UInt8
 log:List RP
 seen:List Nat
structure MAt (W:World)(m:MV)(c:MC):Prop where
 rq:OpAt W m.rq.op c.rq
 rs:QAt W m.rs c.rs
 sn:Rd W 1 m.so m.sn m.sc (byV c.snap)
 lg:LgAt W m.lo m.ln m.lc c.log
 se:Rd W 1 m.ho m.hn m.hc (u64V c.seen)
 ls:m.sn≤1000000000
 lh:m.hn≤1000000000
theorem MAt.later {W W':World}{m:MV}{c:MC}(h:MAt W m c)(hb:Below W.heap.size W W'):MAt W' m c:=⟨h.rq.later hb,h.rs.later hb,h.sn.later hb,h.lg.later hb,h.se.later hb,h.ls,h.lh⟩
theorem mcell {W:World}{B:Nat}{m:MV}(h:W.heap[B]?=some m.box)(i:Nat)(v:Value)(hv:m.cells[i]?=some v):W.cell? ⟨B,i,none⟩=some v:=by
 unfold MV.box at h
 simp[World.cell?,h,hv]
theorem mfrozen {W:World}{B:Nat}{m:MV}(h:W.heap[B]?=some m.box)(i:Nat):W.frozen? ⟨B,i,none⟩=false:=by
 unfold MV.box at h
 simp[World.frozen?,h]
structure McAt (W:World)(B:Nat)(m:MV):Prop where
 c0:W.cell? ⟨B,0,none⟩=some (.int .i64 m.k)
 c1:W.cell? ⟨B,1,none⟩=some (.int .u64 m.vi)
 c2:W.cell? ⟨B,2,none⟩=some (.int .u64 m.no)
 c3:W.cell? ⟨B,3,none⟩=some (.int .i64 m.fr)
 c4:W.cell? ⟨B,4,none⟩=some (.int .u64 m.cl)
 c5:W.cell? ⟨B,5,none⟩=some (.int .u64 m.nu)
 c6:W.cell? ⟨B,6,none⟩=some (.int .u64 m.rq.cl)
 c7:W.cell? ⟨B,7,none⟩=some (.int .u64 m.rq.nu)
 c8:W.cell? ⟨B,8,none⟩=some (.int .i64 m.rq.op.k)
 c9:W.cell? ⟨B,9,none⟩=some (.string m.rq.op.name)
 c10:W.cell? ⟨B,10,none⟩=some (.string m.rq.op.to)
 c11:W.cell? ⟨B,11,none⟩=some (.slice m.rq.op.ao m.rq.op.an m.rq.op.ac)
 c12:W.cell? ⟨B,12,none⟩=some (.slice m.rq.op.bo m.rq.op.bn m.rq.op.bc)
 c13:W.cell? ⟨B,13,none⟩=some (.slice m.rq.op.co m.rq.op.cn m.rq.op.cc)
 c14:W.cell? ⟨B,14,none⟩=some (.int .i64 m.rq.op.n)
 c15:W.cell? ⟨B,15,none⟩=some (.int .i64 m.rs.code)
 c16:W.cell? ⟨B,16,none⟩=some (.bool m.rs.yes)
 c17:W.cell? ⟨B,17,none⟩=some (.slice m.rs.eo m.rs.en m.rs.ec)
 c18:W.cell? ⟨B,18,none⟩=some (.slice m.rs.co m.rs.cn m.rs.cc)
 c19:W.cell? ⟨B,19,none⟩=some (.int .u64 m.at_)
 c20:W.cell? ⟨B,20,none⟩=some (.int .u64 m.cm)
 c21:W.cell? ⟨B,21,none⟩=some (.int .u64 m.bs)
 c22:W.cell? ⟨B,22,none⟩=some (.slice m.so m.sn m.sc)
 c23:W.cell? ⟨B,23,none⟩=some (.slice m.lo m.ln m.lc)
 c24:W.cell? ⟨B,24,none⟩=some (.int .u64 m.nc)
 c25:W.cell? ⟨B,25,none⟩=some (.bool m.wh)
 c26:W.cell? ⟨B,26,none⟩=some (.slice m.ho m.hn m.hc)
 q:∀(j:Nat) (v:Value),m.rq.cells[j]?=some v→W.cell? ⟨B,6+j,none⟩=some v
 r:∀(j:Nat) (v:Value),m.rs.cells[j]?=some v→W.cell? ⟨B,15+j,none⟩=some v
theorem McAt.of {W:World}{B:Nat}{m:MV}(h:W.heap[B]?=some m.box):McAt W B m where
 c0:=mcell h 0 _ rfl
 c1:=mcell h 1 _ rfl
 c2:=mcell h 2 _ rfl
 c3:=mcell h 3 _ rfl
 c4:=mcell h 4 _ rfl
 c5:=mcell h 5 _ rfl
 c6:=mcell h 6 _ rfl
 c7:=mcell h 7 _ rfl
 c8:=mcell h 8 _ rfl
 c9:=mcell h 9 _ rfl
 c10:=mcell h 10 _ rfl
 c11:=mcell h 11 _ rfl
 c12:=mcell h 12 _ rfl
 c13:=mcell h 13 _ rfl
 c14:=mcell h 14 _ rfl
 c15:=mcell h 15 _ rfl
 c16:=mcell h 16 _ rfl
 c17:=mcell h 17 _ rfl
 c18:=mcell h 18 _ rfl
 c19:=mcell h 19 _ rfl
 c20:=mcell h 20 _ rfl
 c21:=mcell h 21 _ rfl
 c22:=mcell h 22 _ rfl
 c23:=mcell h 23 _ rfl
 c24:=mcell h 24 _ rfl
 c25:=mcell h 25 _ rfl
 c26:=mcell h 26 _ rfl
 q:=fun j v hv=>by
  have hj:j<9:=by
   have:=(Array.getElem?_eq_some_iff.1 hv).1
   simpa [RV.cells] using this
  refine mcell h (6+j) v ?_
  rcases (by omega:j=0∨j=1∨j=2∨j=3∨j=4∨j=5∨j=6∨j=7∨j=8) with rfl|rfl|rfl|rfl|rfl|rfl|rfl|rfl|rfl<;>exact hv
 r:=fun j v hv=>by
  have hj:j<4:=by
   have:=(Array.getElem?_eq_some_iff.1 hv).1
   simpa [QV.cells] using this
  refine mcell h (15+j) v ?_
  rcases (by omega:j=0∨j=1∨j=2∨j=3) with rfl|rfl|rfl|rfl<;>exact hv
theorem mbox_step {W W':World}{B:Nat}{m:MV}(h:W.heap[B]?=some m.box)(hb:Below W.heap.size W W'):W'.heap[B]?=some m.box:=(hb.block _ (Array.getElem?_eq_some_iff.1 h).1).trans h
def sameMsg (m:MV)(c:MC)(m':MV)(c':MC):Bool:=
 decide (m.k=m'.k)&&(decide (m.vi=m'.vi)&&(decide (m.no=m'.no)&&(decide (m.fr=m'.fr)&&(decide (m.cl=m'.cl)&&(decide (m.nu=m'.nu)&&(sameReq m.rq c.rq m'.rq c'.rq&&(sameRes m.rs c.rs m'.rs c'.rs&&(decide (m.at_=m'.at_)&&(decide (m.cm=m'.cm)&&(decide (m.bs=m'.bs)&&(decide (c.snap=c'.snap)&&(sameLog c.log c'.log&&(decide (m.nc=m'.nc)&&(decide (m.wh=m'.wh)&&decide (c.seen=c'.seen)))))))))))))))
def setF (x:Int)(m0 m:MV):MV:=
 if x=118 then { m0 with vi:=m.vi }
 else if x=110 then { m0 with no:=m.no }
 else if x=102 then { m0 with fr:=m.fr }
 else if x=99 then { m0 with cl:=m.cl }
 else if x=117 then { m0 with nu:=m.nu }
 else if x=113 then { m0 with rq:=m.rq }
 else if x=114 then { m0 with rs:=m.rs }
 else if x=97 then { m0 with at_:=m.at_ }
 else if x=109 then { m0 with cm:=m.cm }
 else if x=98 then { m0 with bs:=m.bs }
 else if x=115 then { m0 with so:=m.so,sn:=m.sn,sc:=m.sc }
 else if x=108 then { m0 with lo:=m.lo,ln:=m.ln,lc:=m.lc }
 else if x=111 then { m0 with nc:=m.nc }
 else if x=119 then { m0 with wh:=m.wh }
 else if x=101 then { m0 with ho:=m.ho,hn:=m.hn,hc:=m.hc }
 else m0
def Keeps (B tb:Nat)(m1:MV)(w:World)(e:Ending)(w':World):Prop:=e=.returned (.tuple #[])∧w'.heap[tb]?=some m1.box∧Oth B tb w w'
set_option maxRecDepth 100000 in
theorem keep102 (B tb fb:Nat)(m0 m:MV)(w:World)(h0:w.heap[tb]?=some m0.box)(h1:w.heap[fb]?=some m.box)(hB:B≤tb):Calls Tryz.prog 186 #[.pointer (some ⟨tb,0,none⟩),.pointer (some ⟨fb,0,none⟩)] w (Keeps B tb (setF 102 m0 m) w):=by
 have a3:=(McAt.of h1).c3
 have b3:=(McAt.of h0).c3
 have z0:=mfrozen h0
 have g:=h0
 unfold MV.box MV.cells at g
 have g3:=at_set (i:=3) (x:=.int .i64 m.fr) g
 have H:=hid (g3.trans (show _=some (setF 102 m0 m).box by kernel_rfl))
 clear g g3
 go_enter Tryz.func186,Tryz.ntmps186
 go_wp2_with fail
 refine bodyPost_end (results_none rfl _ _ _) rfl ?_
 exact⟨rfl,H.out,((Oth.refl B tb w).set hB 3 _)⟩
set_option maxRecDepth 100000 in
theorem keep113 (B tb fb:Nat)(m0 m:MV)(w:World)(h0:w.heap[tb]?=some m0.box)(h1:w.heap[fb]?=some m.box)(hB:B≤tb):Calls Tryz.prog 189 #[.pointer (some ⟨tb,0,none⟩),.pointer (some ⟨fb,0,none⟩)] w (Keeps B tb (setF 113 m0 m) w):=by
 have a6:=(McAt.of h1).c6
 have b6:=(McAt.of h0).c6
 have a7:=(McAt.of h1).c7
 have b7:=(McAt.of h0).c7
 have a8:=(McAt.of h1).c8
 have b8:=(McAt.of h0).c8
 have a9:=(McAt.of h1).c9
 have b9:=(McAt.of h0).c9
 have a10:=(McAt.of h1).c10
 have b10:=(McAt.of h0).c10
 have a11:=(McAt.of h1).c11
 have b11:=(McAt.of h0).c11
 have a12:=(McAt.of h1).c12
 have b12:=(McAt.of h0).c12
 have a13:=(McAt.of h1).c13
 have b13:=(McAt.of h0).c13
 have a14:=(McAt.of h1).c14
 have b14:=(McAt.of h0).c14
 have z0:=mfrozen h0
 have g:=h0
 unfold MV.box MV.cells at g
 have g6:=at_set (i:=6) (x:=.int .u64 m.rq.cl) g
 have g7:=at_set (i:=7) (x:=.int .u64 m.rq.nu) g6
 have g8:=at_set (i:=8) (x:=.int .i64 m.rq.op.k) g7
 have g9:=at_set (i:=9) (x:=.string m.rq.op.name) g8
 have g10:=at_set (i:=10) (x:=.string m.rq.op.to) g9
 have g11:=at_set (i:=11) (x:=.slice m.rq.op.ao m.rq.op.an m.rq.op.ac) g10
 have g12:=at_set (i:=12) (x:=.slice m.rq.op.bo m.rq.op.bn m.rq.op.bc) g11
 have g13:=at_set (i:=13) (x:=.slice m.rq.op.co m.rq.op.cn m.rq.op.cc) g12
 have g14:=at_set (i:=14) (x:=.int .i64 m.rq.op.n) g13
 have H:=hid (g14.trans (show _=some (setF 113 m0 m).box by kernel_rfl))
 clear g g6 g7 g8 g9 g10 g11 g12 g13 g14
 go_enter Tryz.func189,Tryz.ntmps189
 go_wp2_with fail
 refine bodyPost_end (results_none rfl _ _ _) rfl ?_
 exact⟨rfl,H.out,((((((((((Oth.refl B tb w).set hB 6 _).set hB 7 _).set hB 8 _).set hB 9 _).set hB 10 _).set hB 11 _).set hB 12 _).set hB 13 _).set hB 14 _)⟩
set_option maxRecDepth 100000 in
theorem keep114 (B tb fb:Nat)(m0 m:MV)(w:World)(h0:w.heap[tb]?=some m0.box)(h1:w.heap[fb]?=some m.box)(hB:B≤tb):Calls Tryz.prog 195 #[.pointer (some ⟨tb,0,none⟩),.pointer (some ⟨fb,0,none⟩)] w (Keeps B tb (setF 114 m0 m) w):=by
 have a15:=(McAt.of h1).c15
 have b15:=(McAt.of h0).c15
 have a16:=(McAt.of h1).c16
 have b16:=(McAt.of h0).c16
 have a17:=(McAt.of h1).c17
 have b17:=(McAt.of h0).c17
 have a18:=(McAt.of h1).c18
 have b18:=(McAt.of h0).c18
 have z0:=mfrozen h0
 have g:=h0
 unfold MV.box MV.cells at g
 have g15:=at_set (i:=15) (x:=.int .i64 m.rs.code) g
 have g16:=at_set (i:=16) (x:=.bool m.rs.yes) g15
 have g17:=at_set (i:=17) (x:=.slice m.rs.eo m.rs.en m.rs.ec) g16
 have g18:=at_set (i:=18) (x:=.slice m.rs.co m.rs.cn m.rs.cc) g17
 have H:=hid (g18.trans (show _=some (setF 114 m0 m).box by kernel_rfl))
 clear g g15 g16 g17 g18
 go_enter Tryz.func195,Tryz.ntmps195
 go_wp2_with fail
 refine bodyPost_end (results_none rfl _ _ _) rfl ?_
 exact⟨rfl,H.out,(((((Oth.refl B tb w).set hB 15 _).set hB 16 _).set hB 17 _).set hB 18 _)⟩
set_option maxRecDepth 100000 in
theorem keep115 (B tb fb:Nat)(m0 m:MV)(w:World)(h0:w.heap[tb]?=some m0.box)(h1:w.heap[fb]?=some m.box)(hB:B≤tb):Calls Tryz.prog 200 #[.pointer (some ⟨tb,0,none⟩),.pointer (some ⟨fb,0,none⟩)] w (Keeps B tb (setF 115 m0 m) w):=by
 have a22:=(McAt.of h1).c22
 have b22:=(McAt.of h0).c22
 have z0:=mfrozen h0
 have g:=h0
 unfold MV.box MV.cells at g
 have g22:=at_set (i:=22) (x:=.slice m.so m.sn m.sc) g
 have H:=hid (g22.trans (show _=some (setF 115 m0 m).box by kernel_rfl))
 clear g g22
 go_enter Tryz.func200,Tryz.ntmps200
 go_wp2_with fail
 refine bodyPost_end (results_none rfl _ _ _) rfl ?_
 exact⟨rfl,H.out,((Oth.refl B tb w).set hB 22 _)⟩
set_option maxRecDepth 100000 in
theorem keep108 (B tb fb:Nat)(m0 m:MV)(w:World)(h0:w.heap[tb]?=some m0.box)(h1:w.heap[fb]?=some m.box)(hB:B≤tb):Calls Tryz.prog 203 #[.pointer (some ⟨tb,0,none⟩),.pointer (some ⟨fb,0,none⟩)] w (Keeps B tb (setF 108 m0 m) w):=by
 have a23:=(McAt.of h1).c23
 have b23:=(McAt.of h0).c23
 have z0:=mfrozen h0
 have g:=h0
 unfold MV.box MV.cells at g
 have g23:=at_set (i:=23) (x:=.slice m.lo m.ln m.lc) g
 have H:=hid (g23.trans (show _=some (setF 108 m0 m).box by kernel_rfl))
 clear g g23
 go_enter Tryz.func203,Tryz.ntmps203
 go_wp2_with fail
 refine bodyPost_end (results_none rfl _ _ _) rfl ?_
 exact⟨rfl,H.out,((Oth.refl B tb w).set hB 23 _)⟩
set_option maxRecDepth 100000 in
theorem keep119 (B tb fb:Nat)(m0 m:MV)(w:World)(h0:w.heap[tb]?=some m0.box)(h1:w.heap[fb]?=some m.box)(hB:B≤tb):Calls Tryz.prog 209 #[.pointer (some ⟨tb,0,none⟩),.pointer (some ⟨fb,0,none⟩)] w (Keeps B tb (setF 119 m0 m) w):=by
 have a25:=(McAt.of h1).c25
 have b25:=(McAt.of h0).c25
 have z0:=mfrozen h0
 have g:=h0
 unfold MV.box MV.cells at g
 have g25:=at_set (i:=25) (x:=.bool m.wh) g
 have H:=hid (g25.trans (show _=some (setF 119 m0 m).box by kernel_rfl))
 clear g g25
 go_enter Tryz.func209,Tryz.ntmps209
 go_wp2_with fail
 refine bodyPost_end (results_none rfl _ _ _) rfl ?_
 exact⟨rfl,H.out,((Oth.refl B tb w).set hB 25 _)⟩
set_option maxRecDepth 100000 in
theorem keep101 (B tb fb:Nat)(m0 m:MV)(w:World)(h0:w.heap[tb]?=some m0.box)(h1:w.heap[fb]?=some m.box)(hB:B≤tb):Calls Tryz.prog 213 #[.pointer (some ⟨tb,0,none⟩),.pointer (some ⟨fb,0,none⟩)] w (Keeps B tb (setF 101 m0 m) w):=by
 have a26:=(McAt.of h1).c26
 have b26:=(McAt.of h0).c26
 have z0:=mfrozen h0
 have g:=h0
 unfold MV.box MV.cells at g
 have g26:=at_set (i:=26) (x:=.slice m.ho m.hn m.hc) g
 have H:=hid (g26.trans (show _=some (setF 101 m0 m).box by kernel_rfl))
 clear g g26
 go_enter Tryz.func213,Tryz.ntmps213
 go_wp2_with fail
 refine bodyPost_end (results_none rfl _ _ _) rfl ?_
 exact⟨rfl,H.out,((Oth.refl B tb w).set hB 26 _)⟩
structure KeepOk (t0 t1 t2 t3 t4 t5 t6 t7:Nat)(f:FV)(kf:FuncId)(kc:Array Value):Prop where
 eq:f.kp=.func (.func kf) #[] kc
 en:∀args w,(callFunc kf args).run Tryz.prog w=.ok (.enter kf args) w
 calls:∀(B tb fb:Nat) (m0 m:MV) (w:World),AllAt t0 t1 t2 t3 t4 t5 t6 t7 w→w.heap[tb]?=some m0.box→w.heap[fb]?=some m.box→B≤tb→Calls Tryz.prog kf (#[.pointer (some ⟨tb,0,none⟩),.pointer (some ⟨fb,0,none⟩)]++kc) w (Keeps B tb (setF f.l m0 m) w)
set_option maxRecDepth 100000 in
theorem keep_all {t0 t1 t2 t3 t4 t5 t6 t7:Nat}:∀f∈allL t0 t1 t2 t3 t4 t5 t6 t7,∃kf kc,KeepOk t0 t1 t2 t3 t4 t5 t6 t7 f kf kc:=by
 intro f hf
 simp only[allL,List.mem_cons,List.not_mem_nil,or_false] at hf
 rcases hf with rfl|rfl|rfl|rfl|rfl|rfl|rfl|rfl|rfl|rfl|rfl|rfl|rfl|rfl|rfl
 ·refine⟨218,#[.pointer (some ⟨t0+1,0,none⟩)],rfl,enters_of Tryz.func218 (by kernel_rfl) rfl,fun B tb fb m0 m w ha h0 h1 hB=>(keepP1 B tb fb (t0+1) m0.cells m.cells m.vi _ w h0 h1 rfl rfl ha.a0.2 hB).mono ?_⟩
  rintro e w' ⟨rfl,h2,h3⟩
  exact⟨rfl,h2.trans (show _=some (setF 118 m0 m).box by kernel_rfl),h3⟩
 ·refine⟨218,#[.pointer (some ⟨t1+1,0,none⟩)],rfl,enters_of Tryz.func218 (by kernel_rfl) rfl,fun B tb fb m0 m w ha h0 h1 hB=>(keepP2 B tb fb (t1+1) m0.cells m.cells m.no _ w h0 h1 rfl rfl ha.a1.2 hB).mono ?_⟩
  rintro e w' ⟨rfl,h2,h3⟩
  exact⟨rfl,h2.trans (show _=some (setF 110 m0 m).box by kernel_rfl),h3⟩
 ·exact⟨186,#[],rfl,enters_of Tryz.func186 (by kernel_rfl) rfl,fun B tb fb m0 m w _ h0 h1 hB=>keep102 B tb fb m0 m w h0 h1 hB⟩
 ·refine⟨218,#[.pointer (some ⟨t2+1,0,none⟩)],rfl,enters_of Tryz.func218 (by kernel_rfl) rfl,fun B tb fb m0 m w ha h0 h1 hB=>(keepP3 B tb fb (t2+1) m0.cells m.cells m.cl _ w h0 h1 rfl rfl ha.a2.2 hB).mono ?_⟩
  rintro e w' ⟨rfl,h2,h3⟩
  exact⟨rfl,h2.trans (show _=some (setF 99 m0 m).box by kernel_rfl),h3⟩
 ·refine⟨218,#[.pointer (some ⟨t3+1,0,none⟩)],rfl,enters_of Tryz.func218 (by kernel_rfl) rfl,fun B tb fb m0 m w ha h0 h1 hB=>(keepP4 B tb fb (t3+1) m0.cells m.cells m.nu _ w h0 h1 rfl rfl ha.a3.2 hB).mono ?_⟩
  rintro e w' ⟨rfl,h2,h3⟩
  exact⟨rfl,h2.trans (show _=some (setF 117 m0 m).box by kernel_rfl),h3⟩
 ·exact⟨189,#[],rfl,enters_of Tryz.func189 (by kernel_rfl) rfl,fun B tb fb m0 m w _ h0 h1 hB=>keep113 B tb fb m0 m w h0 h1 hB⟩
 ·exact⟨195,#[],rfl,enters_of Tryz.func195 (by kernel_rfl) rfl,fun B tb fb m0 m w _ h0 h1 hB=>keep114 B tb fb m0 m w h0 h1 hB⟩
 ·refine⟨218,#[.pointer (some ⟨t4+1,0,none⟩)],rfl,enters_of Tryz.func218 (by kernel_rfl) rfl,fun B tb fb m0 m w ha h0 h1 hB=>(keepP5 B tb fb (t4+1) m0.cells m.cells m.at_ _ w h0 h1 rfl rfl ha.a4.2 hB).mono ?_⟩
  rintro e w' ⟨rfl,h2,h3⟩
  exact⟨rfl,h2.trans (show _=some (setF 97 m0 m).box by kernel_rfl),h3⟩
 ·refine⟨218,#[.pointer (some ⟨t5+1,0,none⟩)],rfl,enters_of Tryz.func218 (by kernel_rfl) rfl,fun B tb fb m0 m w ha h0 h1 hB=>(keepP6 B tb fb (t5+1) m0.cells m.cells m.cm _ w h0 h1 rfl rfl ha.a5.2 hB).mono ?_⟩
  rintro e w' ⟨rfl,h2,h3⟩
  exact⟨rfl,h2.trans (show _=some (setF 109 m0 m).box by kernel_rfl),h3⟩
 ·refine⟨218,#[.pointer (some ⟨t6+1,0,none⟩)],rfl,enters_of Tryz.func218 (by kernel_rfl) rfl,fun B tb fb m0 m w ha h0 h1 hB=>(keepP7 B tb fb (t6+1) m0.cells m.cells m.bs _ w h0 h1 rfl rfl ha.a6.2 hB).mono ?_⟩
  rintro e w' ⟨rfl,h2,h3⟩
  exact⟨rfl,h2.trans (show _=some (setF 98 m0 m).box by kernel_rfl),h3⟩
 ·exact⟨200,#[],rfl,enters_of Tryz.func200 (by kernel_rfl) rfl,fun B tb fb m0 m w _ h0 h1 hB=>keep115 B tb fb m0 m w h0 h1 hB⟩
 ·exact⟨203,#[],rfl,enters_of Tryz.func203 (by kernel_rfl) rfl,fun B tb fb m0 m w _ h0 h1 hB=>keep108 B tb fb m0 m w h0 h1 hB⟩
 ·refine⟨218,#[.pointer (some ⟨t7+1,0,none⟩)],rfl,enters_of Tryz.func218 (by kernel_rfl) rfl,fun B tb fb m0 m w ha h0 h1 hB=>(keepP8 B tb fb (t7+1) m0.cells m.cells m.nc _ w h0 h1 rfl rfl ha.a7.2 hB).mono ?_⟩
  rintro e w' ⟨rfl,h2,h3⟩
  exact⟨rfl,h2.trans (show _=some (setF 111 m0 m).box by kernel_rfl),h3⟩
 ·exact⟨209,#[],rfl,enters_of Tryz.func209 (by kernel_rfl) rfl,fun B tb fb m0 m w _ h0 h1 hB=>keep119 B tb fb m0 m w h0 h1 hB⟩
 exact⟨213,#[],rfl,enters_of Tryz.func213 (by kernel_rfl) rfl,fun B tb fb m0 m w _ h0 h1 hB=>keep101 B tb fb m0 m w h0 h1 hB⟩
end Go.Proofs.YtfmmandlmbcncaaGreatDoor.Msg
