/-
  A part of the proof.
-/
import Derived.Deep.Cut
import Derived.Test.YtfmmandlmbcncaaGreatDoorKbbb
import Derived.Test.YtfmmandlmbcncaaGreatDoorKbar
import Derived.Test.YtfmmandlmbcncaaGreatDoorKbab
import Derived.Test.YtfmmandlmbcncaaGreatDoorKbbe
import Derived.Test.YtfmmandlmbcncaaGreatDoorKbay
import Derived.Test.YtfmmandlmbcncaaGreatDoorKbaz
set_option maxHeartbeats 40000000
namespace Go.Proofs.YtfmmandlmbcncaaGreatDoor.Msg
open Go.RowKit Go.Lib Go.Proofs.YtfmmandlmbcncaaGreatDoor.Mem Go.Proofs.YtfmmandlmbcncaaGreatDoor.Tlv
structure SrAt (w:World)(v v':QV)(b1 o1 b2 o2 k:Nat)(p q:EV)(W:World):Prop where
 bel:Below w.heap.size w W
 q1:W.heap[w.heap.size]?=some v.box
 q2:W.heap[w.heap.size+1]?=some v'.box
 x0:W.cell? ⟨b1,o1+k*2,none⟩=some (.string p.name)
 x1:W.cell? ⟨b1,o1+k*2+1,none⟩=some (.slice p.ao p.an p.ac)
 y0:W.cell? ⟨b2,o2+k*2,none⟩=some (.string q.name)
 y1:W.cell? ⟨b2,o2+k*2+1,none⟩=some (.slice q.ao q.an q.ac)
theorem SrAt.step {w W W':World}{v v':QV}{b1 o1 b2 o2 k:Nat}{p q:EV}(h:SrAt w v v' b1 o1 b2 o2 k p q W)(hb:Below W.heap.size W W'):SrAt w v v' b1 o1 b2 o2 k p q W':=by
 obtain⟨e1,e2⟩:=qtwo_step h.q1 h.q2 hb
 exact⟨h.bel.trans (hb.mono h.bel.size),e1,e2,cell_after hb h.x0,cell_after hb h.x1,cell_after hb h.y0,cell_after hb h.y1⟩
set_option maxRecDepth 100000 in
theorem rSameRes_any (v v':QV)(c c':QC)(w:World)(h:QAt w v c)(h':QAt w v' c'):Calls Tryz.prog 20 #[v.val,v'.val] w (GivesB (sameRes v c v' c') w):=by
 have hmo:Tryz.prog.follows .mixedOrders=true:=by kernel_rfl
 have lx:=h.e.len
 have ly:=h'.e.len
 have hcap:v.en≤9223372036854775807:=by have:=h.e.r.2.1;have:=h.e.r.2.2.1;unfold maxLen at this;omega
 have hb0:Below w.heap.size w ((w.alloc v.box).alloc v'.box):=below_two w _ _
 obtain⟨k1,k2⟩:=two_boxes w v.box v'.box
 have hs1:=run_strD v.co _ v.cc _ ((w.alloc v.box).alloc v'.box) (h.c.later hb0)
 have hs2:=run_strD v'.co _ v'.cc _ ((w.alloc v.box).alloc v'.box) (h'.c.later hb0)
 unfold QV.box QV.cells at hb0 k1 k2 hs1 hs2
 unfold QV.val QV.cells
 by_cases e1:v.code=v'.code
 case neg=>
  have f1:(v.code==v'.code)=false:=by simp[e1]
  have g1:(v.code != v'.code)=true:=by simp[e1]
  have Hs:Hid (sameRes v c v' c'=false):=hid (by unfold sameRes;rw[decide_eq_false e1];simp)
  clear e1 lx ly hs1 hs2
  go_enter Tryz.func20,Tryz.ntmps20
  go_upto_region 1 with fail
  generalize hg:World.alloc _ _=W0 at *
  have q1:W0.heap[w.heap.size]?=some v.box:=k1
  have q2:W0.heap[w.heap.size+1]?=some v'.box:=k2
  clear hg k1 k2
  obtain⟨c0,c1,c2,c3,-⟩:=qbox_all q1
  obtain⟨d0,d1,d2,d3,-⟩:=qbox_all q2
  go_wp2_with fail
  go_ret
  exact⟨by rw[Hs.out];rfl,hb0⟩
 have f1:(v.code==v'.code)=true:=by simp[e1]
 have g1:(v.code != v'.code)=false:=by simp[e1]
 by_cases e2:v.yes=v'.yes
 case neg=>
  have f2:(v.yes==v'.yes)=false:=by simp[e2]
  have g2:(v.yes != v'.yes)=true:=by simp[e2]
  have g3:(v.yes ^^ v'.yes)=true:=by cases h1:v.yes<;>cases h2:v'.yes<;>simp_all
  have Hs:Hid (sameRes v c v' c'=false):=hid (by unfold sameRes;rw[decide_eq_false e2];simp)
  clear e1 e2 lx ly hs1 hs2
  go_enter Tryz.func20,Tryz.ntmps20
  go_upto_region 1 with fail
  generalize hg:World.alloc _ _=W0 at *
  have q1:W0.heap[w.heap.size]?=some v.box:=k1
  have q2:W0.heap[w.heap.size+1]?=some v'.box:=k2
  clear hg k1 k2
  obtain⟨c0,c1,c2,c3,-⟩:=qbox_all q1
  obtain⟨d0,d1,d2,d3,-⟩:=qbox_all q2
  go_wp2_with fail
  go_ret
  exact⟨by rw[Hs.out];rfl,hb0⟩
 have f2:(v.yes==v'.yes)=true:=by simp[e2]
 have g2:(v.yes != v'.yes)=false:=by simp[e2]
 have g3:(v.yes ^^ v'.yes)=false:=by simp[e2]
 by_cases e3:v.en=v'.en
 case neg=>
  have f3:((v.en:Int)==(v'.en:Int))=false:=by rw[beq_eq_false_iff_ne];omega
  have g4:((v.en:Int) != (v'.en:Int))=true:=by rw[bne,f3];rfl
  have Hs:Hid (sameRes v c v' c'=false):=hid (by
   unfold sameRes
   cases hh:sameEnts c.ents c'.ents with
   | false=>simp
   | true=>have:=sameEnts_len hh;omega)
  clear e1 e2 e3 lx ly hs1 hs2
  go_enter Tryz.func20,Tryz.ntmps20
  go_upto_region 1 with fail
  generalize hg:World.alloc _ _=W0 at *
  have q1:W0.heap[w.heap.size]?=some v.box:=k1
  have q2:W0.heap[w.heap.size+1]?=some v'.box:=k2
  clear hg k1 k2
  obtain⟨c0,c1,c2,c3,-⟩:=qbox_all q1
  obtain⟨d0,d1,d2,d3,-⟩:=qbox_all q2
  go_wp2_with fail
  go_ret
  exact⟨by rw[Hs.out];rfl,hb0⟩
 have f3:((v.en:Int)==(v'.en:Int))=true:=by rw[e3];simp
 have g4:((v.en:Int) != (v'.en:Int))=false:=by rw[bne,f3];rfl
 by_cases e4:c.cursor=c'.cursor
 case neg=>
  have f4:=str_no e4
  have g5:(c.cursor==c'.cursor)=false:=beq_eq_false_iff_ne.2 e4
  have Hs:Hid (sameRes v c v' c'=false):=hid (by unfold sameRes;rw[decide_eq_false e4];simp)
  clear e1 e2 e3 e4 lx ly
  go_enter Tryz.func20,Tryz.ntmps20
  go_upto_region 1 with fail
  generalize hg:World.alloc _ _=W0 at *
  have q1:W0.heap[w.heap.size]?=some v.box:=k1
  have q2:W0.heap[w.heap.size+1]?=some v'.box:=k2
  clear hg k1 k2
  obtain⟨c0,c1,c2,c3,-⟩:=qbox_all q1
  obtain⟨d0,d1,d2,d3,-⟩:=qbox_all q2
  go_wp2_with fail
  go_ret
  exact⟨by rw[Hs.out];rfl,hb0⟩
 rw[e4] at hs1
 have f4:=tol_yes ⟨c'.cursor.toArray⟩
 have g5:(c'.cursor==c'.cursor)=true:=by simp
 have Hs:Hid (sameRes v c v' c'=sameEnts c.ents c'.ents):=hid (by unfold sameRes;rw[decide_eq_true e1,decide_eq_true e2,decide_eq_true e4];simp)
 have LX:=hid lx
 have LY:=hid (ly.trans e3.symm)
 have E3:=hid e3
 clear e1 e2 e3 e4 lx ly
 go_enter Tryz.func20,Tryz.ntmps20
 go_upto_region 1 with fail
 generalize hg:World.alloc _ _=W0 at *
 have q1:W0.heap[w.heap.size]?=some v.box:=k1
 have q2:W0.heap[w.heap.size+1]?=some v'.box:=k2
 clear hg k1 k2
 obtain⟨c0,c1,c2,c3,-⟩:=qbox_all q1
 obtain⟨d0,d1,d2,d3,-⟩:=qbox_all q2
 go_wp2_with fail
 clear c0 c1 c2 c3 d0 d1 d2 d3 f1 f2 f3 f4 g1 g2 g3 g4 g5 hs1 hs2
 go_loopw [5] (fun p wr=>∃k:Nat,k≤v.en∧p=.int .i64 (k:Int)∧Hid (sameEnts (c.ents.take k) (c'.ents.take k)=true)∧Below W0.heap.size W0 wr) (fun p _=>v.en-(intOf p).toNat)
 case atStart=>exact⟨0,Nat.zero_le _,rfl,hid rfl,Below.refl _ _⟩
 case round=>
  obtain⟨k,hk,rfl,Ht,hbr⟩:=hrel
  obtain⟨r1,r2⟩:=qtwo_step q1 q2 hbr
  have hbel:=hb0.trans (hbr.mono hb0.size)
  obtain⟨c0,c1,c2,c3,-⟩:=qbox_all r1
  obtain⟨d0,d1,d2,d3,-⟩:=qbox_all r2
  by_cases hkn:k<v.en
  ·have hx:=(h.later hbel).e
   have hy:=(h'.later hbel).e
   obtain⟨b1,o1,hao1,hl1,hc1⟩:=hx.r.some (by have:=hx.r.le;omega)
   obtain⟨b2,o2,hao2,hl2,hc2⟩:=hy.r.some (by have:=hy.r.le;have:=E3.out;omega)
   obtain⟨u,hu⟩:∃u,c.ents[k]?=some u:=⟨_,List.getElem?_eq_getElem (by rw[LX.out];exact hkn)⟩
   obtain⟨z,hz⟩:∃z,c'.ents[k]?=some z:=⟨_,List.getElem?_eq_getElem (by rw[LY.out];exact hkn)⟩
   obtain⟨v1,v2⟩:=enV_at c.ents k u hu
   obtain⟨v3,v4⟩:=enV_at c'.ents k z hz
   have hU:=hx.each u (List.mem_of_getElem? hu)
   have hZ:=hy.each z (List.mem_of_getElem? hz)
   have hd:Below wr.heap.size wr wr.drew:=(Below.refl _ _).drew
   have s0:SrAt w v v' b1 o1 b2 o2 k u.1 z.1 wr.drew:=(⟨hbel,r1,r2,hc1 (k*2) _ v1,hc1 (k*2+1) _ v2,hc2 (k*2) _ v3,hc2 (k*2+1) _ v4⟩:SrAt w v v' b1 o1 b2 o2 k u.1 z.1 wr).step hd
   have hU2:=hU.later hd
   have hZ2:=hZ.later hd
   have hnx:=sameEnts_next c.ents c'.ents k u z hu hz
   rw[Ht.out,Bool.true_and] at hnx
   have HN:=hid hnx
   have HB:=hid hbr
   have i0:(0:Int)≤(k:Int):=by omega
   have i1:(k:Int)<(v.en:Int):=by omega
   have i2:(k:Int)<(v'.en:Int):=by have:=E3.out;omega
   have HK:=hid hkn
   have A1:=hid hao1
   have A2:=hid hao2
   clear v1 v2 v3 v4 hnx hx hy hU hZ hc1 hc2 hu hz hbel hao1 hao2
   go_upto_region 6 with fail
   refine wp_region_held (S:=SrAt w v v' b1 o1 b2 o2 k u.1 z.1) hmo ?_
   change wpAnyH _ _ _ _ _ _ _ _ (World.drew wr)
   have hbd:Below W0.heap.size W0 wr.drew:=hbr.trans (hd.mono hbr.size)
   generalize World.drew wr=X0 at *
   clear hbr HB hd c0 c1 c2 c3 d0 d1 d2 d3 r1 r2
   refine zHp 0 (.pointer (some ⟨w.heap.size,2,none⟩)) rfl s0 ?_
   go_simp
   refine zHa 1 (.slice (some ⟨b1,o1,none⟩) v.en v.ec) rfl (by rintro w2 h2;obtain⟨c0,c1,c2,c3,-⟩:=qbox_all h2.q1;obtain⟨d0,d1,d2,d3,-⟩:=qbox_all h2.q2;have x0:=h2.x0;have x1:=h2.x1;have y0:=h2.y0;have y1:=h2.y1;rw[A1.out] at c2;rw[A2.out] at d2;go_simp) s0 ?_
   go_simp
   refine zHp 2 (.int .i64 (k:Int)) rfl s0 ?_
   go_simp
   refine zHa 3 (.pointer (some ⟨b1,o1+k*2,none⟩)) rfl (by rintro w2 h2;obtain⟨c0,c1,c2,c3,-⟩:=qbox_all h2.q1;obtain⟨d0,d1,d2,d3,-⟩:=qbox_all h2.q2;have x0:=h2.x0;have x1:=h2.x1;have y0:=h2.y0;have y1:=h2.y1;rw[A1.out] at c2;rw[A2.out] at d2;go_simp) s0 ?_
   go_simp
   refine zHa 4 (.agg #[.string u.1.name,.slice u.1.ao u.1.an u.1.ac]) rfl (by rintro w2 h2;obtain⟨c0,c1,c2,c3,-⟩:=qbox_all h2.q1;obtain⟨d0,d1,d2,d3,-⟩:=qbox_all h2.q2;have x0:=h2.x0;have x1:=h2.x1;have y0:=h2.y0;have y1:=h2.y1;rw[A1.out] at c2;rw[A2.out] at d2;go_simp) s0 ?_
   go_simp
   refine zHp 5 (.pointer (some ⟨w.heap.size+1,2,none⟩)) rfl s0 ?_
   go_simp
   refine zHa 6 (.slice (some ⟨b2,o2,none⟩) v'.en v'.ec) rfl (by rintro w2 h2;obtain⟨c0,c1,c2,c3,-⟩:=qbox_all h2.q1;obtain⟨d0,d1,d2,d3,-⟩:=qbox_all h2.q2;have x0:=h2.x0;have x1:=h2.x1;have y0:=h2.y0;have y1:=h2.y1;rw[A1.out] at c2;rw[A2.out] at d2;go_simp) s0 ?_
   go_simp
   refine zHp 7 (.int .i64 (k:Int)) rfl s0 ?_
   go_simp
   refine zHa 8 (.pointer (some ⟨b2,o2+k*2,none⟩)) rfl (by rintro w2 h2;obtain⟨c0,c1,c2,c3,-⟩:=qbox_all h2.q1;obtain⟨d0,d1,d2,d3,-⟩:=qbox_all h2.q2;have x0:=h2.x0;have x1:=h2.x1;have y0:=h2.y0;have y1:=h2.y1;rw[A1.out] at c2;rw[A2.out] at d2;go_simp) s0 ?_
   go_simp
   refine zHa 9 (.agg #[.string z.1.name,.slice z.1.ao z.1.an z.1.ac]) rfl (by rintro w2 h2;obtain⟨c0,c1,c2,c3,-⟩:=qbox_all h2.q1;obtain⟨d0,d1,d2,d3,-⟩:=qbox_all h2.q2;have x0:=h2.x0;have x1:=h2.x1;have y0:=h2.y0;have y1:=h2.y1;rw[A1.out] at c2;rw[A2.out] at d2;go_simp) s0 ?_
   go_simp
   refine zH1 10 rfl (fun K hK=>?_)
   go_simp
   have hc:=rSameEntry_any u.1 z.1 u.2 z.2 X0 hU2 hZ2
   unfold EV.val EV.cells at hc
   refine hc.mono ?_
   rintro e X1 ⟨rfl,hb1⟩
   have s1:=s0.step hb1
   clear hc
   go_simp
   refine hK _ _ ⟨s1,?_⟩
   clear hK K
   refine zHa 11 (.bool (!sameEntry u.1 u.2 z.1 z.2)) rfl (by rintro w2 h2;obtain⟨c0,c1,c2,c3,-⟩:=qbox_all h2.q1;obtain⟨d0,d1,d2,d3,-⟩:=qbox_all h2.q2;have x0:=h2.x0;have x1:=h2.x1;have y0:=h2.y0;have y1:=h2.y1;rw[A1.out] at c2;rw[A2.out] at d2;go_simp) s1 ?_
   go_simp
   refine wpAnyH_done (by kernel_rfl) ?_ _
   have hbx:=hbd.trans (hb1.mono hbd.size)
   have hb2:=s1.bel
   cases hm:sameEntry u.1 u.2 z.1 z.2 with
   | false=>
    have Hf:Hid (sameEnts c.ents c'.ents=false):=hid (sameEnts_cut c.ents c'.ents (k+1) (by rw[HN.out];exact hm) (by rw[LX.out,LY.out]))
    clear hm
    go_wp2_with fail
    go_ret
    exact⟨by rw[Hs.out,Hf.out];rfl,hb2⟩
   | true=>
    have Hf:Hid (sameEnts (c.ents.take (k+1)) (c'.ents.take (k+1))=true):=hid (by rw[HN.out];exact hm)
    clear hm
    go_wp2_with fail
    go_roundw
    case rel=>exact⟨k+1,HK.out,(by have:=HK.out;go_num),Hf,hbx⟩
    case measure=>have:=HK.out;simp[intOf];omega
  have Hf:Hid (sameEnts c.ents c'.ents=true):=hid (by have:=Ht.out;rw[List.take_of_length_le (by rw[LX.out];omega),List.take_of_length_le (by rw[LY.out];omega)] at this;exact this)
  have hkn2:k=v.en:=by omega
  subst hkn2
  go_wp2_with fail
  go_ret
  exact⟨by rw[Hs.out,Hf.out];rfl,hbel⟩
end Go.Proofs.YtfmmandlmbcncaaGreatDoor.Msg
namespace Go.Proofs.YtfmmandlmbcncaaGreatDoor.Msg
open Go.RowKit Go.Lib Go.Proofs.YtfmmandlmbcncaaGreatDoor.Mem Go.Proofs.YtfmmandlmbcncaaGreatDoor.Utf Go.Proofs.YtfmmandlmbcncaaGreatDoor.Tlv
theorem kpr_row {W W':World}{B n size:Nat}{e:TypeId}{v:Value}{xs:List Value}(hg:W.grownBy W' v.ownBlock)(ho:W.ownsRow B e size v n xs)(he:∀t:TypeId,(t=5∨t=9∨t=106)→e≠t):KeepR W W':=by
 refine⟨hg.size,fun k c t fr ht hk=>(hg.block k (Array.getElem?_eq_some_iff.1 hk).1 (fun e2=>?_)).trans hk⟩
 obtain⟨-,-,cur,h3⟩:=own_blk ho e2.symm
 rw[hk] at h3
 cases h3
 exact he _ ht rfl
end Go.Proofs.YtfmmandlmbcncaaGreatDoor.Msg
namespace Go.Proofs.YtfmmandlmbcncaaGreatDoor.Msg
open Go.RowKit Go.Lib Go.Proofs.YtfmmandlmbcncaaGreatDoor.Mem Go.Proofs.YtfmmandlmbcncaaGreatDoor.Tlv
theorem sliceT_ent:SliceT Tryz.prog 37 124 zeroE.val 2 40:=⟨Tryz.underlying37,by kernel_rfl,rfl,by decide⟩
theorem kpr_set {W:World}{b i:Nat}{cs:Array Value}{t:TypeId}{fr:Nat×Nat}{x:Value}(h:W.heap[b]?=some (.cells cs t fr))(ht:∀t':TypeId,(t'=5∨t'=9∨t'=106)→t≠t'):KeepR W (W.setCell ⟨b,i,none⟩ x):=by
 refine⟨Nat.le_of_eq (World.size_setCell _ _ _).symm,fun k c t' fr' ht' hk=>?_⟩
 have hne:k≠b:=fun e=>by
  subst e
  rw[h] at hk
  cases hk
  exact ht _ ht' rfl
 exact at_other hk hne
def QV.ents (v:QV)(a:Option Addr)(n k:Nat):QV:=⟨v.code,v.yes,a,n,k,v.co,v.cn,v.cc⟩
def EnTy (W:World)(l:List EP):Prop:=∀p∈l,EAt W p.1 p.2∧TyX 106 W p.1.ao p.1.ac
theorem EnTy.kpr {W W':World}{l:List EP}(h:EnTy W l)(hk:KeepR W W'):EnTy W' l:=fun p hp=>⟨⟨rd_kpr (.inr (.inr rfl)) (h p hp).1.a (h p hp).2 hk,(h p hp).1.la⟩,(h p hp).2.kpr (.inr (.inr rfl)) hk⟩
theorem EnTy.snoc {W:World}{l:List EP}{p:EP}(h:EnTy W l)(h1:EAt W p.1 p.2)(h2:TyX 106 W p.1.ao p.1.ac):EnTy W (l++[p]):=by
 intro q hq
 rcases List.mem_append.1 hq with hq | hq
 ·exact h q hq
 rw[List.mem_singleton] at hq;subst hq;exact⟨h1,h2⟩
structure StE (ob:Nat)(v:QV)(q:Nat)(l:List EP)(W:World):Prop where
 ex:∃a k,W.heap[ob]?=some (v.ents a l.length k).box∧W.ownsRow q 124 2 (.slice a l.length k) l.length (enV l)
 ty:EnTy W l
def elE (p:EP):List UInt8:=val 1 (entL p.1 p.2)
def mayE (p:EP):Prop:=mayEntry p.1 p.2=true
theorem elE_pos (p:EP):0<(elE p).length:=by unfold elE;rw[val_len];omega
theorem elE_inj (z z':EP)(r r':List UInt8)(h:mayE z)(h':mayE z')(e:elE z++r=elE z'++r'):r=r':=by
 have l1:=entL_len h
 have l2:=entL_len h'
 exact (val_inj (by decide) (by omega) (by omega) e).2
theorem enV_snoc (l:List EP)(p:EP):enV (l++[p])=enV l++[.string p.1.name,.slice p.1.ao p.1.an p.1.ac]:=by simp[enV,EV.cells]
theorem ent_ans {w w':World}{y:List UInt8}{e:Ending}(h:GivesEo (.int .i64 0) (.int .i64 4) y w e w'):∃(f:Int) (Y:EV) (x:List (ByteArray×ByteArray)),e=.returned (.tuple #[Y.val,.int .i64 f])∧EAt w' Y x∧TyX 106 w' Y.ao Y.ac∧Below w.heap.size w w'∧((f=0∧mayEntry Y x=true∧entL Y x=y)∨(f=4∧NoEnt y)):=by
 obtain⟨hb,⟨Y,x,rfl,h1,h2,h3,h4⟩ | ⟨rfl,n1⟩⟩:=h
 ·exact⟨0,Y,x,rfl,h1,h2,hb,.inl ⟨rfl,h3,h4⟩⟩
 exact⟨4,zeroE,[],rfl,⟨Rd.nil _ _,Nat.zero_le _⟩,fun h=>absurd h (Nat.lt_irrefl 0),hb,.inr ⟨rfl,n1⟩⟩
theorem StE.set {ob g q i:Nat}{v:QV}{l:List EP}{W:World}{cs:Array Value}{x:Value}(h:StE ob v q l W)(hg:W.heap[g]?=some (.cells cs 237)):StE ob v q l (W.setCell ⟨g,i,none⟩ x):=by
 obtain⟨⟨a,k,h1,h2⟩,h3⟩:=h
 refine⟨⟨a,k,at_other h1 (fun e=>?_),own_kept h2 (fun j hj=>Below.heap_setCell _ _ _ _ (fun e=>?_))⟩,h3.kpr (kpr_set hg (fun t ht e=>by rcases ht with rfl|rfl|rfl<;>exact absurd e (by decide)))⟩
 ·rw[e,hg] at h1;cases h1
 obtain⟨-,-,cur,h4⟩:=own_blk h2 hj
 have e:j=g:=e
 rw[e,hg] at h4
 cases h4
set_option maxRecDepth 100000 in
theorem ro1_any (ob q:Nat)(v:QV)(l:List EP)(b:List UInt8)(wr:World)(hob:ob<q)(hst:StE ob v q l wr)(hr:RdS q q ⟨b,false⟩ wr)(hb:b.length≤4194304)(hl:l.length≤4194304) :
  Calls Tryz.prog 230 #[.pointer (some ⟨q,0,none⟩),.pointer (some ⟨ob,0,none⟩)] wr (StepG q [ob] elE mayE 1000 (StE ob v) l b wr):=by
 obtain⟨⟨a,k,ho,hown⟩,hE⟩:=hst
 have T:=took_bytes ⟨b,false⟩ 1 (by decide)
 have hl3:=bytes_le ⟨b,false⟩ 1
 have hby:=rbytes2_any q q ⟨b,false⟩ 1 wr hr (by dsimp only;omega)
 generalize RS.bytes ⟨b,false⟩ 1=y at *
 obtain⟨y,s'⟩:=y
 dsimp only at T hby hl3
 have hqs:q<wr.heap.size:=by obtain⟨_,_,h⟩:=hr;exact h.lt
 have HT:=hid T
 clear T
 go_enter Tryz.func230,Tryz.ntmps230
 go_wp2_with fail
 refine hby.mono ?_
 rintro e W1 ⟨a1,c1,rfl,hrd1,hty1,hr1,hg1⟩
 have hE1:=hE.kpr (kpr_g hr hg1)
 have ho1:W1.heap[ob]?=some (v.ents a l.length k).box:=(hg1.block _ (by omega) (fun e=>by have:=Option.some.inj e;omega)).trans ho
 have own1:W1.ownsRow q 124 2 (.slice a l.length k) l.length (enV l):=own_kept hown (fun k hk=>hg1.block k (own_blk hown hk).2.1 (fun e=>by obtain⟨_,_,cur,h3⟩:=own_blk hown hk;obtain⟨_,_,h⟩:=hr;have h4:=h.at_;rw[←Option.some.inj e,h3] at h4;cases h4))
 have X1:BelX q [ob] wr W1:=(grown_belX hg1 (M:=q) (by omega)).mono (Nat.le_refl _) (fun k hk h=>by rw[List.mem_singleton.1 hk] at h;omega)
 clear hby hE ho hown hr
 go_wp2_with fail
 refine (entOf_any y a1 y.length c1 W1 hrd1 (by omega)).mono ?_
 rintro e W2 hO
 obtain⟨f,Y,xY,rfl,eY,tY,hb2,hans⟩:=ent_ans hO
 have HA:=hid hans
 have hz1:=hg1.size
 clear hO hans hrd1 hty1
 unfold EV.val EV.cells
 go_upto_region 2 with (refine wpList_store_new rfl rfl rfl rfl (by kernel_rfl) rfl (by kernel_rfl) ?_;go_simp)
 generalize hg:W2.alloc _=W3
 have e3:W2.alloc Y.box=W3:=hg
 have hb3':Below W2.heap.size W2 W3:=by rw[←e3];exact (Below.refl _ _).alloc (Nat.le_refl _) _
 have hb3:=hb2.trans (hb3'.mono hb2.size)
 have q3:W3.heap[W2.heap.size]?=some Y.box:=by rw[←e3];show (W2.heap.push _)[W2.heap.size]?=some _;exact Array.getElem?_push_size
 have ho3:=(hb3.block _ (by omega)).trans ho1
 have own3:=own_later own1 hb3
 have hr3:=hr1.later hb3
 have hE3:=(hE1.kpr (KeepR.of_below hb3)).snoc (p:=(Y,xY)) (eY.later hb3') (tY.kpr (.inr (.inr rfl)) (KeepR.of_below hb3'))
 have X3:BelX q [ob] wr W3:=X1.trans ((BelX.of_below hb3 [ob]).mono (by omega) (fun _ hk _=>hk))
 have z3:q≤W3.heap.size:=Nat.le_trans (Nat.le_of_lt hqs) (Nat.le_trans hz1 hb3.size)
 clear hg e3 hb3' hb3 hb2 ho1 own1 hr1 hE1 eY tY X1 hg1
 generalize W2.heap.size=yb at *
 obtain⟨c0,c1,c2,c3,c4⟩:=qbox_all ho3
 dsimp only[QV.ents] at c0 c1 c2 c3
 obtain⟨g0,g1,-⟩:=ebox_all q3
 go_upto_region 3 with (at_builtin;refine wpList_lit _ rfl (.tmp 13) (.tmp 15) 37 rfl q 124 zeroE.val 2 40 sliceT_ent (by decide) (.slice a l.length k) l.length (enV l) rfl own3 1 [.string Y.name,.slice Y.ao Y.an Y.ac] rfl rfl (fun x hx=>by simp at hx;rcases hx with rfl|rfl<;>rfl) z3 (by omega) ?_;intro a4 k4 W4 own4 hg4 hb4 _;have ho4:W4.heap[ob]?=some (v.ents a l.length k).box:=(hb4.block _ hob).trans ho3;obtain⟨d0,d1,d2,d3,d4⟩:=qbox_all ho4;dsimp only[QV.ents] at d0 d1 d2 d3)
 have hba:Below W3.heap.size W3 (W3.alloc (.cells #[.string Y.name,.slice Y.ao Y.an Y.ac] 124)):=(Below.refl _ _).alloc (Nat.le_refl _) _
 have owna:=own_later own3 hba
 have hr4:RdS q q s' W4:=rds_row (hr3.later hba) hg4 owna (by decide) (by decide)
 have hE4:=hE3.kpr ((KeepR.of_below hba).trans (kpr_row hg4 owna (fun t ht e=>by rcases ht with rfl|rfl|rfl<;>exact absurd e (by decide))))
 have X4:BelX q [ob] wr W4:=X3.trans (BelX.of_below hb4 [ob])
 have ho5:(W4.setCell ⟨ob,2,none⟩ (.slice a4 (l.length+1) k4)).heap[ob]?=some (v.ents a4 (l.length+1) k4).box:=(at_set ho4).trans (by kernel_rfl)
 have hr5:RdS q q s' (W4.setCell ⟨ob,2,none⟩ (.slice a4 (l.length+1) k4)):=hr4.grown (grown_set _ _ _ _) ho4 (fun c fr h=>by cases h) (by omega)
 have hE5:=hE4.kpr (kpr_set (i:=2) (x:=.slice a4 (l.length+1) k4) ho4 (fun t ht e=>by rcases ht with rfl|rfl|rfl<;>exact absurd e (by decide)))
 have X5:BelX q [ob] wr (W4.setCell ⟨ob,2,none⟩ (.slice a4 (l.length+1) k4)):=X4.set _ _ _ (.inl (by simp))
 have own5:(W4.setCell ⟨ob,2,none⟩ (.slice a4 (l.length+1) k4)).ownsRow q 124 2 (.slice a4 (l.length+1) k4) (l.length+1) (enV (l++[(Y,xY)])):=by
  rw[enV_snoc]
  exact own_kept own4 (fun k hk=>Below.heap_setCell _ _ _ _ (by have:=(own_blk own4 hk).1;show k≠ob;omega))
 clear hba owna hr4 hE4 X4 ho4 hr3 hE3 X3 ho3 own3 own4 hg4 hb4 c0 c1 c2 c3 c4 d0 d1 d2 d3 d4 q3 z3 g0 g1
 generalize W4.setCell _ _=W5 at *
 obtain⟨c0,c1,c2,c3,c4⟩:=qbox_all ho5
 dsimp only[QV.ents] at c0 c1 c2 c3
 have hG:Hid (∀bb:Bool,(bb=true→l.length<1000∧mayEntry Y xY=true∧entL Y xY=y)→(bb=false→NoEnt y∨1000≤l.length)→StepG q [ob] elE mayE 1000 (StE ob v) l b wr (.returned (.bool bb)) W5):=hid (by
  intro bb h1 h2
  have eln:(l++[(Y,xY)]).length=l.length+1:=by simp
  refine⟨bb,s',(Y,xY),rfl,hr5,⟨⟨a4,k4,by rw[eln];exact ho5,by rw[eln];exact own5⟩,hE5⟩,X5,HT.out.le,fun hb hs=>?_,fun h=>?_⟩
  ·obtain⟨k1,k2,k3⟩:=h1 hb
   obtain⟨-,k4,-⟩:=HT.out.yes hs
   refine⟨k1,?_,k2⟩
   unfold elE
   dsimp only at k4 ⊢
   rw[k3];exact k4
  have hno:s'.bad=true→∀z rest,mayE z→b≠elE z++rest:=fun hs z rest hz=>by
   rcases HT.out.no hs with h | h
   ·cases h
   exact h (entL z.1 z.2) rest (by have:=entL_len hz;omega)
  cases hs:s'.bad with
  | true=>exact .inr (hno hs)
  | false=>
   rw[hs] at h
   rcases h with rfl | h
   ·rcases h2 rfl with h3 | h3
    ·obtain⟨-,k4,k5⟩:=HT.out.yes hs
     refine .inr (fun z rest hz e=>?_)
     rw[show b=val 1 y++s'.l from k4] at e
     exact h3 z.1 z.2 hz (val_inj (by decide) k5 (by have:=entL_len hz;omega) e).1.symm
    exact .inl h3
   cases h)
 clear ho5 hr5 hE5 X5 own5 HT
 rcases HA.out with ⟨rfl,mY,lY⟩ | ⟨rfl,nY⟩
 ·have HM:=hid (And.intro mY lY)
  clear mY lY
  by_cases h8:l.length<1000
  ·have f0:decide ((l.length:Int)+1≤1000)=true:=decide_eq_true (by omega)
   go_wp2_with fail
   go_ret
   exact hG.out true (fun _=>⟨h8,HM.out.1,HM.out.2⟩) (fun h=>by cases h)
  have f0:decide ((l.length:Int)+1≤1000)=false:=decide_eq_false (by omega)
  go_wp2_with fail
  go_ret
  exact hG.out false (fun h=>by cases h) (fun _=>.inr (by omega))
 have HM:=hid nY
 clear nY
 go_wp2_with fail
 go_ret
 exact hG.out false (fun h=>by cases h) (fun _=>.inl HM.out)
theorem elist_any (B g ob:Nat)(s:RS)(t:UInt8)(v:QV)(W:World)(ht:0<t.toNat)(hr:RdS B g s W)(hl:s.l.length≤100000000)(ho:W.heap[ob]?=some (v.ents none 0 0).box)(hg:g≠ob) :
  Calls Tryz.prog 207 #[.pointer (some ⟨g,0,none⟩),.int .u8 (t.toNat:Int),.func (.func 230) #[] #[.pointer (some ⟨ob,0,none⟩)]] W (GivesGl B g t s [ob] elE mayE 1000 (StE ob v) W):=by
 have hls:=(Array.getElem?_eq_some_iff.1 ho).1
 refine glist_any B g s t 230 #[.pointer (some ⟨ob,0,none⟩)] W ht hr hl (enters_of Tryz.func230 (by kernel_rfl) rfl) [ob] (fun k hk=>?_) elE mayE 1000 elE_inj elE_pos (StE ob v) (fun q w1 h=>?_) (fun q l wx cs x _ h1 h2=>h1.set h2) (fun q l b wr hq h1 h2 h3 h4 _=>ro1_any ob q v l b wr (by omega) h1 h2 h3 h4)
 ·rw[List.mem_singleton.1 hk]
  exact⟨fun e=>hg e.symm,_,ho,fun c fr h=>by cases h⟩
 exact⟨⟨none,0,(h.block _ hls (fun e=>hg (Option.some.inj e).symm)).trans ho,World.ownsRow_nil _ _ _ _⟩,fun p hp=>by cases hp⟩
end Go.Proofs.YtfmmandlmbcncaaGreatDoor.Msg
