/-
  A part of the proof.
-/
import Derived.Test.YtfmmandlmbcncaaGreatDoorKbbh
import Derived.Test.YtfmmandlmbcncaaGreatDoorKbbk
import Derived.Test.YtfmmandlmbcncaaGreatDoorKbab
import Derived.Test.YtfmmandlmbcncaaGreatDoorKban
import Derived.Test.YtfmmandlmbcncaaGreatDoorKbak
import Derived.Test.YtfmmandlmbcncaaGreatDoorKbbn
import Derived.Test.YtfmmandlmbcncaaGreatDoorKbbf
set_option maxHeartbeats 40000000
namespace Go.Proofs.YtfmmandlmbcncaaGreatDoor.Msg
open Go.RowKit Go.Lib Go.Proofs.YtfmmandlmbcncaaGreatDoor.Mem Go.Proofs.YtfmmandlmbcncaaGreatDoor.Tlv
theorem sliceT_rq:SliceT Tryz.prog 56 55 zeroR.val 9 136:=⟨Tryz.underlying56,by kernel_rfl,rfl,by decide⟩
theorem rq_one (r:RV):∀u∈r.cells.toList,u.oneCell'=true:=by
 intro u hu
 simp only[RV.cells,List.mem_cons,List.not_mem_nil,or_false] at hu
 rcases hu with rfl|rfl|rfl|rfl|rfl|rfl|rfl|rfl|rfl<;>rfl
def RqTy (W:World)(l:List RP):Prop:=∀p∈l,OpAt W p.1.op p.2∧OpTy W p.1.op∧U64R p.1
theorem RqTy.kpr {W W':World}{l:List RP}(h:RqTy W l)(hk:KeepR W W'):RqTy W' l:=fun p hp=>⟨(h p hp).1.kpr (h p hp).2.1 hk,(h p hp).2.1.kpr hk,(h p hp).2.2⟩
theorem RqTy.snoc {W:World}{l:List RP}{p:RP}(h:RqTy W l)(h1:OpAt W p.1.op p.2)(h2:OpTy W p.1.op)(h3:U64R p.1):RqTy W (l++[p]):=by
 intro q hq
 rcases List.mem_append.1 hq with hq | hq
 ·exact h q hq
 rw[List.mem_singleton] at hq;subst hq;exact⟨h1,h2,h3⟩
structure StP (ob pb:Nat)(o:MV)(q:Nat)(l:List RP)(W:World):Prop where
 ex:∃a k,W.heap[ob]?=some (MV.box { o with lo:=a,ln:=l.length,lc:=k })∧W.ownsRow q 55 9 (.slice a l.length k) l.length (rpV l)
 pb:W.heap[pb]?=some (pBox ob)
 ty:RqTy W l
theorem rq_not_kpr:∀t:TypeId,(t=5∨t=9∨t=106)→55≠t:=fun t ht e=>by rcases ht with rfl|rfl|rfl<;>exact absurd e (by decide)
theorem msg_not_kpr:∀t:TypeId,(t=5∨t=9∨t=106)→59≠t:=fun t ht e=>by rcases ht with rfl|rfl|rfl<;>exact absurd e (by decide)
theorem rdr_not_kpr:∀t:TypeId,(t=5∨t=9∨t=106)→237≠t:=fun t ht e=>by rcases ht with rfl|rfl|rfl<;>exact absurd e (by decide)
theorem StP.set {ob pb g q i:Nat}{o:MV}{l:List RP}{W:World}{cs:Array Value}{x:Value}(h:StP ob pb o q l W)(hg:W.heap[g]?=some (.cells cs 237)):StP ob pb o q l (W.setCell ⟨g,i,none⟩ x):=by
 obtain⟨⟨a,k,h1,h2⟩,h3,h4⟩:=h
 refine⟨⟨a,k,at_other h1 (fun e=>?_),own_kept h2 (fun j hj=>Below.heap_setCell _ _ _ _ (fun e=>?_))⟩,at_other h3 (fun e=>?_),h4.kpr (kpr_set hg rdr_not_kpr)⟩
 ·rw[e,hg] at h1;cases h1
 ·obtain⟨-,-,cur,h5⟩:=own_blk h2 hj
  have e:j=g:=e
  rw[e,hg] at h5
  cases h5
 rw[e,hg] at h3;cases h3
structure LpS (q ob pb yb:Nat)(o:MV)(s':RS)(wr:World)(l:List RP)(a:Option Addr)(kc:Nat)(r:RV)(x:OC)(W:World):Prop where
 X:BelX q [ob] wr W
 qo:W.heap[ob]?=some (MV.box { o with lo:=a,ln:=l.length,lc:=kc })
 own:W.ownsRow q 55 9 (.slice a l.length kc) l.length (rpV l)
 ty:RqTy W l
 rd:RdS q q s' W
 qy:W.heap[yb]?=some r.box
 qp:W.heap[pb]?=some (pBox ob)
 oy:OpAt W r.op x
 ry:OpTy W r.op
 uy:U64R r
 hM:ob<q∧pb<q∧q≤W.heap.size
 hyb:∀j,(Value.slice a l.length kc).ownBlock=some j→j<yb
section
variable {q ob pb yb:Nat} {o:MV} {s':RS} {wr:World} {l:List RP} {a:Option Addr} {kc:Nat} {r:RV} {x:OC} {W W':World}
theorem LpS.later (h:LpS q ob pb yb o s' wr l a kc r x W)(hb:Below W.heap.size W W'):LpS q ob pb yb o s' wr l a kc r x W':=
 have hk:=KeepR.of_below hb
 ⟨h.X.trans ((BelX.of_below hb [ob]).mono h.hM.2.2 (fun _ hk _=>hk)),mbox_step h.qo hb,own_later h.own hb,h.ty.kpr hk,h.rd.later hb,(hb.block _ (Array.getElem?_eq_some_iff.1 h.qy).1).trans h.qy,(hb.block _ (Array.getElem?_eq_some_iff.1 h.qp).1).trans h.qp,h.oy.later hb,h.ry.kpr hk,h.uy,⟨h.hM.1,h.hM.2.1,Nat.le_trans h.hM.2.2 hb.size⟩,h.hyb⟩
def LpC (yb pb ob:Nat)(r:RV)(v:Value)(W:World):Prop:=W.heap[yb]?=some r.box∧W.cell? ⟨pb,0,none⟩=some (.pointer (some ⟨ob,0,none⟩))∧W.cell? ⟨ob,23,none⟩=some v
theorem LpS.cells (h:LpS q ob pb yb o s' wr l a kc r x W):LpC yb pb ob r (.slice a l.length kc) W:=⟨h.qy,by have:=h.qp;simp[World.cell?,this,pBox],(McAt.of h.qo).c23⟩
theorem LpS.app {a4:Option Addr}{k4:Nat}(h:LpS q ob pb yb o s' wr l a kc r x W)(h4:W'.ownsRow q 55 9 (.slice a4 (l.length+1) k4) (l.length+1) (rpV l++(RV.cells r).toList))(hg:W.grownBy W' (Value.slice a l.length kc).ownBlock)(hb:Below q W W') :
  LpC yb pb ob r (.slice a l.length kc) W'∧W'.frozen? ⟨ob,23,none⟩=false∧StP ob pb o q (l++[(r,x)]) (W'.setCell ⟨ob,23,none⟩ (.slice a4 (l.length+1) k4))∧RdS q q s' (W'.setCell ⟨ob,23,none⟩ (.slice a4 (l.length+1) k4))∧BelX q [ob] wr (W'.setCell ⟨ob,23,none⟩ (.slice a4 (l.length+1) k4)) ∧
  (W'.setCell ⟨ob,23,none⟩ (.slice a4 (l.length+1) k4)).cell? ⟨pb,0,none⟩=some (.pointer (some ⟨ob,0,none⟩))∧(W'.setCell ⟨ob,23,none⟩ (.slice a4 (l.length+1) k4)).cell? ⟨ob,23,none⟩=some (.slice a4 (l.length+1) k4):=by
 obtain⟨m1,m2,m3⟩:=h.hM
 have hk:=kpr_row hg h.own rq_not_kpr
 have q1:W'.heap[ob]?=some (MV.box { o with lo:=a,ln:=l.length,lc:=kc }):=(hb.block _ m1).trans h.qo
 have p1:W'.heap[pb]?=some (pBox ob):=(hb.block _ m2).trans h.qp
 have y1:W'.heap[yb]?=some r.box:=(hg.block _ (Array.getElem?_eq_some_iff.1 h.qy).1 (fun e=>by have:=h.hyb _ e.symm;omega)).trans h.qy
 have r1:RdS q q s' W':=rds_row h.rd hg h.own (by decide) (by decide)
 have t1:=(h.ty.snoc (p:=(r,x)) h.oy h.ry h.uy).kpr hk
 have hpo:pb≠ob:=fun e=>by rw[e,q1] at p1;cases p1
 have q2:(W'.setCell ⟨ob,23,none⟩ (.slice a4 (l.length+1) k4)).heap[ob]?=some (MV.box { o with lo:=a4,ln:=l.length+1,lc:=k4 }):=(at_set q1).trans (by kernel_rfl)
 have p2:=at_other (b:=ob) (i:=23) (x:=.slice a4 (l.length+1) k4) p1 hpo
 have eln:(l++[(r,x)]).length=l.length+1:=by simp
 refine⟨⟨y1,by simp[World.cell?,p1,pBox],(McAt.of q1).c23⟩,mfrozen q1 23,⟨⟨a4,k4,by rw[eln];exact q2,?_⟩,p2,t1.kpr (kpr_set q1 msg_not_kpr)⟩,r1.grown (grown_set _ _ _ _) q1 (RdM.not_u8 rowT_not_msg) (by omega),(h.X.trans (BelX.of_below hb [ob])).set _ _ _ (.inl (by simp)),by simp[World.cell?,p2,pBox],(McAt.of q2).c23⟩
 rw[eln,rpV_snoc]
 exact own_kept h4 (fun j hj=>Below.heap_setCell _ _ _ _ (by have:=(own_blk h4 hj).1;show j≠ob;omega))
end
theorem LpC.cell {yb pb ob:Nat}{r:RV}{v:Value}{W:World}(h:LpC yb pb ob r v W):W.heap[yb]?=some r.box∧W.cell? ⟨pb,0,none⟩=some (.pointer (some ⟨ob,0,none⟩))∧W.cell? ⟨ob,23,none⟩=some v:=h
set_option maxRecDepth 100000 in
theorem ro108_any (ob pb q:Nat)(o:MV)(l:List RP)(b:List UInt8)(wr:World)(hob:ob<q)(hpb:pb<q)(hst:StP ob pb o q l wr)(hr:RdS q q ⟨b,false⟩ wr)(hb:b.length≤4194304)(hl:l.length≤4194304) :
  Calls Tryz.prog 208 #[.pointer (some ⟨q,0,none⟩),.pointer (some ⟨pb,0,none⟩)] wr (StepG q [ob] elQ mayQ 4096 (StP ob pb o) l b wr):=by
 have hmo:Tryz.prog.follows .mixedOrders=true:=by kernel_rfl
 obtain⟨⟨a,k,ho,hown⟩,hp,hE⟩:=hst
 have T:=took_bytes ⟨b,false⟩ 1 (by decide)
 have hl3:=bytes_le ⟨b,false⟩ 1
 have hby:=rbytes2_any q q ⟨b,false⟩ 1 wr hr (by dsimp only;omega)
 generalize RS.bytes ⟨b,false⟩ 1=y at *
 obtain⟨y,s'⟩:=y
 dsimp only at T hby hl3
 have hqs:q<wr.heap.size:=by obtain⟨_,_,h⟩:=hr;exact h.lt
 have HT:=hid T
 clear T
 go_enter Tryz.func208,Tryz.ntmps208
 go_wp2_with fail
 refine hby.mono ?_
 rintro e W1 ⟨a1,c1,rfl,hrd1,hty1,hr1,hg1⟩
 have hE1:=hE.kpr (kpr_g hr hg1)
 have ho1:=(hg1.block _ (by omega) (fun e=>by have:=Option.some.inj e;omega)).trans ho
 have hp1:=(hg1.block _ (by omega) (fun e=>by have:=Option.some.inj e;omega)).trans hp
 have own1:W1.ownsRow q 55 9 (.slice a l.length k) l.length (rpV l):=own_kept hown (fun k hk=>hg1.block k (own_blk hown hk).2.1 (fun e=>by obtain⟨_,_,cur,h3⟩:=own_blk hown hk;obtain⟨_,_,h⟩:=hr;have h4:=h.at_;rw[←Option.some.inj e,h3] at h4;cases h4))
 have X1:BelX q [ob] wr W1:=(grown_belX hg1 (M:=q) (by omega)).mono (Nat.le_refl _) (fun k hk h=>by rw[List.mem_singleton.1 hk] at h;omega)
 have hz1:=hg1.size
 clear hby hE ho hp hown hr hg1
 go_wp2_with fail
 refine (requestOf_any y a1 y.length c1 W1 hrd1 (by omega)).mono ?_
 rintro e W2 hO
 obtain⟨ok,r,x,rfl,oY,tY,uY,hb2,hans⟩:=req_ansP hO
 have HA:=hid hans
 clear hO hans hrd1 hty1
 unfold RV.val RV.cells
 go_upto_region 2 with (refine wpList_store_new rfl rfl rfl rfl (by kernel_rfl) rfl (by kernel_rfl) ?_;go_simp)
 generalize hg:W2.alloc _=W3
 have e3:W2.alloc r.box=W3:=hg
 have hb3':Below W2.heap.size W2 W3:=by rw[←e3];exact (Below.refl _ _).alloc (Nat.le_refl _) _
 have hb3:=hb2.trans (hb3'.mono hb2.size)
 have q3:W3.heap[W2.heap.size]?=some r.box:=by rw[←e3];exact at_new _ _
 have s3:LpS q ob pb W2.heap.size o s' wr l a k r x W3:=⟨X1.trans ((BelX.of_below hb3 [ob]).mono (by omega) (fun _ hk _=>hk)),mbox_step ho1 hb3,own_later own1 hb3,hE1.kpr (KeepR.of_below hb3),hr1.later hb3,q3,(hb3.block _ (Array.getElem?_eq_some_iff.1 hp1).1).trans hp1,oY.later hb3',tY.kpr (KeepR.of_below hb3'),uY,⟨hob,hpb,by have:=hb3.size;omega⟩,fun j hj=>by have:=(own_blk own1 hj).2.1;have:=hb2.size;omega⟩
 clear hg e3 hb3' hb3 hb2 ho1 hp1 own1 hr1 hE1 X1 q3 oY tY uY
 generalize W2.heap.size=yb at *
 refine wp_region_T (k:=10) (S:=LpC yb pb ob r (.slice a l.length k)) hmo ?_
 change wpAnyT _ _ _ _ _ _ _ _ _ (World.drew W3)
 have hd:Below W3.heap.size W3 W3.drew:=(Below.refl _ _).drew
 have s0:=s3.later hd
 generalize World.drew W3=X0 at *
 clear hd s3
 have t0:=s0.cells
 refine zTa 0 (.pointer (some ⟨ob,0,none⟩)) rfl (by rintro w2 h2;obtain⟨cc,cd,ce⟩:=h2.cell;go_simp) t0 ?_
 go_simp
 refine zTa 1 (.pointer (some ⟨ob,0,none⟩)) rfl (by rintro w2 h2;obtain⟨cc,cd,ce⟩:=h2.cell;go_simp) t0 ?_
 go_simp
 refine zTp 2 (.pointer (some ⟨ob,0,none⟩)) rfl t0 ?_
 go_simp
 refine zTp 3 (.pointer (some ⟨ob,23,none⟩)) rfl t0 ?_
 go_simp
 refine zTa 4 (.slice a l.length k) rfl (by rintro w2 h2;obtain⟨cc,cd,ce⟩:=h2.cell;go_simp) t0 ?_
 go_simp
 refine zTa 5 (.agg #[.int .u64 r.cl,.int .u64 r.nu,.int .i64 r.op.k,.string r.op.name,.string r.op.to,.slice r.op.ao r.op.an r.op.ac,.slice r.op.bo r.op.bn r.op.bc,.slice r.op.co r.op.cn r.op.cc,.int .i64 r.op.n]) rfl (by rintro w2 h2;obtain⟨cc,cd,ce⟩:=h2.cell;exact exec_load_row (cs:=r.cells) cc rfl rfl (by kernel_rfl) (by kernel_rfl)) t0 ?_
 go_simp
 refine zT1 6 rfl (fun K hK=>?_)
 go_simp
 obtain⟨V,hV⟩:∃V,X0.alloc (.cells (RV.cells r) 55)=V:=⟨_,rfl⟩
 have hbV:Below X0.heap.size X0 V:=by rw[←hV];exact (Below.refl _ _).alloc (Nat.le_refl _) _
 have rV:Rd V 9 (some ⟨X0.heap.size,0,none⟩) 1 1 (RV.cells r).toList:=by rw[←hV];exact Rd.new X0 (RV.cells r).toList 55 (0,0) 9 1 rfl (by unfold maxLen;omega)
 have sV:=s0.later hbV
 have t1:=sV.cells
 unfold RV.cells at hV
 rw[hV]
 refine hK _ _ ⟨.inr t1,?_⟩
 clear hK K hV hbV s0 t0
 refine zT1 7 rfl (fun K hK=>?_)
 refine step_app2 rfl (.tmp 16) (.tmp 18) 56 rfl q 55 zeroR.val 9 136 sliceT_rq (.slice a l.length k) l.length (rpV l) rfl sV.own (some ⟨X0.heap.size,0,none⟩) 1 1 (RV.cells r).toList rfl rV (rq_one r) (by unfold maxLen;omega) (by omega) sV.hM.2.2 ?_
 intro a4 k4 V4 own4 hg4 hb4 _
 obtain⟨p1,p2,p3,p4,p5,c8,c9⟩:=sV.app own4 hg4 hb4
 refine hK _ _ ⟨.inr p1,?_⟩
 clear hK K own4 hg4 hb4 rV sV t1
 refine zTp 8 (.pointer (some ⟨ob,0,none⟩)) rfl p1 ?_
 go_simp
 refine zTp 9 (.pointer (some ⟨ob,23,none⟩)) rfl p1 ?_
 go_simp
 have cO:=p1.cell.2.2
 refine wpAnyT_last (by kernel_rfl) (by kernel_rfl) ?_
 refine zA1 10 rfl (fun K hK=>?_)
 go_simp
 refine hK _ _ ?_
 clear hK K cO
 refine wpAny_done (by kernel_rfl) ?_ _
 have P:=hid (And.intro p3 (And.intro p4 p5))
 clear p1 p2 p3 p4 p5
 generalize World.setCell _ ⟨ob,23,none⟩ _=W5 at *
 have hG:Hid (∀bb:Bool,(bb=true→l.length<4096∧ok=true)→(bb=false→ok=false∨4096≤l.length)→StepG q [ob] elQ mayQ 4096 (StP ob pb o) l b wr (.returned (.bool bb)) W5):=hid (by
  intro bb h1 h2
  refine⟨bb,s',(r,x),rfl,P.out.2.1,P.out.1,P.out.2.2,HT.out.le,fun hb hs=>?_,fun h=>?_⟩
  ·obtain⟨k1,k2⟩:=h1 hb
   obtain⟨-,k4,k5⟩:=HT.out.yes hs
   rcases HA.out with ⟨-,m1,m2⟩ | ⟨m0,-⟩
   ·obtain⟨n1,n2,n3⟩:=P.out.1.ty (r,x) (by simp)
    refine⟨k1,?_,⟨m1,by dsimp only;rw[m2];exact k5,n3,_,n1⟩⟩
    unfold elQ
    dsimp only at k4 ⊢
    rw[m2];exact k4
   rw[m0] at k2;cases k2
  have hno:s'.bad=true→∀z rest,mayQ z→b≠elQ z++rest:=fun hs z rest hz=>by
   rcases HT.out.no hs with h | h
   ·cases h
   exact h (reqL z.1 (opL z.1.op z.2)) rest hz.len
  cases hs:s'.bad with
  | true=>exact .inr (hno hs)
  | false=>
   rw[hs] at h
   rcases h with rfl | h
   ·rcases h2 rfl with h3 | h3
    ·rcases HA.out with ⟨m0,-⟩ | ⟨-,nY⟩
     ·rw[m0] at h3;cases h3
     obtain⟨-,k4,k5⟩:=HT.out.yes hs
     refine .inr (fun z rest hz e=>?_)
     rw[show b=val 1 y++s'.l from k4] at e
     obtain⟨X,hX⟩:=hz.at_
     exact nY X z.1 z.2 hX hz.may hz.u (val_inj (by decide) k5 hz.len e).1.symm
    exact .inl h3
   cases h)
 clear P HT HA
 cases ok with
 | true=>
  by_cases h8:l.length<4096
  ·have f0:decide ((l.length:Int)+1≤4096)=true:=decide_eq_true (by omega)
   go_wp2_with fail
   go_ret
   exact hG.out true (fun _=>⟨h8,by first | rfl | trivial⟩) (fun h=>by cases h)
  have f0:decide ((l.length:Int)+1≤4096)=false:=decide_eq_false (by omega)
  go_wp2_with fail
  go_ret
  exact hG.out false (fun h=>by cases h) (fun _=>.inr (by omega))
 | false=>
  go_wp2_with fail
  go_ret
  exact hG.out false (fun h=>by cases h) (fun _=>.inl (by first | rfl | trivial))
set_option maxRecDepth 100000 in
theorem take108 (B g ob:Nat)(w:World)(o:MV)(c:MC)(s:RS)(W:World)(h:RdM B g ob w o c s W)(hl:s.l.length≤100000000)(hz:o.lo=none∧o.ln=0∧o.lc=0):Calls Tryz.prog 206 #[.pointer (some ⟨g,0,none⟩),.pointer (some ⟨ob,0,none⟩)] W (Takes B g ob w 108 o c s W):=by
 have hb:Below W.heap.size W (W.alloc (pBox ob)):=(Below.refl _ _).alloc (Nat.le_refl _) _
 have hp:(W.alloc (pBox ob)).heap[W.heap.size]?=some (pBox ob):=at_new _ _
 have h1:=h.later hb
 obtain⟨l1,l2⟩:=h.lt
 have hgb:W.heap.size≠g:=by omega
 unfold pBox at hb hp h1
 go_enter Tryz.func206,Tryz.ntmps206
 go_upto_region 1 with fail
 generalize hg:W.alloc _=W1 at *
 have hp1:W1.heap[W.heap.size]?=some (pBox ob):=hp
 clear hg hp
 have hno:∀q w1,W1.grownBy w1 (some g)→StP ob W.heap.size o q [] w1:=fun q w1 hgw=>by
  have q1:=(hgw.block _ h1.lt.2 (fun e=>h.ne (Option.some.inj e).symm)).trans h1.q
  refine⟨⟨none,0,?_,World.ownsRow_nil _ _ _ _⟩,(hgw.block _ (Array.getElem?_eq_some_iff.1 hp1).1 (fun e=>hgb (Option.some.inj e))).trans hp1,fun p hp=>by cases hp⟩
  have e:({ o with lo:=none,ln:=([]:List RP).length,lc:=0 }:MV)=o:=by
   obtain⟨z1,z2,z3⟩:=hz
   cases o
   dsimp only at z1 z2 z3
   subst z1 z2 z3
   rfl
  rw[e];exact q1
 have hli:=glist_any B g s 13 208 #[.pointer (some ⟨W.heap.size,0,none⟩)] W1 (by decide) h1.rd hl (enters_of Tryz.func208 (by kernel_rfl) rfl) [ob] (fun k hk=>by
  rw[List.mem_singleton.1 hk]
  exact⟨fun e=>h.ne e.symm,_,h1.q,RdM.not_u8 rowT_not_msg⟩) elQ mayQ 4096 elQ_inj elQ_pos (StP ob W.heap.size o) hno (fun q l wx cs v _ k1 k2=>k1.set k2) (fun q l b wr hq k1 k2 k3 k4 _=>ro108_any ob W.heap.size q o l b wr (Nat.lt_of_lt_of_le h1.lt.2 hq) (Nat.lt_of_lt_of_le (Array.getElem?_eq_some_iff.1 hp1).1 hq) k1 k2 k3 k4)
 have H:=hid h
 have H1:=hid h1
 clear h h1 hno hz hp1 hgb
 go_wp2_with fail
 refine hli.mono ?_
 rintro e W2 ⟨⟨r9,rfl⟩,s',q,l,hr2,hq,hst,hX,hln,T⟩
 have HH:Hid (Takes B g ob w 108 o c s W (.returned (.tuple #[])) W2):=hid (by
  obtain⟨⟨a,k,qo,own⟩,-,ty⟩:=hst
  have h1:=H1.out
  have hk:KeepM W1 W2:=KeepM.of_belX hX (fun k hk=>by
   simp only[List.mem_cons,List.not_mem_nil,or_false] at hk
   rcases hk with rfl|rfl
   ·obtain⟨_,_,hr⟩:=h1.rd
    exact⟨_,hr.at_,fun c t fr ht e=>by cases e;exact rowT_not_rdr ht⟩
   exact⟨_,h1.q,fun c t fr ht e=>by cases e;exact rowT_not_msg ht⟩)
  have A:=h1.at_.kpm h1.ty hk
  have Y:=h1.ty.kpm hk
  have S:StepX 108 s (setF 108 o { o with lo:=a,ln:=l.length,lc:=k }) (setC 108 c { c with log:=l }) s':=step_logP T rfl
  refine⟨rfl,(BelX.of_below hb [g,ob]).trans (hX.mono hb.size (fun _ hk _=>hk)),{ o with lo:=a,ln:=l.length,lc:=k },{ c with log:=l },s',h1.turn hX hr2 qo ⟨A.rq,A.rs,A.sn,⟨Rd.of_own_slice own,fun p hp=>(ty p hp).1⟩,A.se,A.ls,A.lh⟩ ⟨h1.u.vi,h1.u.no,h1.u.cl,h1.u.nu,h1.u.at_,h1.u.cm,h1.u.bs,h1.u.nc,h1.u.rq,fun p hp=>(ty p hp).2.2,h1.u.seen⟩ ⟨Y.rq,Y.rs,Y.sn,TyX.of_own own,fun p hp=>(ty p hp).2.1,Y.ho⟩ h1.fr (fun e=>⟨(T.yes e).2.2.2.1,(h1.cnt (T.yes e).1).2⟩),S⟩)
 clear hst hr2 hq hX hln T H H1 hb hli
 go_wp2_with fail
 refine bodyPost_end (results_none rfl _ _ _) rfl ?_
 exact HH.out
end Go.Proofs.YtfmmandlmbcncaaGreatDoor.Msg
