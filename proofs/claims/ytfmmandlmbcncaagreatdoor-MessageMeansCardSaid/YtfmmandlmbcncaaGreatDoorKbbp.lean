/-
  A part of the proof.
-/
import Derived.Deep.CutBlock
import Derived.Deep.CutRange
import Derived.Test.YtfmmandlmbcncaaGreatDoorKbbm
import Derived.Test.YtfmmandlmbcncaaGreatDoorKbbo
import Derived.Test.YtfmmandlmbcncaaGreatDoorKbbf
import Derived.Test.YtfmmandlmbcncaaGreatDoorKban
import Derived.Test.YtfmmandlmbcncaaGreatDoorKbab
set_option maxHeartbeats 40000000
namespace Go.Proofs.YtfmmandlmbcncaaGreatDoor.Msg
open Go.RowKit Go.Lib Go.Proofs.YtfmmandlmbcncaaGreatDoor.Mem Go.Proofs.YtfmmandlmbcncaaGreatDoor.Tlv
theorem u64T:SliceT Tryz.prog 57 22 (.int .u64 0) 1 8:=⟨Tryz.underlying57,by kernel_rfl,rfl,by decide⟩
section
variable {B M ob sb:Nat} {o:MV} {W1:World} {y:List UInt8} {l:List Nat} {a:Option Addr} {kc:Nat} {q:RS} {W W':World}
end
structure StN (ob pb:Nat)(o:MV)(q:Nat)(l:List Nat)(W:World):Prop where
 ex:∃a k,W.heap[ob]?=some (MV.box { o with ho:=a,hn:=l.length,hc:=k })∧W.ownsRow q 22 1 (.slice a l.length k) l.length (u64V l)
 pb:W.heap[pb]?=some (pBox ob)
 u:∀n∈l,n<18446744073709551616
theorem StN.set {ob pb g q i:Nat}{o:MV}{l:List Nat}{W:World}{cs:Array Value}{x:Value}(h:StN ob pb o q l W)(hg:W.heap[g]?=some (.cells cs 237)):StN ob pb o q l (W.setCell ⟨g,i,none⟩ x):=by
 obtain⟨⟨a,k,h1,h2⟩,h3,h4⟩:=h
 refine⟨⟨a,k,at_other h1 (fun e=>?_),own_kept h2 (fun j hj=>Below.heap_setCell _ _ _ _ (fun e=>?_))⟩,at_other h3 (fun e=>?_),h4⟩
 ·rw[e,hg] at h1;cases h1
 ·obtain⟨-,-,cur,h5⟩:=own_blk h2 hj
  have e:j=g:=e
  rw[e,hg] at h5
  cases h5
 rw[e,hg] at h3;cases h3
structure NpS (q ob pb:Nat)(o:MV)(s':RS)(wr:World)(l:List Nat)(a:Option Addr)(kc:Nat)(W:World):Prop where
 X:BelX q [ob] wr W
 qo:W.heap[ob]?=some (MV.box { o with ho:=a,hn:=l.length,hc:=kc })
 own:W.ownsRow q 22 1 (.slice a l.length kc) l.length (u64V l)
 u:∀n∈l,n<18446744073709551616
 rd:RdS q q s' W
 qp:W.heap[pb]?=some (pBox ob)
 hM:ob<q∧pb<q∧q≤W.heap.size
section
variable {q ob pb:Nat} {o:MV} {s':RS} {wr:World} {l:List Nat} {a:Option Addr} {kc:Nat} {W W':World}
theorem NpS.later (h:NpS q ob pb o s' wr l a kc W)(hb:Below W.heap.size W W'):NpS q ob pb o s' wr l a kc W':=
 ⟨h.X.trans ((BelX.of_below hb [ob]).mono h.hM.2.2 (fun _ hk _=>hk)),mbox_step h.qo hb,own_later h.own hb,h.u,h.rd.later hb,(hb.block _ (Array.getElem?_eq_some_iff.1 h.qp).1).trans h.qp,⟨h.hM.1,h.hM.2.1,Nat.le_trans h.hM.2.2 hb.size⟩⟩
theorem NpS.num {s2:RS}(h:NpS q ob pb o s' wr l a kc W)(hg:W.grownBy W' (some q))(hr:RdS q q s2 W'):NpS q ob pb o s2 wr l a kc W':=by
 obtain⟨m1,m2,m3⟩:=h.hM
 refine⟨h.X.trans ((grown_belX hg (M:=q) m3).mono (Nat.le_refl _) (fun k hk e=>by rw[List.mem_singleton.1 hk] at e;omega)),(hg.block _ (by omega) (fun e=>by have:=Option.some.inj e;omega)).trans h.qo,own_kept h.own (fun k hk=>hg.block k (own_blk h.own hk).2.1 (fun e=>?_)),h.u,hr,(hg.block _ (by omega) (fun e=>by have:=Option.some.inj e;omega)).trans h.qp,m1,m2,Nat.le_trans m3 hg.size⟩
 obtain⟨_,_,cur,h3⟩:=own_blk h.own hk
 obtain⟨_,_,h5⟩:=h.rd
 have h4:=h5.at_
 rw[←Option.some.inj e,h3] at h4
 cases h4
def NpC (pb ob:Nat)(v:Value)(W:World):Prop:=W.cell? ⟨pb,0,none⟩=some (.pointer (some ⟨ob,0,none⟩))∧W.cell? ⟨ob,26,none⟩=some v
theorem NpC.cell {v:Value}(h:NpC pb ob v W):W.cell? ⟨pb,0,none⟩=some (.pointer (some ⟨ob,0,none⟩))∧W.cell? ⟨ob,26,none⟩=some v:=h
theorem NpS.cells (h:NpS q ob pb o s' wr l a kc W):NpC pb ob (.slice a l.length kc) W:=⟨by have:=h.qp;simp[World.cell?,this,pBox],(McAt.of h.qo).c26⟩
theorem NpS.app {a4:Option Addr}{k4 n:Nat}(h:NpS q ob pb o s' wr l a kc W)(h4:W'.ownsRow q 22 1 (.slice a4 (l.length+1) k4) (l.length+1) (u64V l++[.int .u64 (n:Int)]))(hg:W.grownBy W' (Value.slice a l.length kc).ownBlock)(hb:Below q W W') :
  NpC pb ob (.slice a l.length kc) W'∧W'.frozen? ⟨ob,26,none⟩=false∧(n<18446744073709551616→StN ob pb o q (l++[n]) (W'.setCell ⟨ob,26,none⟩ (.slice a4 (l.length+1) k4)))∧RdS q q s' (W'.setCell ⟨ob,26,none⟩ (.slice a4 (l.length+1) k4))∧BelX q [ob] wr (W'.setCell ⟨ob,26,none⟩ (.slice a4 (l.length+1) k4)) ∧
  (W'.setCell ⟨ob,26,none⟩ (.slice a4 (l.length+1) k4)).cell? ⟨pb,0,none⟩=some (.pointer (some ⟨ob,0,none⟩))∧(W'.setCell ⟨ob,26,none⟩ (.slice a4 (l.length+1) k4)).cell? ⟨ob,26,none⟩=some (.slice a4 (l.length+1) k4):=by
 obtain⟨m1,m2,m3⟩:=h.hM
 have q1:W'.heap[ob]?=some (MV.box { o with ho:=a,hn:=l.length,hc:=kc }):=(hb.block _ m1).trans h.qo
 have p1:W'.heap[pb]?=some (pBox ob):=(hb.block _ m2).trans h.qp
 have r1:RdS q q s' W':=rds_row h.rd hg h.own (by decide) (by decide)
 have hpo:pb≠ob:=fun e=>by rw[e,q1] at p1;cases p1
 have q2:(W'.setCell ⟨ob,26,none⟩ (.slice a4 (l.length+1) k4)).heap[ob]?=some (MV.box { o with ho:=a4,hn:=l.length+1,hc:=k4 }):=(at_set q1).trans (by kernel_rfl)
 have p2:=at_other (b:=ob) (i:=26) (x:=.slice a4 (l.length+1) k4) p1 hpo
 have eln:(l++[n]).length=l.length+1:=by simp
 have e8:u64V (l++[n])=u64V l++[.int .u64 (n:Int)]:=by simp[u64V]
 refine⟨⟨by simp[World.cell?,p1,pBox],(McAt.of q1).c26⟩,mfrozen q1 26,fun hn=>⟨⟨a4,k4,by rw[eln];exact q2,?_⟩,p2,fun m hm=>?_⟩,r1.grown (grown_set _ _ _ _) q1 (RdM.not_u8 rowT_not_msg) (by omega),(h.X.trans (BelX.of_below hb [ob])).set _ _ _ (.inl (by simp)),by simp[World.cell?,p2,pBox],(McAt.of q2).c26⟩
 ·rw[eln,e8]
  exact own_kept h4 (fun j hj=>Below.heap_setCell _ _ _ _ (by have:=(own_blk h4 hj).1;show j≠ob;omega))
 rcases List.mem_append.1 hm with hm | hm
 ·exact h.u m hm
 rw[List.mem_singleton.1 hm];exact hn
end
set_option maxRecDepth 100000 in
theorem ro101_any (ob pb q:Nat)(o:MV)(l:List Nat)(b:List UInt8)(wr:World)(hob:ob<q)(hpb:pb<q)(hst:StN ob pb o q l wr)(hr:RdS q q ⟨b,false⟩ wr)(hb:b.length≤4194304)(hl:l.length≤4194304) :
  Calls Tryz.prog 217 #[.pointer (some ⟨q,0,none⟩),.pointer (some ⟨pb,0,none⟩)] wr (StepG q [ob] elN mayN 7 (StN ob pb o) l b wr):=by
 have hmo:Tryz.prog.follows .mixedOrders=true:=by kernel_rfl
 obtain⟨⟨a,k,ho,hown⟩,hp,hu⟩:=hst
 have hqs:q<wr.heap.size:=by obtain⟨_,_,h⟩:=hr;exact h.lt
 have hd:Below wr.heap.size wr wr.drew:=(Below.refl _ _).drew
 have s0:NpS q ob pb o ⟨b,false⟩ wr l a k wr.drew:=NpS.later (⟨BelX.refl _ _ _,ho,hown,hu,hr,hp,hob,hpb,by omega⟩:NpS q ob pb o ⟨b,false⟩ wr l a k wr) hd
 clear ho hown hp hu hr hd
 go_enter Tryz.func217,Tryz.ntmps217
 go_upto_region 1 with fail
 refine wp_region_T (k:=11) (S:=NpC pb ob (.slice a l.length k)) hmo ?_
 change wpAnyT _ _ _ _ _ _ _ _ _ (World.drew wr)
 generalize World.drew wr=X0 at *
 have t0:=s0.cells
 have hnum:=rnum_any q q ⟨b,false⟩ 1 X0 s0.rd (by dsimp only;omega)
 unfold GivesR at hnum
 have TT:=took_num ⟨b,false⟩ 1 (by decide)
 have hn:=numR_lt ⟨b,false⟩ 1
 generalize RS.num ⟨b,false⟩ 1=nm at *
 obtain⟨n,s'⟩:=nm
 dsimp only at hnum TT hn
 have HT:=hid TT
 have HN:=hid hn
 clear TT hn
 refine zTa 0 (.pointer (some ⟨ob,0,none⟩)) rfl (by rintro w2 h2;obtain⟨cd,ce⟩:=h2.cell;go_simp) t0 ?_
 go_simp
 refine zTa 1 (.pointer (some ⟨ob,0,none⟩)) rfl (by rintro w2 h2;obtain⟨cd,ce⟩:=h2.cell;go_simp) t0 ?_
 go_simp
 refine zTp 2 (.pointer (some ⟨ob,0,none⟩)) rfl t0 ?_
 go_simp
 refine zTp 3 (.pointer (some ⟨ob,26,none⟩)) rfl t0 ?_
 go_simp
 refine zTa 4 (.slice a l.length k) rfl (by rintro w2 h2;obtain⟨cd,ce⟩:=h2.cell;go_simp) t0 ?_
 go_simp
 refine zTp 5 (.pointer (some ⟨q,0,none⟩)) rfl t0 ?_
 go_simp
 refine zT1 6 rfl (fun K hK=>?_)
 go_simp
 refine hnum.mono ?_
 rintro e X1 ⟨rfl,hR1,hg1⟩
 have s1:=s0.num hg1 hR1
 have t1:=s1.cells
 clear hnum hR1 hg1 s0
 go_simp
 refine hK _ _ ⟨.inr t1,?_⟩
 clear hK K t0
 refine zT1 7 rfl (fun K hK=>?_)
 go_simp
 obtain⟨V,hV⟩:∃V,X1.alloc (.cells #[.int .u64 (n:Int)] 22)=V:=⟨_,rfl⟩
 have hbV:Below X1.heap.size X1 V:=by rw[←hV];exact (Below.refl _ _).alloc (Nat.le_refl _) _
 have rV:Rd V 1 (some ⟨X1.heap.size,0,none⟩) 1 1 [.int .u64 (n:Int)]:=by rw[←hV];exact Rd.new X1 [.int .u64 (n:Int)] 22 (0,0) 1 1 rfl (by unfold maxLen;omega)
 have sV:=s1.later hbV
 have t2:=sV.cells
 rw[hV]
 refine hK _ _ ⟨.inr t2,?_⟩
 clear hK K hV hbV s1 t1
 refine zT1 8 rfl (fun K hK=>?_)
 refine step_app2 rfl (.tmp 8) (.tmp 11) 57 rfl q 22 (.int .u64 0) 1 8 u64T (.slice a l.length k) l.length (u64V l) rfl sV.own (some ⟨X1.heap.size,0,none⟩) 1 1 [.int .u64 (n:Int)] rfl rV (fun v hv=>by rw[List.mem_singleton.1 hv];rfl) (by unfold maxLen;omega) (by omega) sV.hM.2.2 ?_
 intro a4 k4 V4 own4 hg4 hb4 _
 obtain⟨p1,p2,p3,p4,p5,c8,c9⟩:=sV.app own4 hg4 hb4
 refine hK _ _ ⟨.inr p1,?_⟩
 clear hK K own4 hg4 hb4 rV sV t2
 refine zTp 9 (.pointer (some ⟨ob,0,none⟩)) rfl p1 ?_
 go_simp
 refine zTp 10 (.pointer (some ⟨ob,26,none⟩)) rfl p1 ?_
 go_simp
 have cO:=p1.cell.2
 refine wpAnyT_last (by kernel_rfl) (by kernel_rfl) ?_
 refine zA1 11 rfl (fun K hK=>?_)
 go_simp
 refine hK _ _ ?_
 clear hK K cO
 refine wpAny_done (by kernel_rfl) ?_ _
 have P:=hid (And.intro (p3 HN.out) (And.intro p4 p5))
 clear p1 p2 p3 p4 p5
 generalize World.setCell _ ⟨ob,26,none⟩ _=W5 at *
 have hG:Hid (∀bb:Bool,(bb=true→l.length<7)→(bb=false→7≤l.length)→StepG q [ob] elN mayN 7 (StN ob pb o) l b wr (.returned (.bool bb)) W5):=hid (by
  intro bb h1 h2
  refine⟨bb,s',n,rfl,P.out.2.1,P.out.1,P.out.2.2,HT.out.le,fun hb hs=>?_,fun h=>?_⟩
  ·obtain⟨-,k4,k5⟩:=HT.out.yes hs
   exact⟨h1 hb,k4,k5⟩
  have hno:s'.bad=true→∀z rest,mayN z→b≠elN z++rest:=fun hs z rest hz=>by
   rcases HT.out.no hs with h | h
   ·cases h
   exact h z rest hz
  rcases h with rfl | h
  ·exact .inl (h2 rfl)
  exact .inr (hno h))
 clear P HT HN
 by_cases h8:l.length<7
 ·have f0:decide ((l.length:Int)+1≤7)=true:=decide_eq_true (by omega)
  go_wp2_with fail
  go_ret
  exact hG.out true (fun _=>h8) (fun h=>by cases h)
 have f0:decide ((l.length:Int)+1≤7)=false:=decide_eq_false (by omega)
 go_wp2_with fail
 go_ret
 exact hG.out false (fun h=>by cases h) (fun _=>by omega)
set_option maxRecDepth 100000 in
theorem take101 (B g ob:Nat)(w:World)(o:MV)(c:MC)(s:RS)(W:World)(h:RdM B g ob w o c s W)(hl:s.l.length≤100000000)(hz:o.ho=none∧o.hn=0∧o.hc=0):Calls Tryz.prog 216 #[.pointer (some ⟨g,0,none⟩),.pointer (some ⟨ob,0,none⟩)] W (Takes B g ob w 101 o c s W):=by
 have hb:Below W.heap.size W (W.alloc (pBox ob)):=(Below.refl _ _).alloc (Nat.le_refl _) _
 have hp:(W.alloc (pBox ob)).heap[W.heap.size]?=some (pBox ob):=at_new _ _
 have h1:=h.later hb
 obtain⟨l1,l2⟩:=h.lt
 have hgb:W.heap.size≠g:=by omega
 unfold pBox at hb hp h1
 go_enter Tryz.func216,Tryz.ntmps216
 go_upto_region 1 with fail
 generalize hg:W.alloc _=W1 at *
 have hp1:W1.heap[W.heap.size]?=some (pBox ob):=hp
 clear hg hp
 have hno:∀q w1,W1.grownBy w1 (some g)→StN ob W.heap.size o q [] w1:=fun q w1 hgw=>by
  have q1:=(hgw.block _ h1.lt.2 (fun e=>h.ne (Option.some.inj e).symm)).trans h1.q
  refine⟨⟨none,0,?_,World.ownsRow_nil _ _ _ _⟩,(hgw.block _ (Array.getElem?_eq_some_iff.1 hp1).1 (fun e=>hgb (Option.some.inj e))).trans hp1,fun p hp=>by cases hp⟩
  have e:({ o with ho:=none,hn:=([]:List Nat).length,hc:=0 }:MV)=o:=by
   obtain⟨z1,z2,z3⟩:=hz
   cases o
   dsimp only at z1 z2 z3
   subst z1 z2 z3
   rfl
  rw[e];exact q1
 have hli:=glist_any B g s 16 217 #[.pointer (some ⟨W.heap.size,0,none⟩)] W1 (by decide) h1.rd hl (enters_of Tryz.func217 (by kernel_rfl) rfl) [ob] (fun k hk=>by
  rw[List.mem_singleton.1 hk]
  exact⟨fun e=>h.ne e.symm,_,h1.q,RdM.not_u8 rowT_not_msg⟩) elN mayN 7 elN_inj elN_pos (StN ob W.heap.size o) hno (fun q l wx cs v _ k1 k2=>k1.set k2) (fun q l b wr hq k1 k2 k3 k4 _=>ro101_any ob W.heap.size q o l b wr (Nat.lt_of_lt_of_le h1.lt.2 hq) (Nat.lt_of_lt_of_le (Array.getElem?_eq_some_iff.1 hp1).1 hq) k1 k2 k3 k4)
 have H1:=hid h1
 clear h h1 hno hz hp1 hgb
 go_wp2_with fail
 refine hli.mono ?_
 rintro e W2 ⟨⟨r9,rfl⟩,s',q,l,hr2,hq,hst,hX,hln,T⟩
 have HH:Hid (Takes B g ob w 101 o c s W (.returned (.tuple #[])) W2):=hid (by
  obtain⟨⟨a,k,qo,own⟩,-,hu⟩:=hst
  have h1:=H1.out
  have hk:KeepM W1 W2:=KeepM.of_belX hX (fun k hk=>by
   simp only[List.mem_cons,List.not_mem_nil,or_false] at hk
   rcases hk with rfl|rfl
   ·obtain⟨_,_,hr⟩:=h1.rd
    exact⟨_,hr.at_,fun c t fr ht e=>by cases e;exact rowT_not_rdr ht⟩
   exact⟨_,h1.q,fun c t fr ht e=>by cases e;exact rowT_not_msg ht⟩)
  have A:=h1.at_.kpm h1.ty hk
  have Y:=h1.ty.kpm hk
  have S:StepX 101 s (setF 101 o { o with ho:=a,hn:=l.length,hc:=k }) (setC 101 c { c with seen:=l }) s':=step_seenP T rfl
  refine⟨rfl,(BelX.of_below hb [g,ob]).trans (hX.mono hb.size (fun _ hk _=>hk)),{ o with ho:=a,hn:=l.length,hc:=k },{ c with seen:=l },s',h1.turn hX hr2 qo ⟨A.rq,A.rs,A.sn,A.lg,Rd.of_own_slice own,A.ls,by show l.length≤1000000000;omega⟩ ⟨h1.u.vi,h1.u.no,h1.u.cl,h1.u.nu,h1.u.at_,h1.u.cm,h1.u.bs,h1.u.nc,h1.u.rq,h1.u.log,hu⟩ ⟨Y.rq,Y.rs,Y.sn,Y.lo,Y.log,TyX.of_own own⟩ h1.fr (fun e=>⟨(h1.cnt (T.yes e).1).1,(T.yes e).2.2.2.1⟩),S⟩)
 clear hst hr2 hq hX hln T H1 hb hli
 go_wp2_with fail
 refine bodyPost_end (results_none rfl _ _ _) rfl ?_
 exact HH.out
set_option maxRecDepth 100000 in
theorem take_all {t0 t1 t2 t3 t4 t5 t6 t7:Nat}:∀f∈allL t0 t1 t2 t3 t4 t5 t6 t7,∃tf tc,TakeOk t0 t1 t2 t3 t4 t5 t6 t7 f tf tc:=by
 intro f hf
 simp only[allL,List.mem_cons,List.not_mem_nil,or_false] at hf
 rcases hf with rfl|rfl|rfl|rfl|rfl|rfl|rfl|rfl|rfl|rfl|rfl|rfl|rfl|rfl|rfl
 ·refine⟨220,#[.pointer (some ⟨t0,0,none⟩),.pointer (some ⟨t0+1,0,none⟩)],rfl,enters_of Tryz.func220 (by kernel_rfl) rfl,fun B g ob w o c s W ha h hl _ _=>takeN (x:=118) (ff:=164) (ix:=1) (t:=2) (fv:=fun n o=>{ o with vi:=n }) (fld:=MV.vi) (by decide) allp1 (enters_of Tryz.func164 (by kernel_rfl) rfl) (by decide) h hl ha.a0 ⟨_,rfl⟩ (fun _ _=>rfl) (fun m d u=>u.vi) (fun _=>rfl) (fun n=>by kernel_rfl) (fun n X a=>⟨a.rq,a.rs,a.sn,a.lg,a.se,a.ls,a.lh⟩) (fun n h0 h1=>⟨⟨h0,h1⟩,h.u.no,h.u.cl,h.u.nu,h.u.at_,h.u.cm,h.u.bs,h.u.nc,h.u.rq,h.u.log,h.u.seen⟩) (fun n X a=>⟨a.rq,a.rs,a.sn,a.lo,a.log,a.ho⟩) (fun n=>⟨rfl,rfl,rfl⟩)⟩
 ·refine⟨220,#[.pointer (some ⟨t1,0,none⟩),.pointer (some ⟨t1+1,0,none⟩)],rfl,enters_of Tryz.func220 (by kernel_rfl) rfl,fun B g ob w o c s W ha h hl _ _=>takeN (x:=110) (ff:=165) (ix:=2) (t:=3) (fv:=fun n o=>{ o with no:=n }) (fld:=MV.no) (by decide) allp2 (enters_of Tryz.func165 (by kernel_rfl) rfl) (by decide) h hl ha.a1 ⟨_,rfl⟩ (fun _ _=>rfl) (fun m d u=>u.no) (fun _=>rfl) (fun n=>by kernel_rfl) (fun n X a=>⟨a.rq,a.rs,a.sn,a.lg,a.se,a.ls,a.lh⟩) (fun n h0 h1=>⟨h.u.vi,⟨h0,h1⟩,h.u.cl,h.u.nu,h.u.at_,h.u.cm,h.u.bs,h.u.nc,h.u.rq,h.u.log,h.u.seen⟩) (fun n X a=>⟨a.rq,a.rs,a.sn,a.lo,a.log,a.ho⟩) (fun n=>⟨rfl,rfl,rfl⟩)⟩
 ·exact⟨188,#[],rfl,enters_of Tryz.func188 (by kernel_rfl) rfl,fun B g ob w o c s W _ h hl _ _=>take102 B g ob w o c s W h hl⟩
 ·refine⟨220,#[.pointer (some ⟨t2,0,none⟩),.pointer (some ⟨t2+1,0,none⟩)],rfl,enters_of Tryz.func220 (by kernel_rfl) rfl,fun B g ob w o c s W ha h hl _ _=>takeN (x:=99) (ff:=166) (ix:=4) (t:=5) (fv:=fun n o=>{ o with cl:=n }) (fld:=MV.cl) (by decide) allp3 (enters_of Tryz.func166 (by kernel_rfl) rfl) (by decide) h hl ha.a2 ⟨_,rfl⟩ (fun _ _=>rfl) (fun m d u=>u.cl) (fun _=>rfl) (fun n=>by kernel_rfl) (fun n X a=>⟨a.rq,a.rs,a.sn,a.lg,a.se,a.ls,a.lh⟩) (fun n h0 h1=>⟨h.u.vi,h.u.no,⟨h0,h1⟩,h.u.nu,h.u.at_,h.u.cm,h.u.bs,h.u.nc,h.u.rq,h.u.log,h.u.seen⟩) (fun n X a=>⟨a.rq,a.rs,a.sn,a.lo,a.log,a.ho⟩) (fun n=>⟨rfl,rfl,rfl⟩)⟩
 ·refine⟨220,#[.pointer (some ⟨t3,0,none⟩),.pointer (some ⟨t3+1,0,none⟩)],rfl,enters_of Tryz.func220 (by kernel_rfl) rfl,fun B g ob w o c s W ha h hl _ _=>takeN (x:=117) (ff:=167) (ix:=5) (t:=6) (fv:=fun n o=>{ o with nu:=n }) (fld:=MV.nu) (by decide) allp4 (enters_of Tryz.func167 (by kernel_rfl) rfl) (by decide) h hl ha.a3 ⟨_,rfl⟩ (fun _ _=>rfl) (fun m d u=>u.nu) (fun _=>rfl) (fun n=>by kernel_rfl) (fun n X a=>⟨a.rq,a.rs,a.sn,a.lg,a.se,a.ls,a.lh⟩) (fun n h0 h1=>⟨h.u.vi,h.u.no,h.u.cl,⟨h0,h1⟩,h.u.at_,h.u.cm,h.u.bs,h.u.nc,h.u.rq,h.u.log,h.u.seen⟩) (fun n X a=>⟨a.rq,a.rs,a.sn,a.lo,a.log,a.ho⟩) (fun n=>⟨rfl,rfl,rfl⟩)⟩
 ·exact⟨192,#[],rfl,enters_of Tryz.func192 (by kernel_rfl) rfl,fun B g ob w o c s W _ h hl _ _=>take113 B g ob w o c s W h hl⟩
 ·exact⟨198,#[],rfl,enters_of Tryz.func198 (by kernel_rfl) rfl,fun B g ob w o c s W _ h hl _ _=>take114 B g ob w o c s W h hl⟩
 ·refine⟨220,#[.pointer (some ⟨t4,0,none⟩),.pointer (some ⟨t4+1,0,none⟩)],rfl,enters_of Tryz.func220 (by kernel_rfl) rfl,fun B g ob w o c s W ha h hl _ _=>takeN (x:=97) (ff:=168) (ix:=19) (t:=9) (fv:=fun n o=>{ o with at_:=n }) (fld:=MV.at_) (by decide) allp5 (enters_of Tryz.func168 (by kernel_rfl) rfl) (by decide) h hl ha.a4 ⟨_,rfl⟩ (fun _ _=>rfl) (fun m d u=>u.at_) (fun _=>rfl) (fun n=>by kernel_rfl) (fun n X a=>⟨a.rq,a.rs,a.sn,a.lg,a.se,a.ls,a.lh⟩) (fun n h0 h1=>⟨h.u.vi,h.u.no,h.u.cl,h.u.nu,⟨h0,h1⟩,h.u.cm,h.u.bs,h.u.nc,h.u.rq,h.u.log,h.u.seen⟩) (fun n X a=>⟨a.rq,a.rs,a.sn,a.lo,a.log,a.ho⟩) (fun n=>⟨rfl,rfl,rfl⟩)⟩
 ·refine⟨220,#[.pointer (some ⟨t5,0,none⟩),.pointer (some ⟨t5+1,0,none⟩)],rfl,enters_of Tryz.func220 (by kernel_rfl) rfl,fun B g ob w o c s W ha h hl _ _=>takeN (x:=109) (ff:=169) (ix:=20) (t:=10) (fv:=fun n o=>{ o with cm:=n }) (fld:=MV.cm) (by decide) allp6 (enters_of Tryz.func169 (by kernel_rfl) rfl) (by decide) h hl ha.a5 ⟨_,rfl⟩ (fun _ _=>rfl) (fun m d u=>u.cm) (fun _=>rfl) (fun n=>by kernel_rfl) (fun n X a=>⟨a.rq,a.rs,a.sn,a.lg,a.se,a.ls,a.lh⟩) (fun n h0 h1=>⟨h.u.vi,h.u.no,h.u.cl,h.u.nu,h.u.at_,⟨h0,h1⟩,h.u.bs,h.u.nc,h.u.rq,h.u.log,h.u.seen⟩) (fun n X a=>⟨a.rq,a.rs,a.sn,a.lo,a.log,a.ho⟩) (fun n=>⟨rfl,rfl,rfl⟩)⟩
 ·refine⟨220,#[.pointer (some ⟨t6,0,none⟩),.pointer (some ⟨t6+1,0,none⟩)],rfl,enters_of Tryz.func220 (by kernel_rfl) rfl,fun B g ob w o c s W ha h hl _ _=>takeN (x:=98) (ff:=170) (ix:=21) (t:=11) (fv:=fun n o=>{ o with bs:=n }) (fld:=MV.bs) (by decide) allp7 (enters_of Tryz.func170 (by kernel_rfl) rfl) (by decide) h hl ha.a6 ⟨_,rfl⟩ (fun _ _=>rfl) (fun m d u=>u.bs) (fun _=>rfl) (fun n=>by kernel_rfl) (fun n X a=>⟨a.rq,a.rs,a.sn,a.lg,a.se,a.ls,a.lh⟩) (fun n h0 h1=>⟨h.u.vi,h.u.no,h.u.cl,h.u.nu,h.u.at_,h.u.cm,⟨h0,h1⟩,h.u.nc,h.u.rq,h.u.log,h.u.seen⟩) (fun n X a=>⟨a.rq,a.rs,a.sn,a.lo,a.log,a.ho⟩) (fun n=>⟨rfl,rfl,rfl⟩)⟩
 ·exact⟨202,#[],rfl,enters_of Tryz.func202 (by kernel_rfl) rfl,fun B g ob w o c s W _ h hl _ _=>take115 B g ob w o c s W h hl⟩
 ·exact⟨206,#[],rfl,enters_of Tryz.func206 (by kernel_rfl) rfl,fun B g ob w o c s W _ h hl hz _=>take108 B g ob w o c s W h hl (hz rfl)⟩
 ·refine⟨220,#[.pointer (some ⟨t7,0,none⟩),.pointer (some ⟨t7+1,0,none⟩)],rfl,enters_of Tryz.func220 (by kernel_rfl) rfl,fun B g ob w o c s W ha h hl _ _=>takeN (x:=111) (ff:=171) (ix:=24) (t:=14) (fv:=fun n o=>{ o with nc:=n }) (fld:=MV.nc) (by decide) allp8 (enters_of Tryz.func171 (by kernel_rfl) rfl) (by decide) h hl ha.a7 ⟨_,rfl⟩ (fun _ _=>rfl) (fun m d u=>u.nc) (fun _=>rfl) (fun n=>by kernel_rfl) (fun n X a=>⟨a.rq,a.rs,a.sn,a.lg,a.se,a.ls,a.lh⟩) (fun n h0 h1=>⟨h.u.vi,h.u.no,h.u.cl,h.u.nu,h.u.at_,h.u.cm,h.u.bs,⟨h0,h1⟩,h.u.rq,h.u.log,h.u.seen⟩) (fun n X a=>⟨a.rq,a.rs,a.sn,a.lo,a.log,a.ho⟩) (fun n=>⟨rfl,rfl,rfl⟩)⟩
 ·exact⟨211,#[],rfl,enters_of Tryz.func211 (by kernel_rfl) rfl,fun B g ob w o c s W _ h hl _ _=>take119 B g ob w o c s W h hl⟩
 exact⟨216,#[],rfl,enters_of Tryz.func216 (by kernel_rfl) rfl,fun B g ob w o c s W _ h hl _ hz=>take101 B g ob w o c s W h hl (hz rfl)⟩
end Go.Proofs.YtfmmandlmbcncaaGreatDoor.Msg
