/-
  A part of the proof.
-/
import Derived.Test.YtfmmandlmbcncaaGreatDoorKabl
import Derived.Test.YtfmmandlmbcncaaGreatDoorKabm
import Derived.Test.YtfmmandlmbcncaaGreatDoorKabn
set_option maxHeartbeats 40000000
namespace Go.Proofs.YtfmmandlmbcncaaGreatDoor.Msg
open Go.RowKit Go.Lib Go.Proofs.YtfmmandlmbcncaaGreatDoor.Mem Go.Proofs.YtfmmandlmbcncaaGreatDoor.Tlv
def bareM (k:Int):MV:=⟨k,0,0,0,0,0,zeroR,zeroQ,0,0,0,none,0,0,none,0,0,0,false,none,0,0⟩
def bareC:MC:=⟨⟨[],[],[]⟩,⟨[],[]⟩,[],[],[]⟩
def setC (x:Int)(c0 c:MC):MC:=
 if x=113 then { c0 with rq:=c.rq }
 else if x=114 then { c0 with rs:=c.rs }
 else if x=115 then { c0 with snap:=c.snap }
 else if x=108 then { c0 with log:=c.log }
 else if x=101 then { c0 with seen:=c.seen }
 else c0
theorem bareM_at (W:World)(k:Int):MAt W (bareM k) bareC:=⟨⟨Rd.nil _ _,Rd.nil _ _,Rd.nil _ _,Nat.zero_le _,Nat.zero_le _,Nat.zero_le _⟩,⟨⟨Rd.nil _ _,fun _ hp=>absurd hp List.not_mem_nil⟩,Rd.nil _ _,Nat.zero_le _⟩,Rd.nil _ _,LgAt.nil _,Rd.nil _ _,Nat.zero_le _,Nat.zero_le _⟩
theorem setF_at {W:World}{x:Int}{m0 m:MV}{c0 c:MC}(h0:MAt W m0 c0)(h:MAt W m c):MAt W (setF x m0 m) (setC x c0 c):=by
 by_cases e118:x=118
 ·subst e118;exact⟨h0.rq,h0.rs,h0.sn,h0.lg,h0.se,h0.ls,h0.lh⟩
 by_cases e110:x=110
 ·subst e110;exact⟨h0.rq,h0.rs,h0.sn,h0.lg,h0.se,h0.ls,h0.lh⟩
 by_cases e102:x=102
 ·subst e102;exact⟨h0.rq,h0.rs,h0.sn,h0.lg,h0.se,h0.ls,h0.lh⟩
 by_cases e99:x=99
 ·subst e99;exact⟨h0.rq,h0.rs,h0.sn,h0.lg,h0.se,h0.ls,h0.lh⟩
 by_cases e117:x=117
 ·subst e117;exact⟨h0.rq,h0.rs,h0.sn,h0.lg,h0.se,h0.ls,h0.lh⟩
 by_cases e113:x=113
 ·subst e113;exact⟨h.rq,h0.rs,h0.sn,h0.lg,h0.se,h0.ls,h0.lh⟩
 by_cases e114:x=114
 ·subst e114;exact⟨h0.rq,h.rs,h0.sn,h0.lg,h0.se,h0.ls,h0.lh⟩
 by_cases e97:x=97
 ·subst e97;exact⟨h0.rq,h0.rs,h0.sn,h0.lg,h0.se,h0.ls,h0.lh⟩
 by_cases e109:x=109
 ·subst e109;exact⟨h0.rq,h0.rs,h0.sn,h0.lg,h0.se,h0.ls,h0.lh⟩
 by_cases e98:x=98
 ·subst e98;exact⟨h0.rq,h0.rs,h0.sn,h0.lg,h0.se,h0.ls,h0.lh⟩
 by_cases e115:x=115
 ·subst e115;exact⟨h0.rq,h0.rs,h.sn,h0.lg,h0.se,h.ls,h0.lh⟩
 by_cases e108:x=108
 ·subst e108;exact⟨h0.rq,h0.rs,h0.sn,h.lg,h0.se,h0.ls,h0.lh⟩
 by_cases e111:x=111
 ·subst e111;exact⟨h0.rq,h0.rs,h0.sn,h0.lg,h0.se,h0.ls,h0.lh⟩
 by_cases e119:x=119
 ·subst e119;exact⟨h0.rq,h0.rs,h0.sn,h0.lg,h0.se,h0.ls,h0.lh⟩
 by_cases e101:x=101
 ·subst e101;exact⟨h0.rq,h0.rs,h0.sn,h0.lg,h.se,h0.ls,h.lh⟩
 unfold setF setC
 simp only[e118,e110,e102,e99,e117,e113,e114,e97,e109,e98,e115,e108,e111,e119,e101,if_false]
 exact h0
def keptM (ls:List Int)(m:MV):MV:=ls.foldl (fun b x=>setF x b m) (bareM m.k)
def keptC (ls:List Int)(c:MC):MC:=ls.foldl (fun b x=>setC x b c) bareC
theorem keptM_snoc (ls:List Int)(x:Int)(m:MV):keptM (ls++[x]) m=setF x (keptM ls m) m:=by unfold keptM;rw[List.foldl_append];rfl
theorem kept_at {W:World}{m:MV}{c:MC}(h:MAt W m c)(ls:List Int):MAt W (keptM ls m) (keptC ls c):=by
 have key:∀(ls:List Int) (m0:MV) (c0:MC),MAt W m0 c0→MAt W (ls.foldl (fun b x=>setF x b m) m0) (ls.foldl (fun b x=>setC x b c) c0):=by
  intro ls
  induction ls with
  | nil=>exact fun _ _ h0=>h0
  | cons x ls ih=>exact fun m0 c0 h0=>ih _ _ (setF_at h0 h)
 exact key ls _ _ (bareM_at W m.k)
def allX:List Int:=[118,110,102,99,117,113,114,97,109,98,115,108,111,119,101]
def lettersOf (k:Int)(wh:Bool):List Int:=allX.filter fun x=>hasL (fieldsM k wh) x
theorem ofL_letters (k:Int)(wh:Bool)(t0 t1 t2 t3 t4 t5 t6 t7:Nat):(ofL k wh t0 t1 t2 t3 t4 t5 t6 t7).map FV.l=lettersOf k wh:=by
 unfold ofL lettersOf
 have e:allX=(allL t0 t1 t2 t3 t4 t5 t6 t7).map FV.l:=rfl
 rw[e,List.filter_map]
 congr 1
 refine List.filter_congr (fun f _=>?_)
 simp[goes]
theorem ofL_mem {k:Int}{wh:Bool}{t0 t1 t2 t3 t4 t5 t6 t7:Nat}{f:FV}(h:f∈ofL k wh t0 t1 t2 t3 t4 t5 t6 t7):f∈allL t0 t1 t2 t3 t4 t5 t6 t7:=(List.mem_filter.1 h).1
def wellM (m:MV)(c:MC):Bool:=
 decide (lettersOf m.k m.wh≠[])&&(sameMsg m c (keptM (lettersOf m.k m.wh) m) (keptC (lettersOf m.k m.wh) c)&&(decide (0≤m.fr)&&(decide (m.fr<7)&&(decide (m.ln≤4096)&&(decide (m.sn≤4194304)&&(decide (m.hn≤7)&&(!(c.log.any fun u=>!mayOp u.1.op u.2)&&(if m.k=1∨m.k=3 then mayOp m.rq.op c.rq else if m.k=2 then mayRes m.rs c.rs else true))))))))
theorem plainAt_othM {B tb:Nat}{W W':World}{t:Int}{fo:Value}{ta ob:Nat}{m:MV}(h:plainAt W t fo ta ob)(hm:W.heap[tb]?=some m.box)(ho:Oth B tb W W'):plainAt W' t fo ta ob:=by
 have h1:ta≠tb:=fun e=>by have:=h.1;rw[e,hm] at this;cases this
 have h2:ob≠tb:=fun e=>by have:=h.2;rw[e,hm] at this;cases this
 exact⟨(ho.oth _ (Array.getElem?_eq_some_iff.1 h.1).1 h1).trans h.1,(ho.oth _ (Array.getElem?_eq_some_iff.1 h.2).1 h2).trans h.2⟩
theorem AllAt.othM {B tb:Nat}{W W':World}{t0 t1 t2 t3 t4 t5 t6 t7:Nat}{m:MV}(h:AllAt t0 t1 t2 t3 t4 t5 t6 t7 W)(hm:W.heap[tb]?=some m.box)(ho:Oth B tb W W'):AllAt t0 t1 t2 t3 t4 t5 t6 t7 W':=
 ⟨plainAt_othM h.a0 hm ho,plainAt_othM h.a1 hm ho,plainAt_othM h.a2 hm ho,plainAt_othM h.a3 hm ho,plainAt_othM h.a4 hm ho,plainAt_othM h.a5 hm ho,plainAt_othM h.a6 hm ho,plainAt_othM h.a7 hm ho⟩
theorem fields_ne {W:World}{b n cap tb:Nat}{L:List FV}{m:MV}(h:Rd W 4 (some ⟨b,0,none⟩) n cap (fV L))(hL:0<L.length)(hm:W.heap[tb]?=some m.box):b≠tb:=fun e=>by
 subst e
 have hn:=h.1
 rw[fV_len] at hn
 have hle:=h.le
 obtain⟨b1,o1,e1,-,hc⟩:=h.some (by omega)
 obtain⟨rfl,rfl⟩:b=b1∧0=o1:=by simpa using e1
 obtain⟨f,hf⟩:∃f,L[0]?=some f:=⟨_,List.getElem?_eq_getElem hL⟩
 have h1:=fV_at L 0 f hf 0 (by decide)
 have h2:=hc 0 (.int .i32 f.l) (by simpa [FV.cells] using h1)
 rw[(McAt.of hm).c0] at h2
 cases h2
theorem rd_oth {W W':World}{B tb size n cap:Nat}{ao:Option Addr}{xs:List Value}(h:Rd W size ao n cap xs)(ho:Oth B tb W W')(hn:∀a,ao=some a→a.block≠tb):Rd W' size ao n cap xs:=by
 obtain⟨h1,h2,h3,h4,h5⟩:=h
 refine⟨h1,h2,h3,h4,fun h0 a ha=>?_⟩
 obtain⟨s,l,c⟩:=h5 h0 a ha
 exact⟨s,Nat.lt_of_lt_of_le l ho.bel.size,fun j u hu=>(World.cell?_of_block (a:=⟨a.block,a.off+j,none⟩) (ho.oth _ l (hn a ha))).trans (c j u hu)⟩
theorem f_range {W:World}{b n cap k:Nat}{L:List FV}{f:FV}(h:Rd W 4 (some ⟨b,0,none⟩) n cap (fV L))(hf:L[k]?=some f):∀(j:Nat) (v:Value),f.cells[j]?=some v→W.cell? ⟨b,k*4+j,none⟩=some v:=fun j v hv=>by
 have hj:j<4:=by
  have:=(Array.getElem?_eq_some_iff.1 hv).1
  simpa [FV.cells] using this
 have hk:k<L.length:=(List.getElem?_eq_some_iff.1 hf).1
 have hl:=h.1
 rw[fV_len] at hl
 have h0:=h.le
 obtain⟨b1,o1,e,-,hc⟩:=h.some (by omega)
 obtain⟨rfl,rfl⟩:b=b1∧0=o1:=by simpa using e
 have h1:=fV_at L k f hf j hj
 rw[hv] at h1
 have:=hc (k*4+j) v h1
 rw[Nat.zero_add] at this
 exact this
end Go.Proofs.YtfmmandlmbcncaaGreatDoor.Msg
