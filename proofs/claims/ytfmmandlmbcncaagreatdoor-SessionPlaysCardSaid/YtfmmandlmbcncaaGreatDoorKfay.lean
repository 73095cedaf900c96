/-A part of the proof.-/
import Derived.Test.YtfmmandlmbcncaaGreatDoorKfax
import Derived.Test.YtfmmandlmbcncaaGreatDoorKfaw
set_option maxHeartbeats 40000000
set_option maxRecDepth 100000
set_option linter.all false
namespace Go.Proofs.YtfmmandlmbcncaaGreatDoor
namespace Msg
open Go.RowKit Go.Lib Mem Tlv
variable{B b cap g n ob t0 t1 t2 t3 t4 t5 t6 t7 ta tb:Nat}{L:List FV}{W' w:World}{c:MC}{cs:List Value}{f:FV}{fo v v':Value}{k t x:Int}{l:List UInt8}{m:MV}{wh:Bool}
def ay (k:Int):MV:=⟨k,0,0,0,0,0,bG,aG,0,0,0,none,0,0,none,0,0,0,false,none,0,0⟩
def dO:MC:=⟨⟨[],[],[]⟩,⟨[],[]⟩,[],[],[]⟩
def dA (x:Int)(c0 c:MC):MC:=
 if x=113 then { c0 with rq:=c.rq }
 else if x=114 then { c0 with rs:=c.rs }
 else if x=115 then { c0 with snap:=c.snap }
 else if x=108 then { c0 with log:=c.log }
 else if x=101 then { c0 with seen:=c.seen }
 else c0
theorem fE(W:World)(k:Int):MAt W (ay k) dO:=⟨⟨Rd.nil _ _,Rd.nil _ _,Rd.nil _ _,yam _,yam _,yam _⟩,⟨⟨Rd.nil _ _,fun _ hp=>absurd hp yal⟩,Rd.nil _ _,yam _⟩,Rd.nil _ _,LgAt.nil _,Rd.nil _ _,yam _,yam _⟩
theorem Qk{W:World}{m0:MV}{c0:MC}(h0:MAt W m0 c0)(h:MAt W m c):MAt W (aJ x m0 m) (dA x c0 c):=by
 by_cases e118:x=118
 ·subst e118;exact⟨h0.rq,h0.rs,h0.sn,h0.lg,h0.se,h0.ls,h0.lh⟩
 by_cases e110:x=110
 ·subst e110;exact⟨h0.rq,h0.rs,h0.sn,h0.lg,h0.se,h0.ls,h0.lh⟩
 by_cases e102:x=102
 ·subst e102;exact⟨h0.rq,h0.rs,h0.sn,h0.lg,h0.se,h0.ls,h0.lh⟩
 by_cases e99:x=99
 ·subst e99;exact⟨h0.rq,h0.rs,h0.sn,h0.lg,h0.se,h0.ls,h0.lh⟩
 by_cases e117:x=117
 ·subst e117;exact⟨h0.rq,h0.rs,h0.sn,h0.lg,h0.se,h0.ls,h0.lh⟩
 by_cases e113:x=113
 ·subst e113;exact⟨h.rq,h0.rs,h0.sn,h0.lg,h0.se,h0.ls,h0.lh⟩
 by_cases e114:x=114
 ·subst e114;exact⟨h0.rq,h.rs,h0.sn,h0.lg,h0.se,h0.ls,h0.lh⟩
 by_cases e97:x=97
 ·subst e97;exact⟨h0.rq,h0.rs,h0.sn,h0.lg,h0.se,h0.ls,h0.lh⟩
 by_cases e109:x=109
 ·subst e109;exact⟨h0.rq,h0.rs,h0.sn,h0.lg,h0.se,h0.ls,h0.lh⟩
 by_cases e98:x=98
 ·subst e98;exact⟨h0.rq,h0.rs,h0.sn,h0.lg,h0.se,h0.ls,h0.lh⟩
 by_cases e115:x=115
 ·subst e115;exact⟨h0.rq,h0.rs,h.sn,h0.lg,h0.se,h.ls,h0.lh⟩
 by_cases e108:x=108
 ·subst e108;exact⟨h0.rq,h0.rs,h0.sn,h.lg,h0.se,h0.ls,h0.lh⟩
 by_cases e111:x=111
 ·subst e111;exact⟨h0.rq,h0.rs,h0.sn,h0.lg,h0.se,h0.ls,h0.lh⟩
 by_cases e119:x=119
 ·subst e119;exact⟨h0.rq,h0.rs,h0.sn,h0.lg,h0.se,h0.ls,h0.lh⟩
 by_cases e101:x=101
 ·subst e101;exact⟨h0.rq,h0.rs,h0.sn,h0.lg,h.se,h0.ls,h.lh⟩
 unfold aJ dA;simp only[e118,e110,e102,e99,e117,e113,e114,e97,e109,e98,e115,e108,e111,e119,e101,if_false];exact h0
def jY (ls:List Int)(m:MV):MV:=ls.foldl (fun b x=>aJ x b m) (ay m.k)
def nJ (ls:List Int)(c:MC):MC:=ls.foldl (fun b x=>dA x b c) dO
theorem IA(ls:List Int)(x:Int)(m:MV):jY (ls++[x]) m=aJ x (jY ls m) m:=by unfold jY;rw[List.foldl_append];rfl
theorem Rl{W:World}(h:MAt W m c)(ls:List Int):MAt W (jY ls m) (nJ ls c):=by
 have key:∀(ls:List Int) (m0:MV) (c0:MC),MAt W m0 c0->MAt W (ls.foldl (fun b x=>aJ x b m) m0) (ls.foldl (fun b x=>dA x b c) c0):=by
  intro ls;induction ls with
  | nil=>exact fun _ _ h0=>h0
  | cons x ls ih=>exact fun m0 c0 h0=>ih _ _ (Qk h0 h)
 exact key ls _ _ (fE W m.k)
def dF:List Int:=[118,110,102,99,117,113,114,97,109,98,115,108,111,119,101]
def lettersOf (k:Int)(wh:Bool):List Int:=dF.filter fun x=>qx (gm k wh) x
theorem og(k:Int)(wh:Bool)(t0 t1 t2 t3 t4 t5 t6 t7:Nat):(ofL k wh t0 t1 t2 t3 t4 t5 t6 t7).map FV.l=lettersOf k wh:=by
 unfold ofL lettersOf;have e:dF=(allL t0 t1 t2 t3 t4 t5 t6 t7).map FV.l:=rfl;rw[e,List.filter_map]
 congr 1
 refine List.filter_congr (fun f _=>?_);simp[goes]
theorem Az(h:f∈ofL k wh t0 t1 t2 t3 t4 t5 t6 t7):f∈allL t0 t1 t2 t3 t4 t5 t6 t7:=(List.mem_filter.1 h).1
def eu (m:MV)(c:MC):Bool:=
 decide (lettersOf m.k m.wh≠[])&&(aH m c (jY (lettersOf m.k m.wh) m) (nJ (lettersOf m.k m.wh) c)&&(decide (0<=m.fr)&&(decide (m.fr<7)&&(decide (m.ln<=4096)&&(decide (m.sn<=4194304)&&(decide (m.hn<=7)&&(!(c.log.any fun u=>!aA u.1.op u.2)&&(if m.k=1\/m.k=3 then aA m.rq.op c.rq else if m.k=2 then bz m.rs c.rs else true))))))))
theorem iE{W:World}(h:plainAt W t fo ta ob)(hm:W.heap[tb]?=some m.box)(ho:Oth B tb W W'):plainAt W' t fo ta ob:=by
 have h1:ta≠tb:=fun e=>by have:=h.1;rw[e,hm] at this;cases this
 have h2:ob≠tb:=fun e=>by have:=h.2;rw[e,hm] at this;cases this
 exact⟨(ho.oth _ (lA h.1) h1).trans h.1,(ho.oth _ (lA h.2) h2).trans h.2⟩
theorem AllAt.othM{W:World}(h:AllAt t0 t1 t2 t3 t4 t5 t6 t7 W)(hm:W.heap[tb]?=some m.box)(ho:Oth B tb W W'):AllAt t0 t1 t2 t3 t4 t5 t6 t7 W':=
 ⟨iE h.a0 hm ho,iE h.a1 hm ho,iE h.a2 hm ho,iE h.a3 hm ho,iE h.a4 hm ho,iE h.a5 hm ho,iE h.a6 hm ho,iE h.a7 hm ho⟩
theorem AB{W:World}(h:Rd W 4 (some ⟨b,0,none⟩) n cap (fV L))(hL:0<L.length)(hm:W.heap[tb]?=some m.box):b≠tb:=fun e=>by
 subst e;have hn:=h.1;rw[sW] at hn;have hle:=h.le;obtain⟨b1,o1,e1,-,hc⟩:=h.some (by omega);obtain⟨rfl,rfl⟩:b=b1/\0=o1:=by simpa using e1
 obtain⟨f,hf⟩:∃f,L[0]?=some f:=⟨_,yac hL⟩
 have h1:=yR L 0 f hf 0 (by decide);have h2:=hc 0 (.int .i32 f.l) (by simpa [FV.cells] using h1);rw[(McAt.of hm).c0] at h2;cases h2
theorem Si{W:World}{size:Nat}{ao:Option Addr}{xs:List Value}(h:Rd W size ao n cap xs)(ho:Oth B tb W W')(hn:∀a,ao=some a->a.block≠tb):Rd W' size ao n cap xs:=by
 obtain⟨h1,h2,h3,h4,h5⟩:=h;refine⟨h1,h2,h3,h4,fun h0 a ha=>?_⟩;obtain⟨s,l,c⟩:=h5 h0 a ha;exact⟨s,yaz l ho.bel.size,fun j u hu=>(yaK (a:=⟨a.block,a.off+j,none⟩) (ho.oth _ l (hn a ha))).trans (c j u hu)⟩
theorem wU{W:World}{k:Nat}(h:Rd W 4 (some ⟨b,0,none⟩) n cap (fV L))(hf:L[k]?=some f):∀(j:Nat) (v:Value),f.cells[j]?=some v->W.cell? ⟨b,k*4+j,none⟩=some v:=fun j v hv=>by
 have hj:j<4:=by
  have:=lA hv;simpa [FV.cells] using this
 have hk:k<L.length:=(yao.1 hf).1;have hl:=h.1;rw[sW] at hl;have h0:=h.le;obtain⟨b1,o1,e,-,hc⟩:=h.some (by omega);obtain⟨rfl,rfl⟩:b=b1/\0=o1:=by simpa using e
 have h1:=yR L k f hf j hj;rw[hv] at h1;have:=hc (k*4+j) v h1;rw[ybL] at this;exact this
def aS (ls:List Int)(m:MV)(c:MC):List UInt8:=ls.flatMap fun x=>bW x m c
def dL (m:MV)(c:MC):List UInt8:=val 1 (au m.k.toNat)++aS (lettersOf m.k m.wh) m c
theorem pO(ls:List Int)(x:Int)(m:MV)(c:MC):aS (ls++[x]) m c=aS ls m c++bW x m c:=by simp[aS]
structure FitsM (m:MV)(c:MC):Prop where
 rs:mQ c.rs
 rl:bz m.rs c.rs=true->(dM m.rs c.rs).length<=4194304
 lg:(∀p∈c.log,aA p.1.op p.2=true)->(gq c.log).length<=4194304
def bY (m:MV)(c:MC):Bool:=eu m c&&decide ((dL m c).length<=8388608)
theorem kinds(k:Int)(wh:Bool):lettersOf k wh=[]\/((k=1\/k=2\/k=3\/k=4\/k=5\/k=6\/k=7\/k=8\/k=9\/k=10\/k=11\/k=12)):=by
 by_cases h:1<=k/\k<=12
 ·right;omega
 left;have e:gm k wh=[]:=by
  unfold gm mapM
  repeat rw[if_neg (by omega)]
  simp
 unfold lettersOf;rw[e];rfl
theorem BA(h:(113:Int)∈lettersOf k wh):k=1\/k=3:=by
 rcases kinds k wh with h0 | h0
 ·rw[h0] at h;cases h
 rcases h0 with rfl|rfl|rfl|rfl|rfl|rfl|rfl|rfl|rfl|rfl|rfl|rfl<;>cases wh<;>first | (left;rfl) | (right;rfl) | (exact absurd h (by decide))
theorem Bo(h:(114:Int)∈lettersOf k wh):k=2:=by
 rcases kinds k wh with h0 | h0
 ·rw[h0] at h;cases h
 rcases h0 with rfl|rfl|rfl|rfl|rfl|rfl|rfl|rfl|rfl|rfl|rfl|rfl<;>cases wh<;>first | rfl | (exact absurd h (by decide))
structure WellP (m:MV)(c:MC):Prop where
 ls:lettersOf m.k m.wh≠[]
 same:aH m c (jY (lettersOf m.k m.wh) m) (nJ (lettersOf m.k m.wh) c)=true
 f0:0<=m.fr
 f7:m.fr<7
 ln:m.ln<=4096
 sn:m.sn<=4194304
 hn:m.hn<=7
 log:∀p∈c.log,aA p.1.op p.2=true
 rq:m.k=1\/m.k=3->aA m.rq.op c.rq=true
 rs:m.k=2->bz m.rs c.rs=true
theorem WellP.of(h:eu m c=true):WellP m c:=by
 unfold eu at h;simp only[yaq,yaG,ybz] at h;obtain⟨h1,h2,h3,h4,h5,h6,h7,h8,h9⟩:=h;refine⟨h1,h2,h3,h4,h5,h6,h7,fun p hp=>?_,fun hk=>?_,fun hk=>?_⟩
 ·have:=yaS.1 h8 p hp;simpa using this
 ·rw[if_pos hk] at h9;exact h9
 rw[if_neg (by omega),if_pos hk] at h9;exact h9
theorem WellP.may(h:WellP m c)(hf:FitsM m c):∀x∈lettersOf m.k m.wh,MayF x m c:=fun x hx=>
 ⟨fun _=>⟨h.f0,h.f7⟩,fun e=>h.rq (BA (e▸hx)),fun e=>by have:=h.rs (Bo (e▸hx));exact⟨this,hf.rl this⟩,fun _=>h.sn,fun _=>⟨h.log,hf.lg h.log,by have:=h.ln;omega⟩,fun _=>by have:=h.hn;omega⟩
theorem AU{W:World}(hm:MAt W m c)(h:MayF x m c):(bW x m c).length<=4194309:=by
 by_cases e118:x=118
 ·subst e118;show (val 2 (au m.vi.toNat)).length<=_;rw[ae,ai];omega
 by_cases e110:x=110
 ·subst e110;show (val 3 (au m.no.toNat)).length<=_;rw[ae,ai];omega
 by_cases e102:x=102
 ·subst e102;show (val 4 (au m.fr.toNat)).length<=_;rw[ae,ai];omega
 by_cases e99:x=99
 ·subst e99;show (val 5 (au m.cl.toNat)).length<=_;rw[ae,ai];omega
 by_cases e117:x=117
 ·subst e117;show (val 6 (au m.nu.toNat)).length<=_;rw[ae,ai];omega
 by_cases e113:x=113
 ·subst e113;have:=iJ hm.rq (h.rq rfl);show (val 7 (dG m.rq (opL m.rq.op c.rq))).length<=_;rw[ae,gX];omega
 by_cases e114:x=114
 ·subst e114;obtain⟨-,h2⟩:=h.rs rfl;show (val 8 (dM m.rs c.rs)).length<=_;rw[ae];omega
 by_cases e97:x=97
 ·subst e97;show (val 9 (au m.at_.toNat)).length<=_;rw[ae,ai];omega
 by_cases e109:x=109
 ·subst e109;show (val 10 (au m.cm.toNat)).length<=_;rw[ae,ai];omega
 by_cases e98:x=98
 ·subst e98;show (val 11 (au m.bs.toNat)).length<=_;rw[ae,ai];omega
 by_cases e115:x=115
 ·subst e115;have h2:=h.sn rfl;have h3:=hm.sn.1;rw[aV] at h3;show (val 12 c.snap).length<=_;rw[ae];omega
 by_cases e108:x=108
 ·subst e108;obtain⟨-,h2,-⟩:=h.log rfl;show (val 13 (gq c.log)).length<=_;rw[ae];omega
 by_cases e111:x=111
 ·subst e111;show (val 14 (au m.nc.toNat)).length<=_;rw[ae,ai];omega
 by_cases e119:x=119
 ·subst e119;show (val 15 [if m.wh then 1 else 0]).length<=_;rw[ae];simp
 by_cases e101:x=101
 ·subst e101;have h2:=h.seen rfl;have h3:=hm.se.1;rw[iq] at h3;show (val 16 (df c.seen)).length<=_;rw[ae,jS];omega
 unfold bW;simp only[e118,e110,e102,e99,e117,e113,e114,e97,e109,e98,e115,e108,e111,e119,e101,if_false];exact yam _
theorem nK{W:World}(hm:MAt W m c):∀(ls:List Int),(∀x∈ls,MayF x m c)->(aS ls m c).length<=ls.length*4194309
 | [],_=>yam _
 | x::ls,h=>by
  have h1:=AU hm (h x (by simp));have h2:=nK hm ls (fun y hy=>h y (by simp[hy]));have e:aS (x::ls) m c=bW x m c++aS ls m c:=rfl;rw[e,yab,yaF];omega
theorem nC(k:Int)(wh:Bool):(lettersOf k wh).length<=15:=List.length_filter_le _ _
theorem jv{W:World}(h:plainAt W t fo ta ob)(hw:WrAt B g l 0 v W)(hl:2<=l.length)(hk:KeepW g v v' W W'):plainAt W' t fo ta ob:=by
 have h1:ta≠g:=fun e=>by have:=h.1;rw[e,hw.at_] at this;cases this
 have h2:ob≠g:=fun e=>by have:=h.2;rw[e,hw.at_] at this;cases this
 exact⟨(hk.1 _ (lA h.1) h1 (Px hw.own (by rw[ycf];exact hl) h.1)).trans h.1,(hk.1 _ (lA h.2) h2 (zY h.2 (fun c fr e=>by cases e) hw.own)).trans h.2⟩
theorem AllAt.kw{W:World}(h:AllAt t0 t1 t2 t3 t4 t5 t6 t7 W)(hw:WrAt B g l 0 v W)(hl:2<=l.length)(hk:KeepW g v v' W W'):AllAt t0 t1 t2 t3 t4 t5 t6 t7 W':=
 ⟨jv h.a0 hw hl hk,jv h.a1 hw hl hk,jv h.a2 hw hl hk,jv h.a3 hw hl hk,jv h.a4 hw hl hk,jv h.a5 hw hl hk,jv h.a6 hw hl hk,jv h.a7 hw hl hk⟩
theorem KC{W:World}(h:Rd W 4 (some ⟨b,0,none⟩) n cap (fV L))(hL:0<L.length)(hw:WrAt B g l 0 v W)(hl:2<=l.length)(hk:KeepW g v v' W W')(hz:W.heap.size<=W'.heap.size):Rd W' 4 (some ⟨b,0,none⟩) n cap (fV L):=by
 have hn:=h.1;rw[sW] at hn;have hle:=h.le;obtain⟨b1,o1,e1,hlt,hc⟩:=h.some (by omega);obtain⟨rfl,rfl⟩:b=b1/\0=o1:=by simpa using e1
 obtain⟨f,hf⟩:∃f,L[0]?=some f:=⟨_,yac hL⟩
 have h1:=yR L 0 f hf 0 (by decide);have h2:=hc 0 (.int .i32 f.l) (by simpa [FV.cells] using h1);have hne:b≠g:=fun e=>by
  subst e;have hat:=hw.at_;simp only[World.cell?,hat] at h2;have h3:v=.int .i32 f.l:=by simpa using h2
  obtain⟨a,cap,e4,-⟩:=Rd.of_own hw.own;rw[h3] at e4;cases e4
 have hblk:=hk.1 b hlt hne (LQ hw.own (by omega) h2 (fun z e=>by cases e));obtain⟨g1,g2,g3,g4,g5⟩:=h;refine⟨g1,g2,g3,g4,fun h0 a ha=>?_⟩;cases ha;obtain⟨s,l,c⟩:=g5 h0 _ rfl;exact⟨s,yaz l hz,fun j u hu=>(yaK (a:=⟨b,0+j,none⟩) hblk).trans (c j u hu)⟩
structure PkLoop (w:World)(m:MV)(c:MC)(B b n t0 t1 t2 t3 t4 t5 t6 t7:Nat)(L:List FV)(k:Nat)(wr:World):Prop where
 bel:Below w.heap.size w wr
 msg:wr.heap[w.heap.size]?=some m.box
 row:Rd wr 4 (some ⟨b,0,none⟩) L.length n (fV L)
 all:AllAt t0 t1 t2 t3 t4 t5 t6 t7 wr
 wr:∃v,WrAt B B (val 1 (au m.k.toNat)++aS ((L.take k).map FV.l) m c) 0 v wr
theorem Nh(m:MV)(c:MC)(w:World)(h:MAt w m c)(hu:U64M m c)(hk0:0<=m.k)(hk1:m.k<=255)(hmf:∀x∈lettersOf m.k m.wh,MayF x m c):Calls Tryz.prog 61 #[m.val] w (JJ w (dL m c)):=by
 have hb0:=bN w m.box;have k0:=aN w m.box
 obtain⟨kn,hkn⟩:∃n:Nat,m.k=(n:Int):=⟨m.k.toNat,by omega⟩
 have hkw:IntKind.wrap .u64 m.k=(kn:Int):=by rw[hkn,ybi];omega
 have HK:Hid (m.k.toNat=kn):=hid (by omega);clear hkn hk0 hk1;unfold MV.box MV.cells at hb0 k0;unfold MV.val MV.cells;go_in;go_upto_region 1 with fail;generalize hg:w.alloc _=W0 at *;have q0:W0.heap[w.heap.size]?=some m.box:=k0;clear hg k0;have hbw:=bN W0 (.cells #[.slice none 0 0,.int .i64 0] 177);have hw1:WrAt W0.heap.size W0.heap.size [] 0 (.slice none 0 0) (W0.alloc (.cells #[.slice none 0 0,.int .i64 0] 177)):=⟨aN _ _,yag _,yaC _ _ _ _⟩
 have q1:=af q0 hbw;have c0:=(McAt.of q1).c0;have hB0:=hb0.size;have hBw:w.heap.size<W0.heap.size:=lA q0;go_wp2_with fail;refine (ui W0.heap.size W0.heap.size [] _ 1 kn _ hw1 (by decide) (by simp)).mono ?_;rintro e W2 ⟨rfl,v2,hw2,hb2,-⟩;rw[ybO] at hw2;have q2:W2.heap[w.heap.size]?=some m.box:=(hb2.block _ hBw).trans q1;have bel2:=(hb0.trans (hbw.mono hB0)).trans (hb2.mono hB0);generalize hBq:W0.heap.size=B at *;clear hbw hw1 q1 q0 c0 hb2 hBq hb0;have c0:=(McAt.of q2).c0;have c25:=(McAt.of q2).c25;go_wp2_with fail;refine (yH m.k m.wh W2).mono ?_;rintro e W3 ⟨b,t0,t1,t2,t3,t4,t5,t6,t7,ln,n,rfl,hln,hrow,hall,hb3⟩;obtain⟨L,hL⟩:∃L,ofL m.k m.wh t0 t1 t2 t3 t4 t5 t6 t7=L:=⟨_,rfl⟩
 have hmem:∀f∈L,f∈allL t0 t1 t2 t3 t4 t5 t6 t7:=fun f hf=>Az (by rw[hL];exact hf);have hlet:L.map FV.l=lettersOf m.k m.wh:=by rw[<-hL];exact og _ _ _ _ _ _ _ _ _ _
 rw[hL] at hrow hln;subst hln;have HLet:=hid hlet;have s0:PkLoop w m c B b n t0 t1 t2 t3 t4 t5 t6 t7 L 0 W3:=⟨bel2.trans (hb3.mono bel2.size),af q2 hb3,hrow,hall,v2,by rw[HK.out];simpa [aS] using hw2.later hb3⟩
 have hLn:L.length<=15:=by
  have:=congrArg List.length hlet;rw[ybl] at this;have:=nC m.k m.wh;omega
 have hmL:∀f∈L,MayF f.l m c:=fun f hf=>hmf _ (by rw[<-hlet];exact List.mem_map_of_mem hf);clear hL hlet hrow hall hb3 q2 c0 c25 bel2 hw2;go_wp2_with fail;go_loopw [18] (fun p wr=>∃k:Nat,k<=L.length/\p=.int .i64 (k:Int)/\PkLoop w m c B b n t0 t1 t2 t3 t4 t5 t6 t7 L k wr) (fun p _=>L.length-(intOf p).toNat)
 case atStart=>exact⟨0,yam _,rfl,s0⟩
 case round=>
  obtain⟨k,hk,rfl,hW⟩:=hrel;clear s0;obtain⟨v,hv⟩:=hW.wr;by_cases hkn:k<L.length
  ·obtain⟨f,hf⟩:∃f,L[k]?=some f:=⟨_,yac hkn⟩
   have hfL:=yan hf;have hfm:=hmem f hfL;have hmf1:=hmL f hfL;obtain⟨pf,pc,hP⟩:=QK f hfm;obtain⟨o1,o2,o3⟩:=vz _ _ _ _ _ _ _ _ f hfm;have hrg:=wU hW.row hf;have hn1:L.take (k+1)=L.take k++[f]:=by rw[yaE,hf];rfl
   have HN:=hid hn1;have hM:=h.later hW.bel;have hlen:(val 1 (au m.k.toNat)++aS ((L.take k).map FV.l) m c).length<=100000000:=by
    have h1:=nK hM ((L.take k).map FV.l) (fun x hx=>by
     obtain⟨f',hf',rfl⟩:=ybM.1 hx;exact hmL f' (ycz hf'))
    have h2:((L.take k).map FV.l).length<=15:=by rw[ybl];exact yae (List.length_take_le _ _) (by omega)
    rw[yab,ae,ai];have h3:=ybc 4194309 h2;omega
   have hl2:2<=(val 1 (au m.k.toNat)++aS ((L.take k).map FV.l) m c).length:=by rw[yab,ae];omega
   have HLen:=hid hlen;have HL2:=hid hl2;obtain⟨fl,fk,fp,ft⟩:=f;obtain⟨he,hen,hcl⟩:=hP;dsimp only at he hcl o1 o2 o3 hmf1;subst he;have hone:(#[.int .i32 fl,fk,.func (.func pf) #[] pc,ft]:Array Value).all (·.oneCell')=true:=by simp[Value.oneCell'] at o1 o3 ⊢;exact⟨o1,o3⟩
   unfold FV.cells at hrg;dsimp only at hrg;have i0:(0:Int)<=(k:Int):=by omega
   have i1:(k:Int)<(L.length:Int):=by omega
   have hcap:=hW.row.le;have hlt:b<wr.heap.size:=(hW.row.2.2.2.2 (by omega) _ rfl).2.1;clear hn1 hf hfm hlen hl2;go_upto_region 5 with (first | (refine dB (ty:=171) hrg rfl rfl rfl (by kernel_rfl) (by kernel_rfl) ?_;go_simp) | (refine mr rfl rfl rfl rfl (by kernel_rfl) rfl hone ?_;go_simp));generalize hg:wr.alloc _=W3;have e3:wr.alloc (FV.box ⟨fl,fk,.func (.func pf) #[] pc,ft⟩)=W3:=hg;have hb3:=bE e3
   have k3:W3.heap[wr.heap.size]?=some (FV.box ⟨fl,fk,.func (.func pf) #[] pc,ft⟩):=aE e3
   obtain⟨d0,d1,d2,d3,-⟩:=qh k3;dsimp only at d0 d1 d2 d3;have hv3:=hv.later hb3;have hcall:=hcl B B w.heap.size _ v m c W3 (hW.all.later hb3) hv3 HLen.out (af hW.msg hb3) (hM.later hb3) hu hmf1 ⟨fun h0 a ha=>Nat.lt_trans (h.sn.lt h0 a ha) hBw⟩;clear hg e3 hrg hone o1 o2 o3 hcl;go_wp2_with fail;refine hcall.mono ?_;rintro e W4 ⟨rfl,v4,hw4,hb4,hk4⟩;have hW4:PkLoop w m c B b n t0 t1 t2 t3 t4 t5 t6 t7 L (k+1) W4:=by
    have hrow3:=hW.row.later hb3;refine⟨(hW.bel.trans (hb3.mono hW.bel.size)).trans (hb4.mono (yaZ hBw)),(hb4.block _ hBw).trans (af hW.msg hb3),KC hrow3 (by omega) hv3 HL2.out hk4 (by have:=hb4.size;omega),(hW.all.later hb3).kw hv3 HL2.out hk4,v4,?_⟩;rw[HN.out,List.map_append,List.map_singleton,pO,<-yav];exact hw4
   clear d0 d1 d2 d3 k3 hcall hw4 hb4 hk4 hv3 hb3 hW hv hM;go_wp2_with fail;go_roundw
   case rel=>exact⟨k+1,by omega,by go_num,hW4⟩
   case measure=>simp[intOf];omega
  obtain rfl:k=L.length:=by omega
  have hfull:L.take L.length=L:=ybG;rw[hfull,HLet.out] at hv;have hmsgL:val 1 (au m.k.toNat)++aS (lettersOf m.k m.wh) m c=dL m c:=rfl;rw[hmsgL] at hv;have hlen:(dL m c).length<=100000000:=by
   have h1:=nK h (lettersOf m.k m.wh) hmf;have h2:=nC m.k m.wh;have h3:=ybc 4194309 h2;unfold dL;rw[yab,ae,ai];omega
  have hbel:=hW.bel;clear hfull hmsgL hW;go_wp2_with fail;refine (sD _ _ _ _ _ hv hlen).mono ?_;rintro e W5 ⟨v5,rfl,ho5,hb5⟩;obtain⟨a5,k5,e5,hr5⟩:=Rd.of_own ho5;subst e5;have hf5:=kR ho5;go_wp2_with fail;go_ret2;exact⟨a5,k5,rfl,hr5,hbel.trans (hb5.mono hbel.size),fun a ha=>yae hbel.size (hf5 a ha)⟩
def fC (x:Int)(m:MV)(c:MC):Bool:=
 if x=102 then decide (0<=m.fr)&&decide (m.fr<7)
 else if x=113 then aA m.rq.op c.rq
 else if x=114 then bz m.rs c.rs
 else if x=108 then !(c.log.any fun u=>!aA u.1.op u.2)&&decide (m.ln<=4096)
 else if x=101 then decide (m.hn<=7)
 else true
def lw (x:Int)(m:MV)(c:MC)(w:World)(e:Ending)(w':World):Prop:=∃(l:List UInt8) (ax:Option Addr) (cx:Nat) (ok:Bool),e=.returned (.tuple #[.slice ax l.length cx,.bool ok])/\Rd w' 1 ax l.length cx (byV l)/\Below w.heap.size w w'/\ok=fC x m c/\(ok=true->l=bW x m c)
theorem yj(t:UInt8)(z:Int)(W:World)(h0:0<=z)(h1:z<18446744073709551616) :
  Calls Tryz.prog 52 #[.int .u8 (t.toNat:Int),.int .u64 z] W (jw W (val t (au z.toNat))):=by
 have:=iY t z.toNat W (by omega);rw[ybr h0] at this;exact this
theorem McAt.op{W:World}(h:McAt W B m):∀(j:Nat) (v:Value),m.rq.op.cells[j]?=some v->W.cell? ⟨B,8+j,none⟩=some v:=fun j v hv=>by
 have hj:j<7:=by
  have:=lA hv;simpa [OV.cells] using this
 have:=h.q (2+j) v (by rcases (by omega:j=0\/j=1\/j=2\/j=3\/j=4\/j=5\/j=6) with rfl|rfl|rfl|rfl|rfl|rfl|rfl<;>exact hv);rw[show 6+(2+j)=8+j by omega] at this;exact this
theorem jA(x:Int)(t:UInt8)(z:Int)(m:MV)(c:MC)(w:World)(hz:0<=z/\z<18446744073709551616)(hs:∀j∈[(4:Int),7,8,12,13,15,16],((t.toNat:Int)==j)=false)
  (hi:∀W,(Instr.index 154 (.agg (oq m)) (.int .u8 (t.toNat:Int))).run Tryz.prog W=.ok (.int .u64 z) W) (hm:fC x m c=true) (hl:bW x m c=val t (au z.toNat)) :
  Calls Tryz.prog 53 #[m.val,.int .u8 (t.toNat:Int)] w (lw x m c w):=by
 have hb0:=bN w m.box;have k0:=aN w m.box
 have f4:=hs 4 (by simp);have f7:=hs 7 (by simp);have f8:=hs 8 (by simp);have f12:=hs 12 (by simp);have f13:=hs 13 (by simp);have f15:=hs 15 (by simp);have f16:=hs 16 (by simp);have HML:=hid (yax hm hl);clear hs hm hl;unfold MV.box MV.cells at hb0 k0;unfold MV.val MV.cells;go_in;go_upto_region 1 with fail;generalize hg:w.alloc _=W0 at *;have q0:W0.heap[w.heap.size]?=some m.box:=k0;clear hg k0;have hpl:=IL m W0;unfold oq dP at hpl hi;unfold MV.val MV.cells at hpl;have q1:=q0;unfold MV.box MV.cells at q1;go_wp2_with (refine wpList_load_row (ty:=59) q1 rfl rfl rfl (by kernel_rfl) (by kernel_rfl) ?_;go_simp);refine hpl.mono ?_;rintro e W1 ⟨rfl,hb1⟩;have hx:=hi W1;have hc:=yj t z W1 hz.1 hz.2;have hbel:=hb0.trans (hb1.mono hb0.size);clear hpl q0 q1 hb0 hb1 hi hz;go_wp2_with fail;refine hc.mono ?_;rintro e W2 ⟨v2,rfl,o2,hb2⟩;obtain⟨a2,k2,e2,r2⟩:=Rd.of_own o2;subst e2;have hbel2:=hbel.trans (hb2.mono hbel.size);clear hc o2 hb2;go_wp2_with fail;go_ret2;exact⟨_,a2,k2,true,rfl,r2,hbel2,HML.out.1.symm,fun _=>HML.out.2.symm⟩
theorem G8(m:MV)(c:MC)(w:World):Calls Tryz.prog 53 #[m.val,.int .u8 15] w (lw 119 m c w):=by
 have hb0:=bN w m.box;have k0:=aN w m.box
 unfold MV.box MV.cells at hb0 k0;unfold MV.val MV.cells;go_in;go_upto_region 1 with fail;generalize hg:w.alloc _=W0 at *;have q0:W0.heap[w.heap.size]?=some m.box:=k0;clear hg k0;have c25:=(McAt.of q0).c25;have hv:=Bv 15 m.wh W0;obtain⟨L,hL⟩:∃L,val 15 [if m.wh then 1 else 0]=L:=⟨_,rfl⟩
 rw[hL] at hv;have HL:Hid (bW 119 m c=L):=hid hL;clear hL;go_wp2_with fail;refine hv.mono ?_;rintro e W2 ⟨v2,rfl,o2,hb2⟩;obtain⟨a2,k2,e2,r2⟩:=Rd.of_own o2;subst e2;have hbel2:=hb0.trans (hb2.mono hb0.size);clear o2 hb2 c25 q0 hv;go_wp2_with fail;go_ret2;exact⟨L,a2,k2,true,rfl,r2,hbel2,rfl,fun _=>HL.out.symm⟩
theorem Ii(m:MV)(c:MC)(w:World)(h:MAt w m c)(hu:U64M m c):Calls Tryz.prog 53 #[m.val,.int .u8 7] w (lw 113 m c w):=by
 have hb0:=bN w m.box;have k0:=aN w m.box
 unfold MV.box MV.cells at hb0 k0;unfold MV.val MV.cells;go_in;go_upto_region 1 with fail;generalize hg:w.alloc _=W0 at *;have q0:W0.heap[w.heap.size]?=some m.box:=k0;clear hg k0;have hop:=(McAt.of q0).op;unfold OV.cells at hop;have hm0:=jq m.rq.op c.rq W0 (h.later hb0).rq;unfold OV.val at hm0;go_wp2_with (refine dB (ty:=36) hop rfl rfl rfl (by kernel_rfl) (by kernel_rfl) ?_;go_simp);refine hm0.mono ?_;rintro e W1 ⟨rfl,hb1⟩;have q1:=af q0 hb1;have hbel:=hb0.trans (hb1.mono hb0.size);clear hm0 hop q0 hb0 hb1;cases hm:aA m.rq.op c.rq with
 | false=>
  have HM:Hid (fC 113 m c=false):=hid hm;clear hm;go_wp2_with fail;go_ret2;exact⟨[],none,0,false,rfl,Rd.nil _ _,hbel,HM.out.symm,fun e=>by cases e⟩
 | true=>
  have HM:Hid (fC 113 m c=true):=hid hm;have hr:=uU m.rq c.rq W1 (h.later hbel).rq hm hu.rq.c0 hu.rq.c1 hu.rq.n0 hu.rq.n1;rw[lZ hm] at hr;have hlen:(dG m.rq (opL m.rq.op c.rq)).length<=4194304:=by rw[gX];have:=iJ h.rq hm;omega
  have hq:=(McAt.of q1).q;unfold RV.cells at hq;unfold RV.val RV.cells at hr;obtain⟨Z,hZ⟩:∃Z,dG m.rq (opL m.rq.op c.rq)=Z:=⟨_,rfl⟩
  rw[hZ] at hr hlen;have HZ:Hid (bW 113 m c=val 7 Z):=hid (by rw[<-hZ];rfl);clear hm hZ;go_wp2_with (refine dB (ty:=55) hq rfl rfl rfl (by kernel_rfl) (by kernel_rfl) ?_;go_simp);refine hr.mono ?_;rintro e W2 ⟨v2,rfl,o2,hb2⟩;obtain⟨a2,k2,e2,r2⟩:=Rd.of_own o2;subst e2;have hbel2:=hbel.trans (hb2.mono hbel.size);have hv:=aW 7 Z a2 _ k2 W2 hlen r2;clear hr hq q1 o2 hb2 hbel r2;go_wp2_with fail;refine hv.mono ?_;rintro e W3 ⟨v3,rfl,o3,hb3⟩;obtain⟨a3,k3,e3,r3⟩:=Rd.of_own o3;subst e3;have hbel3:=hbel2.trans (hb3.mono hbel2.size);clear hv o3 hb3;go_wp2_with fail;go_ret2;exact⟨_,a3,k3,true,rfl,r3,hbel3,HM.out.symm,fun _=>HZ.out.symm⟩
theorem J7(m:MV)(c:MC)(w:World)(h:MAt w m c)(hf:FitsM m c):Calls Tryz.prog 53 #[m.val,.int .u8 8] w (lw 114 m c w):=by
 have hb0:=bN w m.box;have k0:=aN w m.box
 unfold MV.box MV.cells at hb0 k0;unfold MV.val MV.cells;go_in;go_upto_region 1 with fail;generalize hg:w.alloc _=W0 at *;have q0:W0.heap[w.heap.size]?=some m.box:=k0;clear hg k0;have hrg:=(McAt.of q0).r;unfold QV.cells at hrg;have hm0:=uV m.rs c.rs W0 (h.later hb0).rs hf.rs;unfold QV.val QV.cells at hm0;go_wp2_with (refine dB (ty:=39) hrg rfl rfl rfl (by kernel_rfl) (by kernel_rfl) ?_;go_simp);refine hm0.mono ?_;rintro e W1 ⟨l,ax,cx,ok,rfl,r1,hb1,h1,h2⟩;have hbel:=hb0.trans (hb1.mono hb0.size);clear hm0 hrg q0 hb0 hb1;cases hm:bz m.rs c.rs with
 | false=>
  obtain⟨rfl,rfl⟩:=h2 hm;have HM:Hid (fC 114 m c=false):=hid hm;have hv:=aW 8 [] ax 0 cx W1 (by decide) r1;clear hm h1 h2;go_wp2_with fail;refine hv.mono ?_;rintro e W2 ⟨v2,rfl,o2,hb2⟩;obtain⟨a2,k2,e2,r2⟩:=Rd.of_own o2;subst e2;have hbel2:=hbel.trans (hb2.mono hbel.size);clear hv o2 hb2;go_wp2_with fail;go_ret2;exact⟨val 8 [],a2,k2,false,rfl,r2,hbel2,HM.out.symm,fun e=>by cases e⟩
 | true=>
  obtain⟨hl,rfl⟩:=h1 hm;have HM:Hid (fC 114 m c=true):=hid hm;have HL:Hid (bW 114 m c=val 8 l):=hid (by rw[hl];rfl);have hl4:l.length<=4194304:=by rw[hl];exact hf.rl hm
  have hv:=aW 8 l ax _ cx W1 hl4 r1;have f1:decide ((l.length:Int)<=4194304)=true:=yaa (by omega);clear hm h1 h2 hl hl4;go_wp2_with fail;refine hv.mono ?_;rintro e W2 ⟨v2,rfl,o2,hb2⟩;obtain⟨a2,k2,e2,r2⟩:=Rd.of_own o2;subst e2;have hbel2:=hbel.trans (hb2.mono hbel.size);clear hv o2 hb2;go_wp2_with fail;go_ret2;exact⟨val 8 l,a2,k2,true,rfl,r2,hbel2,HM.out.symm,fun _=>HL.out.symm⟩
theorem IP(m:MV)(c:MC)(w:World)(h:MAt w m c)(hs:m.sn<=4194304):Calls Tryz.prog 53 #[m.val,.int .u8 12] w (lw 115 m c w):=by
 have hb0:=bN w m.box;have k0:=aN w m.box
 unfold MV.box MV.cells at hb0 k0;unfold MV.val MV.cells;go_in;go_upto_region 1 with fail;generalize hg:w.alloc _=W0 at *;have q0:W0.heap[w.heap.size]?=some m.box:=k0;clear hg k0;have hmo:=hmO
 have f1:decide ((m.sn:Int)<=4194304)=true:=yaa (by omega);go_upto_region 12 with fail;refine yaB (S:=fun W=>W.heap[w.heap.size]?=some m.box) hmo ?_;change wpAnyH _ _ _ _ _ _ _ _ (World.drew W0);have hd:Below W0.heap.size W0 W0.drew:=(yaj _ _).drew;have s0:=af q0 hd;have hbel:=hb0.trans (hd.mono hb0.size);generalize World.drew W0=X0 at *;have hv:=aW 12 c.snap m.so m.sn m.sc X0 hs (h.later hbel).sn;have HS:=hid hs;clear hd q0 hs;have zf0:=fun (w0:World) (h:w0.heap[w.heap.size]?=some m.box)=>((McAt.of h).c22:w0.cell? ⟨w.heap.size,22,none⟩=some (.slice m.so m.sn m.sc))
 refine zp 0 (pp w.heap.size 22) rfl ?_;go_simp;refine zv 1 (.slice m.so m.sn m.sc) rfl ?_;go_simp;refine zp 3 (pp w.heap.size 22) rfl ?_;go_simp;refine zv 4 (.slice m.so m.sn m.sc) rfl ?_;go_simp;refine zp 5 (.int .i64 (m.sn:Int)) rfl (zp 6 (.bool (decide ((m.sn:Int)<=4194304))) rfl ?_);go_simp;refine zC 2 rfl hv ?_;rintro e X1 ⟨v2,rfl,o2,hb2⟩;obtain⟨a2,k2,e2,r2⟩:=Rd.of_own o2;subst e2;have s1:=af s0 hb2;have hbel2:=hbel.trans (hb2.mono hbel.size);clear o2 hb2 hv;refine⟨s1,?_⟩;go_simp;refine zp 7 (.slice a2 (val 12 c.snap).length k2) rfl (zp 8 (.bool true) rfl ?_);go_simp;refine zd ?_;go_wp2_with fail;go_ret2;exact⟨_,a2,k2,true,rfl,r2,hbel2,rfl,fun _=>rfl⟩
theorem G6(m:MV)(c:MC)(w:World):Calls Tryz.prog 53 #[m.val,.int .u8 4] w (lw 102 m c w):=by
 have hb0:=bN w m.box;have k0:=aN w m.box
 unfold MV.box MV.cells at hb0 k0;unfold MV.val MV.cells;go_in;go_upto_region 1 with fail;generalize hg:w.alloc _=W0 at *;have q0:W0.heap[w.heap.size]?=some m.box:=k0;clear hg k0;have hmo:=hmO
 go_upto_region 3 with fail;refine yaB (S:=fun W=>W.heap[w.heap.size]?=some m.box) hmo ?_;change wpAnyH _ _ _ _ _ _ _ _ (World.drew W0);have hd:Below W0.heap.size W0 W0.drew:=(yaj _ _).drew;have s0:=af q0 hd;have hbel:=hb0.trans (hd.mono hb0.size);generalize World.drew W0=X0 at *;have hw:0<=IntKind.wrap .u64 m.fr/\IntKind.wrap .u64 m.fr<18446744073709551616:=by rw[ybi];omega
 have hc:=yj 4 (IntKind.wrap .u64 m.fr) X0 hw.1 hw.2;clear hd q0 hw;have zf0:=fun (w0:World) (h:w0.heap[w.heap.size]?=some m.box)=>((McAt.of h).c3:w0.cell? ⟨w.heap.size,3,none⟩=some (.int .i64 m.fr))
 by_cases h0:0<=m.fr
 ·have f0:decide (0<=m.fr)=true:=yaa h0;by_cases h7:m.fr<7
  ·have f7:decide (m.fr<7)=true:=yaa h7;have HE:Hid (fC 102 m c=true/\val 4 (au (IntKind.wrap .u64 m.fr).toNat)=bW 102 m c):=hid ⟨by unfold fC;simp[h0,h7],by rw[show IntKind.wrap .u64 m.fr=m.fr by rw[ybi];omega];rfl⟩;clear h0 h7;refine zp 0 (pp w.heap.size 3) rfl ?_;go_simp;refine zv 1 (.int .i64 m.fr) rfl ?_;go_simp;refine zp 2 (.int .u64 (IntKind.wrap .u64 m.fr)) rfl (zp 4 (pp w.heap.size 3) rfl ?_);go_simp;refine zv 5 (.int .i64 m.fr) rfl ?_;go_simp;refine zp 6 (.bool (decide (0<=m.fr))) rfl ?_;go_simp;refine zC 3 rfl hc ?_;rintro e X1 ⟨v2,rfl,o2,hb2⟩;obtain⟨a2,k2,e2,r2⟩:=Rd.of_own o2;subst e2;have s1:=af s0 hb2;have hbel2:=hbel.trans (hb2.mono hbel.size);clear o2 hb2 hc;refine⟨s1,?_⟩;go_simp;refine zp 7 (.bool true) rfl (zp 8 (pp w.heap.size 3) rfl ?_);go_simp;refine zv 9 (.int .i64 m.fr) rfl ?_;go_simp;refine zp 10 (.bool (decide (m.fr<7))) rfl ?_;go_simp;refine zp 11 (.bool true) rfl (zp 12 (.slice a2 (val 4 (au (IntKind.wrap .u64 m.fr).toNat)).length k2) rfl (zp 13 (.bool true) rfl ?_));go_simp;refine zd ?_;go_wp2_with fail;go_ret2;exact⟨_,a2,k2,true,rfl,r2,hbel2,HE.out.1.symm,fun _=>HE.out.2⟩
  have f7:decide (m.fr<7)=false:=yad h7;have HE:Hid (fC 102 m c=false):=hid (by unfold fC;simp[h7]);clear h0 h7;refine zp 0 (pp w.heap.size 3) rfl ?_;go_simp;refine zv 1 (.int .i64 m.fr) rfl ?_;go_simp;refine zp 2 (.int .u64 (IntKind.wrap .u64 m.fr)) rfl (zp 4 (pp w.heap.size 3) rfl ?_);go_simp;refine zv 5 (.int .i64 m.fr) rfl ?_;go_simp;refine zp 6 (.bool (decide (0<=m.fr))) rfl ?_;go_simp;refine zC 3 rfl hc ?_;rintro e X1 ⟨v2,rfl,o2,hb2⟩;obtain⟨a2,k2,e2,r2⟩:=Rd.of_own o2;subst e2;have s1:=af s0 hb2;have hbel2:=hbel.trans (hb2.mono hbel.size);clear o2 hb2 hc;refine⟨s1,?_⟩;go_simp;refine zp 7 (.bool true) rfl (zp 8 (pp w.heap.size 3) rfl ?_);go_simp;refine zv 9 (.int .i64 m.fr) rfl ?_;go_simp;refine zp 10 (.bool (decide (m.fr<7))) rfl ?_;go_simp;refine zp 11 (.bool false) rfl (zp 12 (.slice a2 (val 4 (au (IntKind.wrap .u64 m.fr).toNat)).length k2) rfl (zp 13 (.bool false) rfl ?_));go_simp;refine zd ?_;go_wp2_with fail;go_ret2;exact⟨_,a2,k2,false,rfl,r2,hbel2,HE.out.symm,fun e=>by cases e⟩
 have f0:decide (0<=m.fr)=false:=yad h0;have HE:Hid (fC 102 m c=false):=hid (by unfold fC;simp[h0]);clear h0;refine zp 0 (pp w.heap.size 3) rfl ?_;go_simp;refine zv 1 (.int .i64 m.fr) rfl ?_;go_simp;refine zp 2 (.int .u64 (IntKind.wrap .u64 m.fr)) rfl (zp 4 (pp w.heap.size 3) rfl ?_);go_simp;refine zv 5 (.int .i64 m.fr) rfl ?_;go_simp;refine zp 6 (.bool (decide (0<=m.fr))) rfl ?_;go_simp;refine zC 3 rfl hc ?_;rintro e X1 ⟨v2,rfl,o2,hb2⟩;obtain⟨a2,k2,e2,r2⟩:=Rd.of_own o2;subst e2;have s1:=af s0 hb2;have hbel2:=hbel.trans (hb2.mono hbel.size);clear o2 hb2 hc;refine⟨s1,?_⟩;go_simp;refine zp 7 (.bool false) rfl (zo 8 rfl (zo 9 rfl (zo 10 rfl (zp 11 (.bool false) rfl (zp 12 (.slice a2 (val 4 (au (IntKind.wrap .u64 m.fr).toNat)).length k2) rfl (zp 13 (.bool false) rfl ?_))))));go_simp;refine zd ?_;go_wp2_with fail;go_ret2;exact⟨_,a2,k2,false,rfl,r2,hbel2,HE.out.symm,fun e=>by cases e⟩
structure MRd (W:World)(m:MV)(c:MC):Prop where
 rq:OpRd W m.rq.op c.rq
 rs:QRd W m.rs c.rs
 sn:Rd W 1 m.so m.sn m.sc (byV c.snap)
 lg:Rd W 9 m.lo m.ln m.lc (rpV c.log)
 ops:∀p∈c.log,OpRd W p.1.op p.2
 se:Rd W 1 m.ho m.hn m.hc (je c.seen)
theorem MRd.later{W:World}(h:MRd W m c)(hb:Below W.heap.size W W'):MRd W' m c:=⟨h.rq.later hb,h.rs.later hb,h.sn.later hb,h.lg.later hb,fun p hp=>(h.ops p hp).later hb,h.se.later hb⟩
theorem OpRd.at_{W:World}{v:OV}{c:OC}(h:OpRd w v c)(h':OpAt W v c):OpAt w v c:=⟨h.a,h.b,h.c,h'.la,h'.lb,h'.lc⟩
theorem QRd.at_{W:World}{v:QV}{c:QC}(h:QRd w v c)(h':QAt W v c):QAt w v c:=⟨⟨h.e,fun p hp=>⟨h.a p hp,(h'.e.each p hp).la⟩⟩,h.c,h'.lc⟩
structure MbAt (w:World)(m:MV)(W:World):Prop where
 q:W.heap[w.heap.size]?=some m.box
 bel:Below w.heap.size w W
theorem MbAt.step{W:World}(h:MbAt w m W)(hb:Below W.heap.size W W'):MbAt w m W':=⟨af h.q hb,h.bel.trans (hb.mono h.bel.size)⟩
open Go.ChangeShapes Go.WideShapes Go.Deep
theorem DN{α:Type}:∀(Ts:List (List α)) (j:Nat) (x:α),Ts.flatten[j]?=some x->∃(i:Nat) (T:List α) (r:Nat),Ts[i]?=some T/\T[r]?=some x/\j=(Ts.take i).flatten.length+r
 | [],j,x,h=>by simp at h
 | T::Ts,j,x,h=>by
  rw[List.flatten_cons] at h;by_cases hj:j<T.length
  ·rw[ybe hj] at h;exact⟨0,T,j,rfl,h,by simp⟩
  rw[ybB (by omega)] at h;obtain⟨i,T',r,h1,h2,h3⟩:=DN Ts _ x h;exact⟨i+1,T',r,by simpa using h1,h2,by rw[ybb,List.flatten_cons,yab];omega⟩
section
variable {H:Type} {enc:TypeId×Value->H} {P:Program} {W:World}
theorem ER{t:TypeId}{fs:Array Field}(Ts:List (List TypeId))(ht:P.underlying t=some (.struct fs))(hlen:fs.size=Ts.length)
  (hB:(List.range Ts.length).all (fun i=>match fs[i]?,Ts[i]? with | some f,some T=>f.offset==(Ts.take i).flatten.length&&P.cellsOf f.type==T.length | _,_=>false)=true) (hC:P.cellsOf t=Ts.flatten.length)
  (hL:∀(i:Nat) (f:Field) (T:List TypeId),fs[i]?=some f->Ts[i]?=some T->T=[f.type]\/∀(fuel:Nat) (cs:List Value) (x:DataW H×List MemPlace),DataW.trod enc P W 0 (fun _=>true) true fuel f.type cs=some x->Leaves enc P W T cs)
  {fuel:Nat}  {x:DataW H×List MemPlace} (h:DataW.trod enc P W 0 (fun _=>true) true fuel t cs=some x):Leaves enc P W Ts.flatten cs:=by
 obtain⟨ys,n',hn',hy,hl,hyl,hf⟩:=DataW.trod_struct ht h;refine⟨by rw[hl,hC],fun j τ hτ=>?_⟩;obtain⟨i,T,r,h1,h2,rfl⟩:=DN Ts j τ hτ;have hi:i<Ts.length:=(yao.1 h1).1;have hr:r<T.length:=(yao.1 h2).1;obtain⟨f,hfi⟩:∃f,fs[i]?=some f:=⟨_,ybt (by omega)⟩
 have hb:=ybX.1 hB i (List.mem_range.2 hi);rw[hfi,h1] at hb;simp only[yaq,beq_iff_eq] at hb;obtain⟨ho,hk⟩:=hb;have hg:=hf i f hfi;have hyi:ys[i]?=some (ys[i]'(by omega)):=yac (by omega);rw[hyi] at hg;have hjlt:(Ts.take i).flatten.length+r<cs.length:=by rw[hl,hC];exact (yao.1 hτ).1
 have key:Leaves enc P W T ((cs.drop f.offset).take (P.cellsOf f.type)):=by
  rcases hL i f T hfi h1 with rfl | hh
  ·have hr0:r=0:=by simpa using hr
   have hk1:P.cellsOf f.type=1:=hk;have ht1:(cs.drop f.offset).take (P.cellsOf f.type)=[cs[f.offset]'(by rw[ho];omega)]:=by rw[hk1];exact Dl (by rw[ho];omega)
   rw[ht1] at hg ⊢;refine⟨rfl,fun j τ' hj=>?_⟩
   match j,hj with
   | 0,hj=>cases yaf hj;exact⟨_,n',_,rfl,hg⟩
  exact hh _ _ _ hg
 obtain⟨v,n,y,hv,hy2⟩:=key.2 r τ h2;refine⟨v,n,y,?_,hy2⟩;rw[ycq] at hv;split at hv
 ·rw[yca,ho] at hv;exact hv
 cases hv
end
section
variable {H:Type} {enc:TypeId×Value->H} {W:World}
theorem zx{ts:List TypeId}(h:Leaves enc Tryz.prog W ts cs)(o n:Nat):Leaves enc Tryz.prog W ((ts.drop o).take n) ((cs.drop o).take n):=by
 refine⟨by rw[yaV,yaV,yaM,yaM,h.1],fun j τ hj=>?_⟩;rw[ycq] at hj;split at hj
 ·rename_i hjn;rw[yca] at hj;obtain⟨v,n',y,hv,hy⟩:=h.2 _ τ hj;refine⟨v,n',y,?_,hy⟩;rw[ycq,if_pos hjn,yca];exact hv
 cases hj
theorem Lr{l:List Value}{o:Nat}(h:l=(cs.drop o).take n)(k:Nat)(hk:k<n):l[k]?=cs[o+k]?:=by
 rw[h,ycq,if_pos hk,yca]
end
end Msg
namespace Msg
open Go.RowKit Go.Lib Mem Tlv
open Go.ChangeShapes Go.WideShapes Go.Deep
def yY:List (List TypeId):=[[3],Nv,[34],[22],[22],[22],[27,4,37,34]]
section
variable {H:Type} {enc:TypeId×Value->H} {W:World}
theorem EX (fuel:Nat)(cs:List Value)(x:DataW H×List MemPlace)(h:DataW.trod enc Tryz.prog W 0 (fun _=>true) true fuel 43 cs=some x):Leaves enc Tryz.prog W yY.flatten cs:=by
 refine ER yY Tryz.underlying43 (by kernel_rfl) (by kernel_rfl) (by kernel_rfl) (fun i f T hf hT=>?_) h
 match i,hf,hT with
 | 0,hf,hT=>cases yaf hf;cases yaf hT;exact .inl rfl
 | 1,hf,hT=>cases yaf hf;cases yaf hT;exact .inr L9
 | 2,hf,hT=>cases yaf hf;cases yaf hT;exact .inl rfl
 | 3,hf,hT=>cases yaf hf;cases yaf hT;exact .inl rfl
 | 4,hf,hT=>cases yaf hf;cases yaf hT;exact .inl rfl
 | 5,hf,hT=>cases yaf hf;cases yaf hT;exact .inl rfl
 | 6,hf,hT=>cases yaf hf;cases yaf hT;exact .inr Iy
 | i+7,hf,hT=>have:=(yao.1 hT).1;simp[yY] at this;omega
theorem O3 (cs:List Value)(h:Leaves enc Tryz.prog W yY.flatten cs):∃p:XP,ActAt W p/\p.1.cells.toList=cs:=by
 obtain⟨v0,n0,y0,c0,d0⟩:=h.2 0 3 rfl;obtain⟨v8,n8,y8,c8,d8⟩:=h.2 8 34 rfl;obtain⟨v9,n9,y9,c9,d9⟩:=h.2 9 22 rfl;obtain⟨v10,n10,y10,c10,d10⟩:=h.2 10 22 rfl;obtain⟨v11,n11,y11,c11,d11⟩:=h.2 11 22 rfl;obtain⟨z0,e0,-,-⟩:=ycn (k:=.i64) Tryz.underlying3 d0;obtain rfl:=yaI e0;obtain⟨z9,e9,-,w9⟩:=ycn (k:=.u64) Tryz.underlying22 d9;obtain rfl:=yaI e9;obtain⟨z10,e10,-,w10⟩:=ycn (k:=.u64) Tryz.underlying22 d10;obtain rfl:=yaI e10;obtain⟨z11,e11,-,w11⟩:=ycn (k:=.u64) Tryz.underlying22 d11;obtain rfl:=yaI e11;obtain⟨so,sn,sc,zs,rfl,hs,hsz⟩:=Au (e:=5) (k:=.u8) Tryz.underlying34 Tryz.underlying5 (by kernel_rfl) d8;obtain⟨sb,hsb⟩:=yA zs (fun z h=>wf_u8 (hsz z h));rw[hsb] at hs;obtain⟨o,oc,ho,hoc⟩:=Rz 0 (zx h 1 7) (fun j=>by rw[ybL];rfl);obtain⟨q,qc,hq,hqc⟩:=Qz 0 (zx h 12 4) (fun j=>by rw[ybL];rfl);refine⟨(⟨z0,o,so,sn,sc,z9,z10,z11,q⟩,⟨oc,sb,qc⟩),⟨ho.a,ho.b,ho.c,hs,⟨hq.e,fun p hp=>⟨hq.a p hp,by have h1:=(hq.a p hp).2.1;have h2:=(hq.a p hp).2.2.1;unfold maxLen at h2;omega⟩⟩,hq.c,wf_u64 w9,wf_u64 w10,wf_u64 w11⟩,?_⟩;have hlen:cs.length=16:=h.1;have O:∀k (u:Value),k<7->(opE o)[k]?=some u->some u=cs[1+k]?:=fun k u hk hu=>by
  have:=hoc k u hu;rw[ybL] at this;exact this.symm.trans (Lr rfl k hk)
 have R:∀k (u:Value),k<4->q.cells.toList[k]?=some u->some u=cs[12+k]?:=fun k u hk hu=>by
  have:=hqc k u hu;rw[ybL] at this;exact this.symm.trans (Lr rfl k hk)
 refine List.ext_getElem? (fun j=>?_)
 match j with
 | 0=>exact c0.symm
 | 1=>exact O 0 _ (by decide) rfl
 | 2=>exact O 1 _ (by decide) rfl
 | 3=>exact O 2 _ (by decide) rfl
 | 4=>exact O 3 _ (by decide) rfl
 | 5=>exact O 4 _ (by decide) rfl
 | 6=>exact O 5 _ (by decide) rfl
 | 7=>exact O 6 _ (by decide) rfl
 | 8=>exact c8.symm
 | 9=>exact c9.symm
 | 10=>exact c10.symm
 | 11=>exact c11.symm
 | 12=>exact R 0 _ (by decide) rfl
 | 13=>exact R 1 _ (by decide) rfl
 | 14=>exact R 2 _ (by decide) rfl
 | 15=>exact R 3 _ (by decide) rfl
 | j+16=>rw[ybm (by simp[AcV.cells]),ybm (by omega)]
theorem Iu {ao:Option Addr}{n cap:Nat}{d:DataW H}{ps:List MemPlace}(h:DataW.Trod enc Tryz.prog W 0 (fun _=>true) true 23 (.slice ao n cap) d ps):∃l:List XP,ActsRd W ao n cap l:=by
 obtain⟨fuel,hf⟩:=h;obtain⟨ao',n',cap',ys,e,hl,hg,hr⟩:=qI (fun p:XP=>p.1.cells.toList) (fun p=>ActAt W p) 16 (fun _=>rfl) (by decide) (ts:=yY.flatten) Tryz.underlying23 (by kernel_rfl) EX O3 hf;cases e;exact⟨ys,hr,hg⟩
end
