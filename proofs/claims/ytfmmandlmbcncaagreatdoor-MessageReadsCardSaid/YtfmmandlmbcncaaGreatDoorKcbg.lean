/-
  A part of the proof.
-/
import Derived.Test.YtfmmandlmbcncaaGreatDoorKcbf
set_option maxHeartbeats 40000000
set_option maxRecDepth 100000
namespace Go.Proofs.YtfmmandlmbcncaaGreatDoor.Msg
open Go.RowKit Go.Lib Mem Tlv
def aj (k:Int):MV:=⟨k,0,0,0,0,0,bM,bG,0,0,0,none,0,0,none,0,0,0,false,none,0,0⟩
def dK:MC:=⟨⟨[],[],[]⟩,⟨[],[]⟩,[],[],[]⟩
def dh (x:Int)(c0 c:MC):MC:=
 if x=113 then { c0 with rq:=c.rq }
 else if x=114 then { c0 with rs:=c.rs }
 else if x=115 then { c0 with snap:=c.snap }
 else if x=108 then { c0 with log:=c.log }
 else if x=101 then { c0 with seen:=c.seen }
 else c0
theorem jG (W:World)(k:Int):MAt W (aj k) dK:=⟨⟨Rd.nil _ _,Rd.nil _ _,Rd.nil _ _,Nat.zero_le _,Nat.zero_le _,Nat.zero_le _⟩,⟨⟨Rd.nil _ _,fun _ hp=>absurd hp List.not_mem_nil⟩,Rd.nil _ _,Nat.zero_le _⟩,Rd.nil _ _,LgAt.nil _,Rd.nil _ _,Nat.zero_le _,Nat.zero_le _⟩
theorem Ld {W:World}{x:Int}{m0 m:MV}{c0 c:MC}(h0:MAt W m0 c0)(h:MAt W m c):MAt W (aI x m0 m) (dh x c0 c):=by
 by_cases e118:x=118
 ·subst e118;exact⟨h0.rq,h0.rs,h0.sn,h0.lg,h0.se,h0.ls,h0.lh⟩
 by_cases e110:x=110
 ·subst e110;exact⟨h0.rq,h0.rs,h0.sn,h0.lg,h0.se,h0.ls,h0.lh⟩
 by_cases e102:x=102
 ·subst e102;exact⟨h0.rq,h0.rs,h0.sn,h0.lg,h0.se,h0.ls,h0.lh⟩
 by_cases e99:x=99
 ·subst e99;exact⟨h0.rq,h0.rs,h0.sn,h0.lg,h0.se,h0.ls,h0.lh⟩
 by_cases e117:x=117
 ·subst e117;exact⟨h0.rq,h0.rs,h0.sn,h0.lg,h0.se,h0.ls,h0.lh⟩
 by_cases e113:x=113
 ·subst e113;exact⟨h.rq,h0.rs,h0.sn,h0.lg,h0.se,h0.ls,h0.lh⟩
 by_cases e114:x=114
 ·subst e114;exact⟨h0.rq,h.rs,h0.sn,h0.lg,h0.se,h0.ls,h0.lh⟩
 by_cases e97:x=97
 ·subst e97;exact⟨h0.rq,h0.rs,h0.sn,h0.lg,h0.se,h0.ls,h0.lh⟩
 by_cases e109:x=109
 ·subst e109;exact⟨h0.rq,h0.rs,h0.sn,h0.lg,h0.se,h0.ls,h0.lh⟩
 by_cases e98:x=98
 ·subst e98;exact⟨h0.rq,h0.rs,h0.sn,h0.lg,h0.se,h0.ls,h0.lh⟩
 by_cases e115:x=115
 ·subst e115;exact⟨h0.rq,h0.rs,h.sn,h0.lg,h0.se,h.ls,h0.lh⟩
 by_cases e108:x=108
 ·subst e108;exact⟨h0.rq,h0.rs,h0.sn,h.lg,h0.se,h0.ls,h0.lh⟩
 by_cases e111:x=111
 ·subst e111;exact⟨h0.rq,h0.rs,h0.sn,h0.lg,h0.se,h0.ls,h0.lh⟩
 by_cases e119:x=119
 ·subst e119;exact⟨h0.rq,h0.rs,h0.sn,h0.lg,h0.se,h0.ls,h0.lh⟩
 by_cases e101:x=101
 ·subst e101;exact⟨h0.rq,h0.rs,h0.sn,h0.lg,h.se,h0.ls,h.lh⟩
 unfold aI dh;simp only[e118,e110,e102,e99,e117,e113,e114,e97,e109,e98,e115,e108,e111,e119,e101,if_false];exact h0
def jX (ls:List Int)(m:MV):MV:=ls.foldl (fun b x=>aI x b m) (aj m.k)
def mX (ls:List Int)(c:MC):MC:=ls.foldl (fun b x=>dh x b c) dK
theorem DN (ls:List Int)(x:Int)(m:MV):jX (ls++[x]) m=aI x (jX ls m) m:=by unfold jX;rw[List.foldl_append];rfl
theorem NC {W:World}{m:MV}{c:MC}(h:MAt W m c)(ls:List Int):MAt W (jX ls m) (mX ls c):=by
 have key:∀(ls:List Int) (m0:MV) (c0:MC),MAt W m0 c0->MAt W (ls.foldl (fun b x=>aI x b m) m0) (ls.foldl (fun b x=>dh x b c) c0):=by
  intro ls;induction ls with
  | nil=>exact fun _ _ h0=>h0
  | cons x ls ih=>exact fun m0 c0 h0=>ih _ _ (Ld h0 h)
 exact key ls _ _ (jG W m.k)
def dJ:List Int:=[118,110,102,99,117,113,114,97,109,98,115,108,111,119,101]
def lettersOf (k:Int)(wh:Bool):List Int:=dJ.filter fun x=>oP (fE k wh) x
theorem mW (k:Int)(wh:Bool)(t0 t1 t2 t3 t4 t5 t6 t7:Nat):(ofL k wh t0 t1 t2 t3 t4 t5 t6 t7).map FV.l=lettersOf k wh:=by
 unfold ofL lettersOf;have e:dJ=(allL t0 t1 t2 t3 t4 t5 t6 t7).map FV.l:=rfl;rw[e,List.filter_map]
 congr 1
 refine List.filter_congr (fun f _=>?_);simp[goes]
theorem yu {k:Int}{wh:Bool}{t0 t1 t2 t3 t4 t5 t6 t7:Nat}{f:FV}(h:f∈ofL k wh t0 t1 t2 t3 t4 t5 t6 t7):f∈allL t0 t1 t2 t3 t4 t5 t6 t7:=(List.mem_filter.1 h).1
def dY (m:MV)(c:MC):Bool:=
 decide (lettersOf m.k m.wh≠[])&&(aG m c (jX (lettersOf m.k m.wh) m) (mX (lettersOf m.k m.wh) c)&&(decide (0<=m.fr)&&(decide (m.fr<7)&&(decide (m.ln<=4096)&&(decide (m.sn<=4194304)&&(decide (m.hn<=7)&&(!(c.log.any fun u=>!aF u.1.op u.2)&&(if m.k=1\/m.k=3 then aF m.rq.op c.rq else if m.k=2 then bz m.rs c.rs else true))))))))
theorem gY {B tb:Nat}{W W':World}{t:Int}{fo:Value}{ta ob:Nat}{m:MV}(h:plainAt W t fo ta ob)(hm:W.heap[tb]?=some m.box)(ho:Oth B tb W W'):plainAt W' t fo ta ob:=by
 have h1:ta≠tb:=fun e=>by have:=h.1;rw[e,hm] at this;cases this
 have h2:ob≠tb:=fun e=>by have:=h.2;rw[e,hm] at this;cases this
 exact⟨(ho.oth _ (Array.getElem?_eq_some_iff.1 h.1).1 h1).trans h.1,(ho.oth _ (Array.getElem?_eq_some_iff.1 h.2).1 h2).trans h.2⟩
theorem AllAt.othM {B tb:Nat}{W W':World}{t0 t1 t2 t3 t4 t5 t6 t7:Nat}{m:MV}(h:AllAt t0 t1 t2 t3 t4 t5 t6 t7 W)(hm:W.heap[tb]?=some m.box)(ho:Oth B tb W W'):AllAt t0 t1 t2 t3 t4 t5 t6 t7 W':=
 ⟨gY h.a0 hm ho,gY h.a1 hm ho,gY h.a2 hm ho,gY h.a3 hm ho,gY h.a4 hm ho,gY h.a5 hm ho,gY h.a6 hm ho,gY h.a7 hm ho⟩
theorem zG {W:World}{b n cap tb:Nat}{L:List FV}{m:MV}(h:Rd W 4 (some ⟨b,0,none⟩) n cap (fV L))(hL:0<L.length)(hm:W.heap[tb]?=some m.box):b≠tb:=fun e=>by
 subst e;have hn:=h.1;rw[qN] at hn;have hle:=h.le;obtain⟨b1,o1,e1,-,hc⟩:=h.some (by omega);obtain⟨rfl,rfl⟩:b=b1/\0=o1:=by simpa using e1
 obtain⟨f,hf⟩:∃f,L[0]?=some f:=⟨_,List.getElem?_eq_getElem hL⟩
 have h1:=xC L 0 f hf 0 (by decide);have h2:=hc 0 (.int .i32 f.l) (by simpa [FV.cells] using h1);rw[(McAt.of hm).c0] at h2;cases h2
theorem Ol {W W':World}{B tb size n cap:Nat}{ao:Option Addr}{xs:List Value}(h:Rd W size ao n cap xs)(ho:Oth B tb W W')(hn:∀a,ao=some a->a.block≠tb):Rd W' size ao n cap xs:=by
 obtain⟨h1,h2,h3,h4,h5⟩:=h;refine⟨h1,h2,h3,h4,fun h0 a ha=>?_⟩;obtain⟨s,l,c⟩:=h5 h0 a ha;exact⟨s,Nat.lt_of_lt_of_le l ho.bel.size,fun j u hu=>(World.cell?_of_block (a:=⟨a.block,a.off+j,none⟩) (ho.oth _ l (hn a ha))).trans (c j u hu)⟩
theorem vI {W:World}{b n cap k:Nat}{L:List FV}{f:FV}(h:Rd W 4 (some ⟨b,0,none⟩) n cap (fV L))(hf:L[k]?=some f):∀(j:Nat) (v:Value),f.cells[j]?=some v->W.cell? ⟨b,k*4+j,none⟩=some v:=fun j v hv=>by
 have hj:j<4:=by
  have:=(Array.getElem?_eq_some_iff.1 hv).1;simpa [FV.cells] using this
 have hk:k<L.length:=(List.getElem?_eq_some_iff.1 hf).1;have hl:=h.1;rw[qN] at hl;have h0:=h.le;obtain⟨b1,o1,e,-,hc⟩:=h.some (by omega);obtain⟨rfl,rfl⟩:b=b1/\0=o1:=by simpa using e
 have h1:=xC L k f hf j hj;rw[hv] at h1;have:=hc (k*4+j) v h1;rw[Nat.zero_add] at this;exact this
def aO (ls:List Int)(m:MV)(c:MC):List UInt8:=ls.flatMap fun x=>di x m c
def dO (m:MV)(c:MC):List UInt8:=val 1 (aA m.k.toNat)++aO (lettersOf m.k m.wh) m c
theorem pK (ls:List Int)(x:Int)(m:MV)(c:MC):aO (ls++[x]) m c=aO ls m c++di x m c:=by simp[aO]
structure FitsM (m:MV)(c:MC):Prop where
 rs:nJ c.rs
 rl:bz m.rs c.rs=true->(dV m.rs c.rs).length<=4194304
 lg:(∀p∈c.log,aF p.1.op p.2=true)->(ig c.log).length<=4194304
def bZ (m:MV)(c:MC):Bool:=dY m c&&decide ((dO m c).length<=8388608)
theorem kinds (k:Int)(wh:Bool):lettersOf k wh=[]\/((k=1\/k=2\/k=3\/k=4\/k=5\/k=6\/k=7\/k=8\/k=9\/k=10\/k=11\/k=12)):=by
 by_cases h:1<=k/\k<=12
 ·right;omega
 left;have e:fE k wh=[]:=by
  unfold fE mapM
  repeat rw[if_neg (by omega)]
  simp
 unfold lettersOf;rw[e];rfl
theorem zi {k:Int}{wh:Bool}(h:(113:Int)∈lettersOf k wh):k=1\/k=3:=by
 rcases kinds k wh with h0 | h0
 ·rw[h0] at h;cases h
 rcases h0 with rfl|rfl|rfl|rfl|rfl|rfl|rfl|rfl|rfl|rfl|rfl|rfl<;>cases wh<;>first | (left;rfl) | (right;rfl) | (exact absurd h (by decide))
theorem yT {k:Int}{wh:Bool}(h:(114:Int)∈lettersOf k wh):k=2:=by
 rcases kinds k wh with h0 | h0
 ·rw[h0] at h;cases h
 rcases h0 with rfl|rfl|rfl|rfl|rfl|rfl|rfl|rfl|rfl|rfl|rfl|rfl<;>cases wh<;>first | rfl | (exact absurd h (by decide))
structure WellP (m:MV)(c:MC):Prop where
 ls:lettersOf m.k m.wh≠[]
 same:aG m c (jX (lettersOf m.k m.wh) m) (mX (lettersOf m.k m.wh) c)=true
 f0:0<=m.fr
 f7:m.fr<7
 ln:m.ln<=4096
 sn:m.sn<=4194304
 hn:m.hn<=7
 log:∀p∈c.log,aF p.1.op p.2=true
 rq:m.k=1\/m.k=3->aF m.rq.op c.rq=true
 rs:m.k=2->bz m.rs c.rs=true
theorem WellP.of {m:MV}{c:MC}(h:dY m c=true):WellP m c:=by
 unfold dY at h;simp only[Bool.and_eq_true,decide_eq_true_eq,Bool.not_eq_true'] at h;obtain⟨h1,h2,h3,h4,h5,h6,h7,h8,h9⟩:=h;refine⟨h1,h2,h3,h4,h5,h6,h7,fun p hp=>?_,fun hk=>?_,fun hk=>?_⟩
 ·have:=List.any_eq_false.1 h8 p hp;simpa using this
 ·rw[if_pos hk] at h9;exact h9
 rw[if_neg (by omega),if_pos hk] at h9;exact h9
theorem WellP.may {m:MV}{c:MC}(h:WellP m c)(hf:FitsM m c):∀x∈lettersOf m.k m.wh,MayF x m c:=fun x hx=>
 ⟨fun _=>⟨h.f0,h.f7⟩,fun e=>h.rq (zi (e▸hx)),fun e=>by have:=h.rs (yT (e▸hx));exact⟨this,hf.rl this⟩,fun _=>h.sn,fun _=>⟨h.log,hf.lg h.log,by have:=h.ln;omega⟩,fun _=>by have:=h.hn;omega⟩
theorem yY {W:World}{x:Int}{m:MV}{c:MC}(hm:MAt W m c)(h:MayF x m c):(di x m c).length<=4194309:=by
 by_cases e118:x=118
 ·subst e118;show (val 2 (aA m.vi.toNat)).length<=_;rw[af,ah];omega
 by_cases e110:x=110
 ·subst e110;show (val 3 (aA m.no.toNat)).length<=_;rw[af,ah];omega
 by_cases e102:x=102
 ·subst e102;show (val 4 (aA m.fr.toNat)).length<=_;rw[af,ah];omega
 by_cases e99:x=99
 ·subst e99;show (val 5 (aA m.cl.toNat)).length<=_;rw[af,ah];omega
 by_cases e117:x=117
 ·subst e117;show (val 6 (aA m.nu.toNat)).length<=_;rw[af,ah];omega
 by_cases e113:x=113
 ·subst e113;have:=iw hm.rq (h.rq rfl);show (val 7 (dN m.rq (opL m.rq.op c.rq))).length<=_;rw[af,iD];omega
 by_cases e114:x=114
 ·subst e114;obtain⟨-,h2⟩:=h.rs rfl;show (val 8 (dV m.rs c.rs)).length<=_;rw[af];omega
 by_cases e97:x=97
 ·subst e97;show (val 9 (aA m.at_.toNat)).length<=_;rw[af,ah];omega
 by_cases e109:x=109
 ·subst e109;show (val 10 (aA m.cm.toNat)).length<=_;rw[af,ah];omega
 by_cases e98:x=98
 ·subst e98;show (val 11 (aA m.bs.toNat)).length<=_;rw[af,ah];omega
 by_cases e115:x=115
 ·subst e115;have h2:=h.sn rfl;have h3:=hm.sn.1;rw[aP] at h3;show (val 12 c.snap).length<=_;rw[af];omega
 by_cases e108:x=108
 ·subst e108;obtain⟨-,h2,-⟩:=h.log rfl;show (val 13 (ig c.log)).length<=_;rw[af];omega
 by_cases e111:x=111
 ·subst e111;show (val 14 (aA m.nc.toNat)).length<=_;rw[af,ah];omega
 by_cases e119:x=119
 ·subst e119;show (val 15 [if m.wh then 1 else 0]).length<=_;rw[af];simp
 by_cases e101:x=101
 ·subst e101;have h2:=h.seen rfl;have h3:=hm.se.1;rw[gB] at h3;show (val 16 (cu c.seen)).length<=_;rw[af,jB];omega
 unfold di;simp only[e118,e110,e102,e99,e117,e113,e114,e97,e109,e98,e115,e108,e111,e119,e101,if_false];exact Nat.zero_le _
theorem mi {W:World}{m:MV}{c:MC}(hm:MAt W m c):∀(ls:List Int),(∀x∈ls,MayF x m c)->(aO ls m c).length<=ls.length*4194309
 | [],_=>Nat.zero_le _
 | x::ls,h=>by
  have h1:=yY hm (h x (by simp));have h2:=mi hm ls (fun y hy=>h y (by simp[hy]));have e:aO (x::ls) m c=di x m c++aO ls m c:=rfl;rw[e,List.length_append,List.length_cons];omega
theorem lS (k:Int)(wh:Bool):(lettersOf k wh).length<=15:=List.length_filter_le _ _
theorem jb {B g:Nat}{W W':World}{l:List UInt8}{v v':Value}{t:Int}{fo:Value}{ta ob:Nat}(h:plainAt W t fo ta ob)(hw:WrAt B g l 0 v W)(hl:2<=l.length)(hk:KeepW g v v' W W'):plainAt W' t fo ta ob:=by
 have h1:ta≠g:=fun e=>by have:=h.1;rw[e,hw.at_] at this;cases this
 have h2:ob≠g:=fun e=>by have:=h.2;rw[e,hw.at_] at this;cases this
 exact⟨(hk.1 _ (Array.getElem?_eq_some_iff.1 h.1).1 h1 (qP hw.own (by rw[Nat.mul_one];exact hl) h.1)).trans h.1,(hk.1 _ (Array.getElem?_eq_some_iff.1 h.2).1 h2 (Df h.2 (fun c fr e=>by cases e) hw.own)).trans h.2⟩
theorem AllAt.kw {B g:Nat}{W W':World}{l:List UInt8}{v v':Value}{t0 t1 t2 t3 t4 t5 t6 t7:Nat}(h:AllAt t0 t1 t2 t3 t4 t5 t6 t7 W)(hw:WrAt B g l 0 v W)(hl:2<=l.length)(hk:KeepW g v v' W W'):AllAt t0 t1 t2 t3 t4 t5 t6 t7 W':=
 ⟨jb h.a0 hw hl hk,jb h.a1 hw hl hk,jb h.a2 hw hl hk,jb h.a3 hw hl hk,jb h.a4 hw hl hk,jb h.a5 hw hl hk,jb h.a6 hw hl hk,jb h.a7 hw hl hk⟩
theorem GK {B g b n cap:Nat}{W W':World}{l:List UInt8}{v v':Value}{L:List FV}(h:Rd W 4 (some ⟨b,0,none⟩) n cap (fV L))(hL:0<L.length)(hw:WrAt B g l 0 v W)(hl:2<=l.length)(hk:KeepW g v v' W W')(hz:W.heap.size<=W'.heap.size):Rd W' 4 (some ⟨b,0,none⟩) n cap (fV L):=by
 have hn:=h.1;rw[qN] at hn;have hle:=h.le;obtain⟨b1,o1,e1,hlt,hc⟩:=h.some (by omega);obtain⟨rfl,rfl⟩:b=b1/\0=o1:=by simpa using e1
 obtain⟨f,hf⟩:∃f,L[0]?=some f:=⟨_,List.getElem?_eq_getElem hL⟩
 have h1:=xC L 0 f hf 0 (by decide);have h2:=hc 0 (.int .i32 f.l) (by simpa [FV.cells] using h1);have hne:b≠g:=fun e=>by
  subst e;have hat:=hw.at_;simp only[World.cell?,hat] at h2;have h3:v=.int .i32 f.l:=by simpa using h2
  obtain⟨a,cap,e4,-⟩:=Rd.of_own hw.own;rw[h3] at e4;cases e4
 have hblk:=hk.1 b hlt hne (yU hw.own (by omega) h2 (fun z e=>by cases e));obtain⟨g1,g2,g3,g4,g5⟩:=h;refine⟨g1,g2,g3,g4,fun h0 a ha=>?_⟩;cases ha;obtain⟨s,l,c⟩:=g5 h0 _ rfl;exact⟨s,Nat.lt_of_lt_of_le l hz,fun j u hu=>(World.cell?_of_block (a:=⟨b,0+j,none⟩) hblk).trans (c j u hu)⟩
structure PkLoop (w:World)(m:MV)(c:MC)(B b n t0 t1 t2 t3 t4 t5 t6 t7:Nat)(L:List FV)(k:Nat)(wr:World):Prop where
 bel:Below w.heap.size w wr
 msg:wr.heap[w.heap.size]?=some m.box
 row:Rd wr 4 (some ⟨b,0,none⟩) L.length n (fV L)
 all:AllAt t0 t1 t2 t3 t4 t5 t6 t7 wr
 wr:∃v,WrAt B B (val 1 (aA m.k.toNat)++aO ((L.take k).map FV.l) m c) 0 v wr
theorem KF (m:MV)(c:MC)(w:World)(h:MAt w m c)(hu:U64M m c)(hk0:0<=m.k)(hk1:m.k<=255)(hmf:∀x∈lettersOf m.k m.wh,MayF x m c):Calls Tryz.prog 61 #[m.val] w (xy w (dO m c)):=by
 have hb0:Below w.heap.size w (w.alloc m.box):=(Below.refl _ _).alloc (Nat.le_refl _) _;have k0:(w.alloc m.box).heap[w.heap.size]?=some m.box:=by show (w.heap.push _)[w.heap.size]?=some _;exact Array.getElem?_push_size
 obtain⟨kn,hkn⟩:∃n:Nat,m.k=(n:Int):=⟨m.k.toNat,by omega⟩
 have hkw:IntKind.wrap .u64 m.k=(kn:Int):=by rw[hkn,IntKind.wrap_u64];omega
 have HK:Hid (m.k.toNat=kn):=hid (by omega);clear hkn hk0 hk1;unfold MV.box MV.cells at hb0 k0;unfold MV.val MV.cells;go_in;go_upto_region 1 with fail;generalize hg:w.alloc _=W0 at *;have q0:W0.heap[w.heap.size]?=some m.box:=k0;clear hg k0;have hbw:Below W0.heap.size W0 (W0.alloc (.cells #[.slice none 0 0,.int .i64 0] 177)):=(Below.refl _ _).alloc (Nat.le_refl _) _;have hw1:WrAt W0.heap.size W0.heap.size [] 0 (.slice none 0 0) (W0.alloc (.cells #[.slice none 0 0,.int .i64 0] 177)):=⟨by show (W0.heap.push _)[W0.heap.size]?=some _;exact Array.getElem?_push_size,Nat.le_refl _,World.ownsRow_nil _ _ _ _⟩
 have q1:=ae q0 hbw;have c0:=(McAt.of q1).c0;have hB0:=hb0.size;have hBw:w.heap.size<W0.heap.size:=(Array.getElem?_eq_some_iff.1 q0).1;go_wp2_with fail;refine (oI W0.heap.size W0.heap.size [] _ 1 kn _ hw1 (by decide) (by simp)).mono ?_;rintro e W2 ⟨rfl,v2,hw2,hb2,-⟩;rw[List.nil_append] at hw2;have q2:W2.heap[w.heap.size]?=some m.box:=(hb2.block _ hBw).trans q1;have bel2:=(hb0.trans (hbw.mono hB0)).trans (hb2.mono hB0);generalize hBq:W0.heap.size=B at *;clear hbw hw1 q1 q0 c0 hb2 hBq hb0;have c0:=(McAt.of q2).c0;have c25:=(McAt.of q2).c25;go_wp2_with fail;refine (qZ m.k m.wh W2).mono ?_;rintro e W3 ⟨b,t0,t1,t2,t3,t4,t5,t6,t7,ln,n,rfl,hln,hrow,hall,hb3⟩;obtain⟨L,hL⟩:∃L,ofL m.k m.wh t0 t1 t2 t3 t4 t5 t6 t7=L:=⟨_,rfl⟩
 have hmem:∀f∈L,f∈allL t0 t1 t2 t3 t4 t5 t6 t7:=fun f hf=>yu (by rw[hL];exact hf);have hlet:L.map FV.l=lettersOf m.k m.wh:=by rw[<-hL];exact mW _ _ _ _ _ _ _ _ _ _
 rw[hL] at hrow hln;subst hln;have HLet:=hid hlet;have s0:PkLoop w m c B b n t0 t1 t2 t3 t4 t5 t6 t7 L 0 W3:=⟨bel2.trans (hb3.mono bel2.size),ae q2 hb3,hrow,hall,v2,by rw[HK.out];simpa [aO] using hw2.later hb3⟩
 have hLn:L.length<=15:=by
  have:=congrArg List.length hlet;rw[List.length_map] at this;have:=lS m.k m.wh;omega
 have hmL:∀f∈L,MayF f.l m c:=fun f hf=>hmf _ (by rw[<-hlet];exact List.mem_map_of_mem hf);clear hL hlet hrow hall hb3 q2 c0 c25 bel2 hw2;go_wp2_with fail;go_loopw [18] (fun p wr=>∃k:Nat,k<=L.length/\p=.int .i64 (k:Int)/\PkLoop w m c B b n t0 t1 t2 t3 t4 t5 t6 t7 L k wr) (fun p _=>L.length-(intOf p).toNat)
 case atStart=>exact⟨0,Nat.zero_le _,rfl,s0⟩
 case round=>
  obtain⟨k,hk,rfl,hW⟩:=hrel;clear s0;obtain⟨v,hv⟩:=hW.wr;by_cases hkn:k<L.length
  ·obtain⟨f,hf⟩:∃f,L[k]?=some f:=⟨_,List.getElem?_eq_getElem hkn⟩
   have hfL:=List.mem_of_getElem? hf;have hfm:=hmem f hfL;have hmf1:=hmL f hfL;obtain⟨pf,pc,hP⟩:=Lt f hfm;obtain⟨o1,o2,o3⟩:=uj _ _ _ _ _ _ _ _ f hfm;have hrg:=vI hW.row hf;have hn1:L.take (k+1)=L.take k++[f]:=by rw[List.take_add_one,hf];rfl
   have HN:=hid hn1;have hM:=h.later hW.bel;have hlen:(val 1 (aA m.k.toNat)++aO ((L.take k).map FV.l) m c).length<=100000000:=by
    have h1:=mi hM ((L.take k).map FV.l) (fun x hx=>by
     obtain⟨f',hf',rfl⟩:=List.mem_map.1 hx;exact hmL f' (List.mem_of_mem_take hf'))
    have h2:((L.take k).map FV.l).length<=15:=by rw[List.length_map];exact Nat.le_trans (List.length_take_le _ _) (by omega)
    rw[List.length_append,af,ah];have h3:=Nat.mul_le_mul_right 4194309 h2;omega
   have hl2:2<=(val 1 (aA m.k.toNat)++aO ((L.take k).map FV.l) m c).length:=by rw[List.length_append,af];omega
   have HLen:=hid hlen;have HL2:=hid hl2;obtain⟨fl,fk,fp,ft⟩:=f;obtain⟨he,hen,hcl⟩:=hP;dsimp only at he hcl o1 o2 o3 hmf1;subst he;have hone:(#[.int .i32 fl,fk,.func (.func pf) #[] pc,ft]:Array Value).all (·.oneCell')=true:=by simp[Value.oneCell'] at o1 o3 ⊢;exact⟨o1,o3⟩
   unfold FV.cells at hrg;dsimp only at hrg;have i0:(0:Int)<=(k:Int):=by omega
   have i1:(k:Int)<(L.length:Int):=by omega
   have hcap:=hW.row.le;have hlt:b<wr.heap.size:=(hW.row.2.2.2.2 (by omega) _ rfl).2.1;clear hn1 hf hfm hlen hl2;go_upto_region 5 with (first | (refine dn (ty:=171) hrg rfl rfl rfl (by kernel_rfl) (by kernel_rfl) ?_;go_simp) | (refine lq rfl rfl rfl rfl (by kernel_rfl) rfl hone ?_;go_simp));generalize hg:wr.alloc _=W3;have e3:wr.alloc (FV.box ⟨fl,fk,.func (.func pf) #[] pc,ft⟩)=W3:=hg;have hb3:Below wr.heap.size wr W3:=by rw[<-e3];exact (Below.refl _ _).alloc (Nat.le_refl _) _
   have k3:W3.heap[wr.heap.size]?=some (FV.box ⟨fl,fk,.func (.func pf) #[] pc,ft⟩):=by rw[<-e3];show (wr.heap.push _)[wr.heap.size]?=some _;exact Array.getElem?_push_size
   obtain⟨d0,d1,d2,d3,-⟩:=jQ k3;dsimp only at d0 d1 d2 d3;have hv3:=hv.later hb3;have hcall:=hcl B B w.heap.size _ v m c W3 (hW.all.later hb3) hv3 HLen.out (ae hW.msg hb3) (hM.later hb3) hu hmf1 ⟨fun h0 a ha=>Nat.lt_trans (h.sn.lt h0 a ha) hBw⟩;clear hg e3 hrg hone o1 o2 o3 hcl;go_wp2_with fail;refine hcall.mono ?_;rintro e W4 ⟨rfl,v4,hw4,hb4,hk4⟩;have hW4:PkLoop w m c B b n t0 t1 t2 t3 t4 t5 t6 t7 L (k+1) W4:=by
    have hrow3:=hW.row.later hb3;refine⟨(hW.bel.trans (hb3.mono hW.bel.size)).trans (hb4.mono (Nat.le_of_lt hBw)),(hb4.block _ hBw).trans (ae hW.msg hb3),GK hrow3 (by omega) hv3 HL2.out hk4 (by have:=hb4.size;omega),(hW.all.later hb3).kw hv3 HL2.out hk4,v4,?_⟩;rw[HN.out,List.map_append,List.map_singleton,pK,<-List.append_assoc];exact hw4
   clear d0 d1 d2 d3 k3 hcall hw4 hb4 hk4 hv3 hb3 hW hv hM;go_wp2_with fail;go_roundw
   case rel=>exact⟨k+1,by omega,by go_num,hW4⟩
   case measure=>simp[intOf];omega
  obtain rfl:k=L.length:=by omega
  have hfull:L.take L.length=L:=List.take_length;rw[hfull,HLet.out] at hv;have hmsgL:val 1 (aA m.k.toNat)++aO (lettersOf m.k m.wh) m c=dO m c:=rfl;rw[hmsgL] at hv;have hlen:(dO m c).length<=100000000:=by
   have h1:=mi h (lettersOf m.k m.wh) hmf;have h2:=lS m.k m.wh;have h3:=Nat.mul_le_mul_right 4194309 h2;unfold dO;rw[List.length_append,af,ah];omega
  have hbel:=hW.bel;clear hfull hmsgL hW;go_wp2_with fail;refine (og _ _ _ _ _ hv hlen).mono ?_;rintro e W5 ⟨v5,rfl,ho5,hb5⟩;obtain⟨a5,k5,e5,hr5⟩:=Rd.of_own ho5;subst e5;have hf5:=kD ho5;go_wp2_with fail;go_ret2;exact⟨a5,k5,rfl,hr5,hbel.trans (hb5.mono hbel.size),fun a ha=>Nat.le_trans hbel.size (hf5 a ha)⟩
def agree (x:Int)(m:MV)(c:MC)(m':MV)(c':MC):Bool:=
 if x=118 then decide (m.vi=m'.vi)
 else if x=110 then decide (m.no=m'.no)
 else if x=102 then decide (m.fr=m'.fr)
 else if x=99 then decide (m.cl=m'.cl)
 else if x=117 then decide (m.nu=m'.nu)
 else if x=113 then bQ m.rq c.rq m'.rq c'.rq
 else if x=114 then aU m.rs c.rs m'.rs c'.rs
 else if x=97 then decide (m.at_=m'.at_)
 else if x=109 then decide (m.cm=m'.cm)
 else if x=98 then decide (m.bs=m'.bs)
 else if x=115 then decide (c.snap=c'.snap)
 else if x=108 then bu c.log c'.log
 else if x=111 then decide (m.nc=m'.nc)
 else if x=119 then decide (m.wh=m'.wh)
 else decide (c.seen=c'.seen)
theorem iV {t:UInt8}{a b:Int}{r r':List UInt8}(ht:0<t.toNat)(ha:0<=a/\a<18446744073709551616)(hb:0<=b/\b<18446744073709551616)(h:val t (aA a.toNat)++r=val t (aA b.toNat)++r'):a=b/\r=r':=by
 obtain⟨h1,h2⟩:=ay ht (by rw[ah];omega) (by rw[ah];omega) h;have:=iF (by omega) (by omega) h1;exact⟨by omega,h2⟩
theorem yM:∀(l l':List Nat),(∀n∈l,n<18446744073709551616)->(∀n∈l',n<18446744073709551616)->cu l=cu l'->l=l'
 | [],[],_,_,_=>rfl
 | [],n::l',_,_,h=>by have:=congrArg List.length h;rw[iL,List.length_append,af] at this;simp[cu] at this;omega
 | n::l,[],_,_,h=>by have:=congrArg List.length h;rw[iL,List.length_append,af] at this;simp[cu] at this
 | n::l,n'::l',hl,hl',h=>by
  rw[iL,iL] at h;obtain⟨h1,h2⟩:=ay (by decide) (by rw[ah];omega) (by rw[ah];omega) h;have e:=iF (hl n (by simp)) (hl' n' (by simp)) h1;rw[e,yM l l' (fun k hk=>hl k (by simp[hk])) (fun k hk=>hl' k (by simp[hk])) h2]
theorem zY {W W':World}:∀(l l':List RP),(∀p∈l,OpAt W p.1.op p.2/\aF p.1.op p.2=true/\U64R p.1)->(∀p∈l',OpAt W' p.1.op p.2/\aF p.1.op p.2=true/\U64R p.1)->ig l=ig l'->bu l l'=true
 | [],[],_,_,_=>rfl
 | [],p::l',_,_,h=>by have:=congrArg List.length h;rw[pV,List.length_append,af] at this;simp[ig] at this;omega
 | p::l,[],_,_,h=>by have:=congrArg List.length h;rw[pV,List.length_append,af] at this;simp[ig] at this
 | p::l,p'::l',hl,hl',h=>by
  obtain⟨a1,a2,a3⟩:=hl p (by simp);obtain⟨b1,b2,b3⟩:=hl' p' (by simp);have s1:=iw a1 a2;have s2:=iw b1 b2;rw[pV,pV] at h;obtain⟨h1,h2⟩:=ay (by decide) (by rw[iD];omega) (by rw[iD];omega) h;obtain⟨e1,e2,e3⟩:=CZ a1 b1 a2 b2 a3 b3 h1;have ih:=zY l l' (fun q hq=>hl q (by simp[hq])) (fun q hq=>hl' q (by simp[hq])) h2;show (bQ p.1 p.2 p'.1 p'.2&&bu l l')=true;rw[ih];unfold bQ;rw[decide_eq_true e1,decide_eq_true e2,e3];rfl
structure MayG (x:Int)(m:MV)(c:MC):Prop where
 fr:x=102->0<=m.fr/\m.fr<18446744073709551616
 rq:x=113->aF m.rq.op c.rq=true
 rs:x=114->bz m.rs c.rs=true/\(dV m.rs c.rs).length<=4194304
 sn:x=115->c.snap.length<=4194304
 log:x=108->(∀p∈c.log,aF p.1.op p.2=true)/\(ig c.log).length<=4194304
 seen:x=101->(cu c.seen).length<=4194304
theorem MayF.g {W:World}{x:Int}{m:MV}{c:MC}(h:MayF x m c)(hm:MAt W m c):MayG x m c:=
 ⟨fun e=>by have:=h.fr e;omega,h.rq,h.rs,fun e=>by have:=h.sn e;have l1:=hm.sn.1;rw[aP] at l1;omega,fun e=>⟨(h.log e).1,(h.log e).2.1⟩,fun e=>by have:=h.seen e;have l1:=hm.se.1;rw[gB] at l1;rw[jB];omega⟩
theorem IL {W W':World}{x:Int}{m m':MV}{c c':MC}{r r':List UInt8}(hx:x∈dJ)(h:MAt W m c)(h':MAt W' m' c')(hu:U64M m c)(hu':U64M m' c')(f:MayG x m c)(f':MayG x m' c')
  (e:di x m c++r=di x m' c'++r'):agree x m c m' c'=true/\r=r':=by
 simp only[dJ,List.mem_cons,List.not_mem_nil,or_false] at hx;rcases hx with rfl|rfl|rfl|rfl|rfl|rfl|rfl|rfl|rfl|rfl|rfl|rfl|rfl|rfl|rfl
 ·obtain⟨h1,h2⟩:=iV (t:=2) (a:=m.vi) (b:=m'.vi) (by decide) hu.vi hu'.vi e;exact⟨decide_eq_true h1,h2⟩
 ·obtain⟨h1,h2⟩:=iV (t:=3) (a:=m.no) (b:=m'.no) (by decide) hu.no hu'.no e;exact⟨decide_eq_true h1,h2⟩
 ·obtain⟨h1,h2⟩:=iV (t:=4) (a:=m.fr) (b:=m'.fr) (by decide) (by have:=f.fr rfl;omega) (by have:=f'.fr rfl;omega) e;exact⟨decide_eq_true h1,h2⟩
 ·obtain⟨h1,h2⟩:=iV (t:=5) (a:=m.cl) (b:=m'.cl) (by decide) hu.cl hu'.cl e;exact⟨decide_eq_true h1,h2⟩
 ·obtain⟨h1,h2⟩:=iV (t:=6) (a:=m.nu) (b:=m'.nu) (by decide) hu.nu hu'.nu e;exact⟨decide_eq_true h1,h2⟩
 ·have s1:=iw h.rq (f.rq rfl);have s2:=iw h'.rq (f'.rq rfl);obtain⟨h1,h2⟩:=ay (t:=7) (by decide) (by rw[iD];omega) (by rw[iD];omega) e;obtain⟨e1,e2,e3⟩:=CZ h.rq h'.rq (f.rq rfl) (f'.rq rfl) hu.rq hu'.rq h1;refine⟨?_,h2⟩;show bQ m.rq c.rq m'.rq c'.rq=true;unfold bQ;rw[decide_eq_true e1,decide_eq_true e2,e3];rfl
 ·obtain⟨f1,f2⟩:=f.rs rfl;obtain⟨g1,g2⟩:=f'.rs rfl;obtain⟨h1,h2⟩:=ay (t:=8) (by decide) f2 g2 e;exact⟨NV h.rs h'.rs f1 g1 h1,h2⟩
 ·obtain⟨h1,h2⟩:=iV (t:=9) (a:=m.at_) (b:=m'.at_) (by decide) hu.at_ hu'.at_ e;exact⟨decide_eq_true h1,h2⟩
 ·obtain⟨h1,h2⟩:=iV (t:=10) (a:=m.cm) (b:=m'.cm) (by decide) hu.cm hu'.cm e;exact⟨decide_eq_true h1,h2⟩
 ·obtain⟨h1,h2⟩:=iV (t:=11) (a:=m.bs) (b:=m'.bs) (by decide) hu.bs hu'.bs e;exact⟨decide_eq_true h1,h2⟩
 ·obtain⟨h1,h2⟩:=ay (t:=12) (by decide) (f.sn rfl) (f'.sn rfl) e;exact⟨decide_eq_true h1,h2⟩
 ·obtain⟨f1,f2⟩:=f.log rfl;obtain⟨g1,g2⟩:=f'.log rfl;obtain⟨h1,h2⟩:=ay (t:=13) (by decide) f2 g2 e;exact⟨zY c.log c'.log (fun p hp=>⟨h.lg.each p hp,f1 p hp,hu.log p hp⟩) (fun p hp=>⟨h'.lg.each p hp,g1 p hp,hu'.log p hp⟩) h1,h2⟩
 ·obtain⟨h1,h2⟩:=iV (t:=14) (a:=m.nc) (b:=m'.nc) (by decide) hu.nc hu'.nc e;exact⟨decide_eq_true h1,h2⟩
 ·obtain⟨h1,h2⟩:=ay (t:=15) (by decide) (by simp) (by simp) e;refine⟨decide_eq_true ?_,h2⟩;cases hw:m.wh<;>cases hw':m'.wh<;>rw[hw,hw'] at h1<;>first | rfl | (exact absurd h1 (by decide))
 obtain⟨h1,h2⟩:=ay (t:=16) (by decide) (f.seen rfl) (f'.seen rfl) e;exact⟨decide_eq_true (yM _ _ hu.seen hu'.seen h1),h2⟩
theorem rQ {W W':World}{m m':MV}{c c':MC}(h:MAt W m c)(h':MAt W' m' c')(hu:U64M m c)(hu':U64M m' c'):∀(ls:List Int) (r r':List UInt8),(∀x∈ls,x∈dJ)->(∀x∈ls,MayG x m c)->(∀x∈ls,MayG x m' c')->aO ls m c++r=aO ls m' c'++r'->(∀x∈ls,agree x m c m' c'=true)/\r=r'
 | [],_,_,_,_,_,e=>⟨fun x hx=>absurd hx List.not_mem_nil,e⟩
 | x::ls,r,r',ha,hf,hf',e=>by
  have e1:aO (x::ls) m c=di x m c++aO ls m c:=rfl;have e2:aO (x::ls) m' c'=di x m' c'++aO ls m' c':=rfl;rw[e1,e2,List.append_assoc,List.append_assoc] at e;obtain⟨h1,h2⟩:=IL (ha x (by simp)) h h' hu hu' (hf x (by simp)) (hf' x (by simp)) e;obtain⟨h3,h4⟩:=rQ h h' hu hu' ls r r' (fun y hy=>ha y (by simp[hy])) (fun y hy=>hf y (by simp[hy])) (fun y hy=>hf' y (by simp[hy])) h2;exact⟨fun y hy=>by rcases List.mem_cons.1 hy with rfl | hy;exact h1;exact h3 y hy,h4⟩
theorem xk {k:Int}(h:1<=k/\k<=12)(h10:k≠10):lettersOf k false=lettersOf k true:=by
 rcases (by omega:k=1\/k=2\/k=3\/k=4\/k=5\/k=6\/k=7\/k=8\/k=9\/k=11\/k=12) with rfl|rfl|rfl|rfl|rfl|rfl|rfl|rfl|rfl|rfl|rfl<;>rfl
theorem GZ {t t':UInt8}{a b r r':List UInt8}(h:t≠t'):val t a++r≠val t' b++r':=fun e=>by
 have:=congrArg (fun l=>l[0]?) e;simp[val] at this;exact h this
theorem vU {m m':MV}{c c':MC}{r r':List UInt8}(hu:U64M m c)(hu':U64M m' c')(hf:∀x∈lettersOf 10 false,MayG x m c)(hf':∀x∈lettersOf 10 true,MayG x m' c'):aO (lettersOf 10 false) m c++r≠aO (lettersOf 10 true) m' c'++r':=fun e=>by
 have e1:aO (lettersOf 10 false) m c=val 2 (aA m.vi.toNat)++(val 4 (aA m.fr.toNat)++(val 14 (aA m.nc.toNat)++aO [119,101] m c)):=rfl;have e2:aO (lettersOf 10 true) m' c'=val 2 (aA m'.vi.toNat)++(val 4 (aA m'.fr.toNat)++(val 10 (aA m'.cm.toNat)++aO [98,115,108,111,119,101] m' c')):=rfl;rw[e1,e2] at e;simp only[List.append_assoc] at e;obtain⟨-,h2⟩:=iV (t:=2) (a:=m.vi) (b:=m'.vi) (by decide) hu.vi hu'.vi e;have f1:=(hf 102 (by decide)).fr rfl;have f2:=(hf' 102 (by decide)).fr rfl;obtain⟨-,h3⟩:=iV (t:=4) (a:=m.fr) (b:=m'.fr) (by decide) (by omega) (by omega) h2;exact GZ (by decide) h3
theorem yE {W W':World}{m m':MV}{c c':MC}{r r':List UInt8}(h:MAt W m c)(h':MAt W' m' c')(hu:U64M m c)(hu':U64M m' c')(hk:1<=m.k/\m.k<=12)(hk':1<=m'.k/\m'.k<=12)
  (hf:∀x∈lettersOf m.k m.wh,MayG x m c) (hf':∀x∈lettersOf m'.k m'.wh,MayG x m' c') (e:dO m c++r=dO m' c'++r') :
  m.k=m'.k/\lettersOf m.k m.wh=lettersOf m'.k m'.wh/\(∀x∈lettersOf m.k m.wh,agree x m c m' c'=true)/\r=r':=by
 unfold dO at e;rw[List.append_assoc,List.append_assoc] at e;obtain⟨h1,h2⟩:=iV (t:=1) (a:=m.k) (b:=m'.k) (by decide) (by omega) (by omega) e;have hall:∀(k:Int) (wh:Bool),∀x∈lettersOf k wh,x∈dJ:=fun k wh x hx=>(List.mem_filter.1 hx).1;have key:lettersOf m.k m.wh=lettersOf m'.k m'.wh:=by
  rw[h1];rw[h1] at hf h2;by_cases h10:m'.k=10
  ·rw[h10] at hf hf' h2 ⊢;cases hw:m.wh<;>cases hw':m'.wh<;>rw[hw] at hf h2<;>rw[hw'] at hf' h2
   ·exact absurd h2 (vU hu hu' hf hf')
   exact absurd h2.symm (vU hu' hu hf' hf)
  have:=xk hk' h10;cases m.wh<;>cases m'.wh<;>first | rfl | exact this | exact this.symm
 refine⟨h1,key,?_⟩;rw[<-key] at h2 hf';exact rQ h h' hu hu' _ _ _ (hall _ _) hf hf' h2
end Go.Proofs.YtfmmandlmbcncaaGreatDoor.Msg
namespace Go.Proofs.YtfmmandlmbcncaaGreatDoor.Tlv
open Go.RowKit Go.Lib Mem
def RS.tagR (s:RS):UInt8:=if s.bad=true\/fs s.l=0 then 0 else (hd1 s.l).1
theorem Gx (B g:Nat)(s:RS)(W:World)(hr:RfS B g s W)(hl:s.l.length<=100000000):Calls Tryz.prog 96 #[.pointer (some ⟨g,0,none⟩)] W (fun e w'=>e=.returned (.int .u8 (s.tagR.toNat:Int))/\Below W.heap.size W w'):=by
 obtain⟨ao,cap,hr⟩:=hr;obtain⟨l,bad⟩:=s;obtain⟨c0,c1,z0,z1⟩:=fJ hr;dsimp only at hl c0 c1;cases bad with
 | true=>
  have e:RS.tagR ⟨l,true⟩=0:=by unfold RS.tagR;rw[if_pos (.inl rfl)]
  rw[e];go_in;go_wp2_with fail;go_ret;exact⟨rfl,Below.refl _ _⟩
 | false=>
  go_in;go_wp2_with fail;refine (sQ ao l.length cap l W hr.rd (by omega)).mono ?_;rintro e w1 ⟨hb1,hc1⟩;rcases hc1 with ⟨h0,rfl⟩ | ⟨h0,ao2,cap2,rfl,hr2,hbk⟩
  ·have e:RS.tagR ⟨l,false⟩=0:=by unfold RS.tagR;rw[if_pos (.inr h0)]
   have HE:=hid e;clear e;go_wp2_with fail;go_ret;exact⟨by rw[HE.out];rfl,hb1⟩
  have e:RS.tagR ⟨l,false⟩=(hd1 l).1:=by unfold RS.tagR;rw[if_neg (by rintro (h | h);cases h;exact h0 h)]
  have HE:=hid e;clear e;go_wp2_with fail;go_ret;exact⟨by rw[HE.out];rfl,hb1⟩
end Go.Proofs.YtfmmandlmbcncaaGreatDoor.Tlv
namespace Go.Proofs.YtfmmandlmbcncaaGreatDoor.Msg
open Go.RowKit Go.Lib Mem Tlv
structure MayM (W:World)(m:MV)(d:MC):Prop where
 at_:MAt W m d
 u:U64M m d
 k:1<=m.k/\m.k<=12
 may:∀x∈lettersOf m.k m.wh,MayF x m d
structure StepX (x:Int)(s:RS)(o:MV)(c:MC)(s':RS):Prop where
 yes:s'.bad=false->s.bad=false/\s.l=di x o c++s'.l/\MayG x o c
 go:s.bad=false->∀(W:World) (m:MV) (d:MC) (r:List UInt8),MAt W m d->U64M m d->MayF x m d->s.l=di x m d++r->s'.bad=false/\s'.l=r
 le:s'.l.length<=s.l.length
theorem iU {α:Type}{body:α->List UInt8}{may good:α->Prop}{s s':RS}{y:α}(T:Took body may good s y s')(hinj:∀z r r',may z->good y->body y++r'=body z++r->r'=r)(hb:s.bad=false){z:α}{r:List UInt8}(hz:may z)(e:s.l=body z++r):s'.bad=false/\s'.l=r:=by
 cases h:s'.bad with
 | true=>
  rcases T.no h with h1 | h1
  ·rw[hb] at h1;cases h1
  exact absurd e (h1 z r hz)
 | false=>
  obtain⟨-,e2,g⟩:=T.yes h;exact⟨rfl,hinj z r _ hz g (e2.symm.trans e)⟩
theorem jm {x:Int}{t:UInt8}{s s':RS}{n:Nat}{o:MV}{c:MC}{f:MV->Int}(ht:0<t.toNat)(hf:∀m d,di x m d=val t (aA (f m).toNat))(hu:∀W m d,MAt W m d->U64M m d->MayF x m d->0<=f m/\f m<18446744073709551616)
  (T:Took (fun n:Nat=>val t (aA n)) (fun n=>n<18446744073709551616) (fun n=>n<18446744073709551616) s n s') (ho:f o=(n:Int)) (hg:n<18446744073709551616->MayG x o c):StepX x s o c s' where
 yes:=fun h=>by
  obtain⟨a,b,g⟩:=T.yes h;refine⟨a,?_,hg g⟩;rw[hf,ho,Int.toNat_natCast];exact b
 go:=fun hb W m d r h1 h2 h3 e=>by
  obtain⟨u1,u2⟩:=hu W m d h1 h2 h3;rw[hf] at e;exact iU T (fun z r r' _ _ e=>(ay ht (by rw[ah];omega) (by rw[ah];omega) e).2) hb (by omega) e
 le:=T.le
structure ReadM (s:RS)(k:Int)(ls:List Int)(j:Nat)(ch:Bool)(o:MV)(c:MC)(s':RS):Prop where
 yes:s'.bad=false->s.bad=false/\s.l=val 1 (aA k.toNat)++(aO (ls.take j) o c++s'.l)/\∀x∈ls.take j,MayG x o c
 go:s.bad=false->∀(W:World) (m:MV) (d:MC) (r:List UInt8),MayM W m d->s.l=dO m d++r->m.k=k/\(lettersOf m.k m.wh).take j=ls.take j/\(ch=true->lettersOf m.k m.wh=ls)/\s'.bad=false/\s'.l=aO ((lettersOf m.k m.wh).drop j) m d++r
 le:s'.l.length<=s.l.length
theorem ReadM.first {s s':RS}{n:Nat}{o:MV}{c:MC}(T:Took (fun n:Nat=>val 1 (aA n)) (fun n=>n<=12) (fun n=>n<18446744073709551616) s n s')(hn:1<=n/\n<=12):ReadM s n (lettersOf n false) 0 (decide (n≠10)) o c s' where
 yes:=fun h=>by
  obtain⟨a,b,-⟩:=T.yes h;exact⟨a,by rw[Int.toNat_natCast];simpa [aO] using b,fun x hx=>by simp at hx⟩
 go:=fun hb W m d r hM e=>by
  have hk:=hM.k;unfold dO at e;rw[List.append_assoc] at e;obtain⟨h1,h2⟩:=iU T (fun z r r' _ _ e=>(ay (by decide) (by rw[ah];omega) (by rw[ah];omega) e).2) hb (z:=m.k.toNat) (by omega) e;obtain⟨-,e2,g⟩:=T.yes h1;have e3:=iF g (by omega) (ay (t:=1) (by decide) (by rw[ah];omega) (by rw[ah];omega) (e2.symm.trans e)).1;have hkn:m.k=(n:Int):=by omega
  refine⟨hkn,rfl,fun hc=>?_,h1,h2⟩;have h10:n≠10:=of_decide_eq_true hc;rw[hkn];have:=xk (k:=(n:Int)) (by omega) (by omega);cases m.wh
  ·rfl
  exact this.symm
 le:=T.le
theorem zV (wh:Bool):(lettersOf 10 wh).take 2=[118,102]:=by cases wh<;>rfl
theorem ReadM.step {s s1 s2:RS}{k:Int}{ls:List Int}{j:Nat}{ch:Bool}{o o':MV}{c c':MC}{x:Int}(R:ReadM s k ls j ch o c s1)(hch:ch=true\/(k=10/\j<2/\ls=lettersOf 10 false))(hx:ls[j]?=some x)(S:StepX x s1 o' c' s2)
  (hkeep:∀y∈ls.take j,di y o' c'=di y o c/\(MayG y o c->MayG y o' c')):ReadM s k ls (j+1) ch o' c' s2 where
 yes:=fun h=>by
  obtain⟨a1,b1,g1⟩:=S.yes h;obtain⟨a2,b2,g2⟩:=R.yes a1;have e:aO (ls.take j) o' c'=aO (ls.take j) o c:=by
   unfold aO;rw[List.flatMap_def,List.flatMap_def]
   congr 1
   exact List.map_congr_left (fun y hy=>(hkeep y hy).1)
  refine⟨a2,?_,fun y hy=>?_⟩
  ·rw[List.take_add_one,hx,Option.toList_some,pK,e,b2,b1];simp only[List.append_assoc]
  rw[List.take_add_one,hx] at hy;rcases List.mem_append.1 hy with hy | hy
  ·exact (hkeep y hy).2 (g2 y hy)
  obtain rfl:y=x:=by simpa using hy
  exact g1
 go:=fun hb W m d r hM e=>by
  obtain⟨h1,h2,h3,h4,h5⟩:=R.go hb W m d r hM e;have hxm:(lettersOf m.k m.wh)[j]?=some x:=by
   rcases hch with hc | ⟨h10,hj,hls⟩
   ·rw[h3 hc];exact hx
   rw[h1,h10];have a1:((lettersOf 10 m.wh).take 2)[j]?=(lettersOf 10 m.wh)[j]?:=List.getElem?_take_of_lt hj;have a2:((lettersOf 10 false).take 2)[j]?=(lettersOf 10 false)[j]?:=List.getElem?_take_of_lt hj;rw[zV] at a1 a2;rw[<-a1,a2,<-hls];exact hx
  have hd:(lettersOf m.k m.wh).drop j=x::(lettersOf m.k m.wh).drop (j+1):=by
   obtain⟨hl,he⟩:=List.getElem?_eq_some_iff.1 hxm;rw[List.drop_eq_getElem_cons hl,he]
  rw[hd] at h5;have h6:s1.l=di x m d++(aO ((lettersOf m.k m.wh).drop (j+1)) m d++r):=by rw[h5];unfold aO;rw[List.flatMap_cons,List.append_assoc]
  obtain⟨h7,h8⟩:=S.go h4 W m d _ hM.at_ hM.u (hM.may x (List.mem_of_getElem? hxm)) h6;refine⟨h1,?_,h3,h7,h8⟩;rw[List.take_add_one,List.take_add_one,h2,hxm,hx]
 le:=Nat.le_trans S.le R.le
end Go.Proofs.YtfmmandlmbcncaaGreatDoor.Msg
