/-
  A part of the proof.
-/
import Derived.Test.YtfmmandlmbcncaaGreatDoorKdbf
set_option maxHeartbeats 40000000
set_option maxRecDepth 100000
namespace Go.Proofs.YtfmmandlmbcncaaGreatDoor.Msg
open Go.RowKit Go.Lib Mem Tlv
def ay (k:Int):MV:=⟨k,0,0,0,0,0,dN,aA,0,0,0,none,0,0,none,0,0,0,false,none,0,0⟩
def dI:MC:=⟨⟨[],[],[]⟩,⟨[],[]⟩,[],[],[]⟩
def dE (x:Int)(c0 c:MC):MC:=
 if x=113 then { c0 with rq:=c.rq }
 else if x=114 then { c0 with rs:=c.rs }
 else if x=115 then { c0 with snap:=c.snap }
 else if x=108 then { c0 with log:=c.log }
 else if x=101 then { c0 with seen:=c.seen }
 else c0
theorem jh (W:World)(k:Int):MAt W (ay k) dI:=⟨⟨Rd.nil _ _,Rd.nil _ _,Rd.nil _ _,Nat.zero_le _,Nat.zero_le _,Nat.zero_le _⟩,⟨⟨Rd.nil _ _,fun _ hp=>absurd hp List.not_mem_nil⟩,Rd.nil _ _,Nat.zero_le _⟩,Rd.nil _ _,LgAt.nil _,Rd.nil _ _,Nat.zero_le _,Nat.zero_le _⟩
theorem Nv {W:World}{x:Int}{m0 m:MV}{c0 c:MC}(h0:MAt W m0 c0)(h:MAt W m c):MAt W (aK x m0 m) (dE x c0 c):=by
 by_cases e118:x=118
 ·subst e118;exact⟨h0.rq,h0.rs,h0.sn,h0.lg,h0.se,h0.ls,h0.lh⟩
 by_cases e110:x=110
 ·subst e110;exact⟨h0.rq,h0.rs,h0.sn,h0.lg,h0.se,h0.ls,h0.lh⟩
 by_cases e102:x=102
 ·subst e102;exact⟨h0.rq,h0.rs,h0.sn,h0.lg,h0.se,h0.ls,h0.lh⟩
 by_cases e99:x=99
 ·subst e99;exact⟨h0.rq,h0.rs,h0.sn,h0.lg,h0.se,h0.ls,h0.lh⟩
 by_cases e117:x=117
 ·subst e117;exact⟨h0.rq,h0.rs,h0.sn,h0.lg,h0.se,h0.ls,h0.lh⟩
 by_cases e113:x=113
 ·subst e113;exact⟨h.rq,h0.rs,h0.sn,h0.lg,h0.se,h0.ls,h0.lh⟩
 by_cases e114:x=114
 ·subst e114;exact⟨h0.rq,h.rs,h0.sn,h0.lg,h0.se,h0.ls,h0.lh⟩
 by_cases e97:x=97
 ·subst e97;exact⟨h0.rq,h0.rs,h0.sn,h0.lg,h0.se,h0.ls,h0.lh⟩
 by_cases e109:x=109
 ·subst e109;exact⟨h0.rq,h0.rs,h0.sn,h0.lg,h0.se,h0.ls,h0.lh⟩
 by_cases e98:x=98
 ·subst e98;exact⟨h0.rq,h0.rs,h0.sn,h0.lg,h0.se,h0.ls,h0.lh⟩
 by_cases e115:x=115
 ·subst e115;exact⟨h0.rq,h0.rs,h.sn,h0.lg,h0.se,h.ls,h0.lh⟩
 by_cases e108:x=108
 ·subst e108;exact⟨h0.rq,h0.rs,h0.sn,h.lg,h0.se,h0.ls,h0.lh⟩
 by_cases e111:x=111
 ·subst e111;exact⟨h0.rq,h0.rs,h0.sn,h0.lg,h0.se,h0.ls,h0.lh⟩
 by_cases e119:x=119
 ·subst e119;exact⟨h0.rq,h0.rs,h0.sn,h0.lg,h0.se,h0.ls,h0.lh⟩
 by_cases e101:x=101
 ·subst e101;exact⟨h0.rq,h0.rs,h0.sn,h0.lg,h.se,h0.ls,h.lh⟩
 unfold aK dE;simp only[e118,e110,e102,e99,e117,e113,e114,e97,e109,e98,e115,e108,e111,e119,e101,if_false];exact h0
def iQ (ls:List Int)(m:MV):MV:=ls.foldl (fun b x=>aK x b m) (ay m.k)
def kH (ls:List Int)(c:MC):MC:=ls.foldl (fun b x=>dE x b c) dI
theorem Ed (ls:List Int)(x:Int)(m:MV):iQ (ls++[x]) m=aK x (iQ ls m) m:=by unfold iQ;rw[List.foldl_append];rfl
theorem Ou {W:World}{m:MV}{c:MC}(h:MAt W m c)(ls:List Int):MAt W (iQ ls m) (kH ls c):=by
 have key:∀(ls:List Int) (m0:MV) (c0:MC),MAt W m0 c0->MAt W (ls.foldl (fun b x=>aK x b m) m0) (ls.foldl (fun b x=>dE x b c) c0):=by
  intro ls;induction ls with
  | nil=>exact fun _ _ h0=>h0
  | cons x ls ih=>exact fun m0 c0 h0=>ih _ _ (Nv h0 h)
 exact key ls _ _ (jh W m.k)
def dA:List Int:=[118,110,102,99,117,113,114,97,109,98,115,108,111,119,101]
def lettersOf (k:Int)(wh:Bool):List Int:=dA.filter fun x=>nP (fA k wh) x
theorem mg (k:Int)(wh:Bool)(t0 t1 t2 t3 t4 t5 t6 t7:Nat):(ofL k wh t0 t1 t2 t3 t4 t5 t6 t7).map FV.l=lettersOf k wh:=by
 unfold ofL lettersOf;have e:dA=(allL t0 t1 t2 t3 t4 t5 t6 t7).map FV.l:=rfl;rw[e,List.filter_map]
 congr 1
 refine List.filter_congr (fun f _=>?_);simp[goes]
theorem yF {k:Int}{wh:Bool}{t0 t1 t2 t3 t4 t5 t6 t7:Nat}{f:FV}(h:f∈ofL k wh t0 t1 t2 t3 t4 t5 t6 t7):f∈allL t0 t1 t2 t3 t4 t5 t6 t7:=(List.mem_filter.1 h).1
def dU (m:MV)(c:MC):Bool:=
 decide (lettersOf m.k m.wh≠[])&&(aG m c (iQ (lettersOf m.k m.wh) m) (kH (lettersOf m.k m.wh) c)&&(decide (0<=m.fr)&&(decide (m.fr<7)&&(decide (m.ln<=4096)&&(decide (m.sn<=4194304)&&(decide (m.hn<=7)&&(!(c.log.any fun u=>!aB u.1.op u.2)&&(if m.k=1\/m.k=3 then aB m.rq.op c.rq else if m.k=2 then bf m.rs c.rs else true))))))))
theorem fZ {B tb:Nat}{W W':World}{t:Int}{fo:Value}{ta ob:Nat}{m:MV}(h:plainAt W t fo ta ob)(hm:W.heap[tb]?=some m.box)(ho:Oth B tb W W'):plainAt W' t fo ta ob:=by
 have h1:ta≠tb:=fun e=>by have:=h.1;rw[e,hm] at this;cases this
 have h2:ob≠tb:=fun e=>by have:=h.2;rw[e,hm] at this;cases this
 exact⟨(ho.oth _ (Array.getElem?_eq_some_iff.1 h.1).1 h1).trans h.1,(ho.oth _ (Array.getElem?_eq_some_iff.1 h.2).1 h2).trans h.2⟩
theorem AllAt.othM {B tb:Nat}{W W':World}{t0 t1 t2 t3 t4 t5 t6 t7:Nat}{m:MV}(h:AllAt t0 t1 t2 t3 t4 t5 t6 t7 W)(hm:W.heap[tb]?=some m.box)(ho:Oth B tb W W'):AllAt t0 t1 t2 t3 t4 t5 t6 t7 W':=
 ⟨fZ h.a0 hm ho,fZ h.a1 hm ho,fZ h.a2 hm ho,fZ h.a3 hm ho,fZ h.a4 hm ho,fZ h.a5 hm ho,fZ h.a6 hm ho,fZ h.a7 hm ho⟩
theorem zK {W:World}{b n cap tb:Nat}{L:List FV}{m:MV}(h:Rd W 4 (some ⟨b,0,none⟩) n cap (fV L))(hL:0<L.length)(hm:W.heap[tb]?=some m.box):b≠tb:=fun e=>by
 subst e;have hn:=h.1;rw[qh] at hn;have hle:=h.le;obtain⟨b1,o1,e1,-,hc⟩:=h.some (by omega);obtain⟨rfl,rfl⟩:b=b1/\0=o1:=by simpa using e1
 obtain⟨f,hf⟩:∃f,L[0]?=some f:=⟨_,List.getElem?_eq_getElem hL⟩
 have h1:=wV L 0 f hf 0 (by decide);have h2:=hc 0 (.int .i32 f.l) (by simpa [FV.cells] using h1);rw[(McAt.of hm).c0] at h2;cases h2
theorem PI {W W':World}{B tb size n cap:Nat}{ao:Option Addr}{xs:List Value}(h:Rd W size ao n cap xs)(ho:Oth B tb W W')(hn:∀a,ao=some a->a.block≠tb):Rd W' size ao n cap xs:=by
 obtain⟨h1,h2,h3,h4,h5⟩:=h;refine⟨h1,h2,h3,h4,fun h0 a ha=>?_⟩;obtain⟨s,l,c⟩:=h5 h0 a ha;exact⟨s,Nat.lt_of_lt_of_le l ho.bel.size,fun j u hu=>(World.cell?_of_block (a:=⟨a.block,a.off+j,none⟩) (ho.oth _ l (hn a ha))).trans (c j u hu)⟩
theorem vg {W:World}{b n cap k:Nat}{L:List FV}{f:FV}(h:Rd W 4 (some ⟨b,0,none⟩) n cap (fV L))(hf:L[k]?=some f):∀(j:Nat) (v:Value),f.cells[j]?=some v->W.cell? ⟨b,k*4+j,none⟩=some v:=fun j v hv=>by
 have hj:j<4:=by
  have:=(Array.getElem?_eq_some_iff.1 hv).1;simpa [FV.cells] using this
 have hk:k<L.length:=(List.getElem?_eq_some_iff.1 hf).1;have hl:=h.1;rw[qh] at hl;have h0:=h.le;obtain⟨b1,o1,e,-,hc⟩:=h.some (by omega);obtain⟨rfl,rfl⟩:b=b1/\0=o1:=by simpa using e
 have h1:=wV L k f hf j hj;rw[hv] at h1;have:=hc (k*4+j) v h1;rw[Nat.zero_add] at this;exact this
def aJ (ls:List Int)(m:MV)(c:MC):List UInt8:=ls.flatMap fun x=>dB x m c
def dM (m:MV)(c:MC):List UInt8:=val 1 (az m.k.toNat)++aJ (lettersOf m.k m.wh) m c
theorem og (ls:List Int)(x:Int)(m:MV)(c:MC):aJ (ls++[x]) m c=aJ ls m c++dB x m c:=by simp[aJ]
structure FitsM (m:MV)(c:MC):Prop where
 rs:kU c.rs
 rl:bf m.rs c.rs=true->(dG m.rs c.rs).length<=4194304
 lg:(∀p∈c.log,aB p.1.op p.2=true)->(jo c.log).length<=4194304
def bV (m:MV)(c:MC):Bool:=dU m c&&decide ((dM m c).length<=8388608)
theorem kinds (k:Int)(wh:Bool):lettersOf k wh=[]\/((k=1\/k=2\/k=3\/k=4\/k=5\/k=6\/k=7\/k=8\/k=9\/k=10\/k=11\/k=12)):=by
 by_cases h:1<=k/\k<=12
 ·right;omega
 left;have e:fA k wh=[]:=by
  unfold fA mapM
  repeat rw[if_neg (by omega)]
  simp
 unfold lettersOf;rw[e];rfl
theorem zM {k:Int}{wh:Bool}(h:(113:Int)∈lettersOf k wh):k=1\/k=3:=by
 rcases kinds k wh with h0 | h0
 ·rw[h0] at h;cases h
 rcases h0 with rfl|rfl|rfl|rfl|rfl|rfl|rfl|rfl|rfl|rfl|rfl|rfl<;>cases wh<;>first | (left;rfl) | (right;rfl) | (exact absurd h (by decide))
theorem yR {k:Int}{wh:Bool}(h:(114:Int)∈lettersOf k wh):k=2:=by
 rcases kinds k wh with h0 | h0
 ·rw[h0] at h;cases h
 rcases h0 with rfl|rfl|rfl|rfl|rfl|rfl|rfl|rfl|rfl|rfl|rfl|rfl<;>cases wh<;>first | rfl | (exact absurd h (by decide))
structure WellP (m:MV)(c:MC):Prop where
 ls:lettersOf m.k m.wh≠[]
 same:aG m c (iQ (lettersOf m.k m.wh) m) (kH (lettersOf m.k m.wh) c)=true
 f0:0<=m.fr
 f7:m.fr<7
 ln:m.ln<=4096
 sn:m.sn<=4194304
 hn:m.hn<=7
 log:∀p∈c.log,aB p.1.op p.2=true
 rq:m.k=1\/m.k=3->aB m.rq.op c.rq=true
 rs:m.k=2->bf m.rs c.rs=true
theorem WellP.of {m:MV}{c:MC}(h:dU m c=true):WellP m c:=by
 unfold dU at h;simp only[Bool.and_eq_true,decide_eq_true_eq,Bool.not_eq_true'] at h;obtain⟨h1,h2,h3,h4,h5,h6,h7,h8,h9⟩:=h;refine⟨h1,h2,h3,h4,h5,h6,h7,fun p hp=>?_,fun hk=>?_,fun hk=>?_⟩
 ·have:=List.any_eq_false.1 h8 p hp;simpa using this
 ·rw[if_pos hk] at h9;exact h9
 rw[if_neg (by omega),if_pos hk] at h9;exact h9
theorem WellP.may {m:MV}{c:MC}(h:WellP m c)(hf:FitsM m c):∀x∈lettersOf m.k m.wh,MayF x m c:=fun x hx=>
 ⟨fun _=>⟨h.f0,h.f7⟩,fun e=>h.rq (zM (e▸hx)),fun e=>by have:=h.rs (yR (e▸hx));exact⟨this,hf.rl this⟩,fun _=>h.sn,fun _=>⟨h.log,hf.lg h.log,by have:=h.ln;omega⟩,fun _=>by have:=h.hn;omega⟩
theorem zh {W:World}{x:Int}{m:MV}{c:MC}(hm:MAt W m c)(h:MayF x m c):(dB x m c).length<=4194309:=by
 by_cases e118:x=118
 ·subst e118;show (val 2 (az m.vi.toNat)).length<=_;rw[ae,ah];omega
 by_cases e110:x=110
 ·subst e110;show (val 3 (az m.no.toNat)).length<=_;rw[ae,ah];omega
 by_cases e102:x=102
 ·subst e102;show (val 4 (az m.fr.toNat)).length<=_;rw[ae,ah];omega
 by_cases e99:x=99
 ·subst e99;show (val 5 (az m.cl.toNat)).length<=_;rw[ae,ah];omega
 by_cases e117:x=117
 ·subst e117;show (val 6 (az m.nu.toNat)).length<=_;rw[ae,ah];omega
 by_cases e113:x=113
 ·subst e113;have:=gU hm.rq (h.rq rfl);show (val 7 (eQ m.rq (opL m.rq.op c.rq))).length<=_;rw[ae,gp];omega
 by_cases e114:x=114
 ·subst e114;obtain⟨-,h2⟩:=h.rs rfl;show (val 8 (dG m.rs c.rs)).length<=_;rw[ae];omega
 by_cases e97:x=97
 ·subst e97;show (val 9 (az m.at_.toNat)).length<=_;rw[ae,ah];omega
 by_cases e109:x=109
 ·subst e109;show (val 10 (az m.cm.toNat)).length<=_;rw[ae,ah];omega
 by_cases e98:x=98
 ·subst e98;show (val 11 (az m.bs.toNat)).length<=_;rw[ae,ah];omega
 by_cases e115:x=115
 ·subst e115;have h2:=h.sn rfl;have h3:=hm.sn.1;rw[aS] at h3;show (val 12 c.snap).length<=_;rw[ae];omega
 by_cases e108:x=108
 ·subst e108;obtain⟨-,h2,-⟩:=h.log rfl;show (val 13 (jo c.log)).length<=_;rw[ae];omega
 by_cases e111:x=111
 ·subst e111;show (val 14 (az m.nc.toNat)).length<=_;rw[ae,ah];omega
 by_cases e119:x=119
 ·subst e119;show (val 15 [if m.wh then 1 else 0]).length<=_;rw[ae];simp
 by_cases e101:x=101
 ·subst e101;have h2:=h.seen rfl;have h3:=hm.se.1;rw[jl] at h3;show (val 16 (gZ c.seen)).length<=_;rw[ae,oI];omega
 unfold dB;simp only[e118,e110,e102,e99,e117,e113,e114,e97,e109,e98,e115,e108,e111,e119,e101,if_false];exact Nat.zero_le _
theorem lG {W:World}{m:MV}{c:MC}(hm:MAt W m c):∀(ls:List Int),(∀x∈ls,MayF x m c)->(aJ ls m c).length<=ls.length*4194309
 | [],_=>Nat.zero_le _
 | x::ls,h=>by
  have h1:=zh hm (h x (by simp));have h2:=lG hm ls (fun y hy=>h y (by simp[hy]));have e:aJ (x::ls) m c=dB x m c++aJ ls m c:=rfl;rw[e,List.length_append,List.length_cons];omega
theorem kV (k:Int)(wh:Bool):(lettersOf k wh).length<=15:=List.length_filter_le _ _
theorem iF {B g:Nat}{W W':World}{l:List UInt8}{v v':Value}{t:Int}{fo:Value}{ta ob:Nat}(h:plainAt W t fo ta ob)(hw:WrAt B g l 0 v W)(hl:2<=l.length)(hk:KeepW g v v' W W'):plainAt W' t fo ta ob:=by
 have h1:ta≠g:=fun e=>by have:=h.1;rw[e,hw.at_] at this;cases this
 have h2:ob≠g:=fun e=>by have:=h.2;rw[e,hw.at_] at this;cases this
 exact⟨(hk.1 _ (Array.getElem?_eq_some_iff.1 h.1).1 h1 (MS hw.own (by rw[Nat.mul_one];exact hl) h.1)).trans h.1,(hk.1 _ (Array.getElem?_eq_some_iff.1 h.2).1 h2 (yI h.2 (fun c fr e=>by cases e) hw.own)).trans h.2⟩
theorem AllAt.kw {B g:Nat}{W W':World}{l:List UInt8}{v v':Value}{t0 t1 t2 t3 t4 t5 t6 t7:Nat}(h:AllAt t0 t1 t2 t3 t4 t5 t6 t7 W)(hw:WrAt B g l 0 v W)(hl:2<=l.length)(hk:KeepW g v v' W W'):AllAt t0 t1 t2 t3 t4 t5 t6 t7 W':=
 ⟨iF h.a0 hw hl hk,iF h.a1 hw hl hk,iF h.a2 hw hl hk,iF h.a3 hw hl hk,iF h.a4 hw hl hk,iF h.a5 hw hl hk,iF h.a6 hw hl hk,iF h.a7 hw hl hk⟩
theorem H6 {B g b n cap:Nat}{W W':World}{l:List UInt8}{v v':Value}{L:List FV}(h:Rd W 4 (some ⟨b,0,none⟩) n cap (fV L))(hL:0<L.length)(hw:WrAt B g l 0 v W)(hl:2<=l.length)(hk:KeepW g v v' W W')(hz:W.heap.size<=W'.heap.size):Rd W' 4 (some ⟨b,0,none⟩) n cap (fV L):=by
 have hn:=h.1;rw[qh] at hn;have hle:=h.le;obtain⟨b1,o1,e1,hlt,hc⟩:=h.some (by omega);obtain⟨rfl,rfl⟩:b=b1/\0=o1:=by simpa using e1
 obtain⟨f,hf⟩:∃f,L[0]?=some f:=⟨_,List.getElem?_eq_getElem hL⟩
 have h1:=wV L 0 f hf 0 (by decide);have h2:=hc 0 (.int .i32 f.l) (by simpa [FV.cells] using h1);have hne:b≠g:=fun e=>by
  subst e;have hat:=hw.at_;simp only[World.cell?,hat] at h2;have h3:v=.int .i32 f.l:=by simpa using h2
  obtain⟨a,cap,e4,-⟩:=Rd.of_own hw.own;rw[h3] at e4;cases e4
 have hblk:=hk.1 b hlt hne (IM hw.own (by omega) h2 (fun z e=>by cases e));obtain⟨g1,g2,g3,g4,g5⟩:=h;refine⟨g1,g2,g3,g4,fun h0 a ha=>?_⟩;cases ha;obtain⟨s,l,c⟩:=g5 h0 _ rfl;exact⟨s,Nat.lt_of_lt_of_le l hz,fun j u hu=>(World.cell?_of_block (a:=⟨b,0+j,none⟩) hblk).trans (c j u hu)⟩
structure PkLoop (w:World)(m:MV)(c:MC)(B b n t0 t1 t2 t3 t4 t5 t6 t7:Nat)(L:List FV)(k:Nat)(wr:World):Prop where
 bel:Below w.heap.size w wr
 msg:wr.heap[w.heap.size]?=some m.box
 row:Rd wr 4 (some ⟨b,0,none⟩) L.length n (fV L)
 all:AllAt t0 t1 t2 t3 t4 t5 t6 t7 wr
 wr:∃v,WrAt B B (val 1 (az m.k.toNat)++aJ ((L.take k).map FV.l) m c) 0 v wr
theorem Kq (m:MV)(c:MC)(w:World)(h:MAt w m c)(hu:U64M m c)(hk0:0<=m.k)(hk1:m.k<=255)(hmf:∀x∈lettersOf m.k m.wh,MayF x m c):Calls Tryz.prog 61 #[m.val] w (Je w (dM m c)):=by
 have hb0:Below w.heap.size w (w.alloc m.box):=(Below.refl _ _).alloc (Nat.le_refl _) _;have k0:(w.alloc m.box).heap[w.heap.size]?=some m.box:=by show (w.heap.push _)[w.heap.size]?=some _;exact Array.getElem?_push_size
 obtain⟨kn,hkn⟩:∃n:Nat,m.k=(n:Int):=⟨m.k.toNat,by omega⟩
 have hkw:IntKind.wrap .u64 m.k=(kn:Int):=by rw[hkn,IntKind.wrap_u64];omega
 have HK:Hid (m.k.toNat=kn):=hid (by omega);clear hkn hk0 hk1;unfold MV.box MV.cells at hb0 k0;unfold MV.val MV.cells;go_in;go_upto_region 1 with fail;generalize hg:w.alloc _=W0 at *;have q0:W0.heap[w.heap.size]?=some m.box:=k0;clear hg k0;have hbw:Below W0.heap.size W0 (W0.alloc (.cells #[.slice none 0 0,.int .i64 0] 177)):=(Below.refl _ _).alloc (Nat.le_refl _) _;have hw1:WrAt W0.heap.size W0.heap.size [] 0 (.slice none 0 0) (W0.alloc (.cells #[.slice none 0 0,.int .i64 0] 177)):=⟨by show (W0.heap.push _)[W0.heap.size]?=some _;exact Array.getElem?_push_size,Nat.le_refl _,World.ownsRow_nil _ _ _ _⟩
 have q1:=ag q0 hbw;have c0:=(McAt.of q1).c0;have hB0:=hb0.size;have hBw:w.heap.size<W0.heap.size:=(Array.getElem?_eq_some_iff.1 q0).1;go_wp2_with fail;refine (qE W0.heap.size W0.heap.size [] _ 1 kn _ hw1 (by decide) (by simp)).mono ?_;rintro e W2 ⟨rfl,v2,hw2,hb2,-⟩;rw[List.nil_append] at hw2;have q2:W2.heap[w.heap.size]?=some m.box:=(hb2.block _ hBw).trans q1;have bel2:=(hb0.trans (hbw.mono hB0)).trans (hb2.mono hB0);generalize hBq:W0.heap.size=B at *;clear hbw hw1 q1 q0 c0 hb2 hBq hb0;have c0:=(McAt.of q2).c0;have c25:=(McAt.of q2).c25;go_wp2_with fail;refine (wQ m.k m.wh W2).mono ?_;rintro e W3 ⟨b,t0,t1,t2,t3,t4,t5,t6,t7,ln,n,rfl,hln,hrow,hall,hb3⟩;obtain⟨L,hL⟩:∃L,ofL m.k m.wh t0 t1 t2 t3 t4 t5 t6 t7=L:=⟨_,rfl⟩
 have hmem:∀f∈L,f∈allL t0 t1 t2 t3 t4 t5 t6 t7:=fun f hf=>yF (by rw[hL];exact hf);have hlet:L.map FV.l=lettersOf m.k m.wh:=by rw[<-hL];exact mg _ _ _ _ _ _ _ _ _ _
 rw[hL] at hrow hln;subst hln;have HLet:=hid hlet;have s0:PkLoop w m c B b n t0 t1 t2 t3 t4 t5 t6 t7 L 0 W3:=⟨bel2.trans (hb3.mono bel2.size),ag q2 hb3,hrow,hall,v2,by rw[HK.out];simpa [aJ] using hw2.later hb3⟩
 have hLn:L.length<=15:=by
  have:=congrArg List.length hlet;rw[List.length_map] at this;have:=kV m.k m.wh;omega
 have hmL:∀f∈L,MayF f.l m c:=fun f hf=>hmf _ (by rw[<-hlet];exact List.mem_map_of_mem hf);clear hL hlet hrow hall hb3 q2 c0 c25 bel2 hw2;go_wp2_with fail;go_loopw [18] (fun p wr=>∃k:Nat,k<=L.length/\p=.int .i64 (k:Int)/\PkLoop w m c B b n t0 t1 t2 t3 t4 t5 t6 t7 L k wr) (fun p _=>L.length-(intOf p).toNat)
 case atStart=>exact⟨0,Nat.zero_le _,rfl,s0⟩
 case round=>
  obtain⟨k,hk,rfl,hW⟩:=hrel;clear s0;obtain⟨v,hv⟩:=hW.wr;by_cases hkn:k<L.length
  ·obtain⟨f,hf⟩:∃f,L[k]?=some f:=⟨_,List.getElem?_eq_getElem hkn⟩
   have hfL:=List.mem_of_getElem? hf;have hfm:=hmem f hfL;have hmf1:=hmL f hfL;obtain⟨pf,pc,hP⟩:=MF f hfm;obtain⟨o1,o2,o3⟩:=um _ _ _ _ _ _ _ _ f hfm;have hrg:=vg hW.row hf;have hn1:L.take (k+1)=L.take k++[f]:=by rw[List.take_add_one,hf];rfl
   have HN:=hid hn1;have hM:=h.later hW.bel;have hlen:(val 1 (az m.k.toNat)++aJ ((L.take k).map FV.l) m c).length<=100000000:=by
    have h1:=lG hM ((L.take k).map FV.l) (fun x hx=>by
     obtain⟨f',hf',rfl⟩:=List.mem_map.1 hx;exact hmL f' (List.mem_of_mem_take hf'))
    have h2:((L.take k).map FV.l).length<=15:=by rw[List.length_map];exact Nat.le_trans (List.length_take_le _ _) (by omega)
    rw[List.length_append,ae,ah];have h3:=Nat.mul_le_mul_right 4194309 h2;omega
   have hl2:2<=(val 1 (az m.k.toNat)++aJ ((L.take k).map FV.l) m c).length:=by rw[List.length_append,ae];omega
   have HLen:=hid hlen;have HL2:=hid hl2;obtain⟨fl,fk,fp,ft⟩:=f;obtain⟨he,hen,hcl⟩:=hP;dsimp only at he hcl o1 o2 o3 hmf1;subst he;have hone:(#[.int .i32 fl,fk,.func (.func pf) #[] pc,ft]:Array Value).all (·.oneCell')=true:=by simp[Value.oneCell'] at o1 o3 ⊢;exact⟨o1,o3⟩
   unfold FV.cells at hrg;dsimp only at hrg;have i0:(0:Int)<=(k:Int):=by omega
   have i1:(k:Int)<(L.length:Int):=by omega
   have hcap:=hW.row.le;have hlt:b<wr.heap.size:=(hW.row.2.2.2.2 (by omega) _ rfl).2.1;clear hn1 hf hfm hlen hl2;go_upto_region 5 with (first | (refine dR (ty:=171) hrg rfl rfl rfl (by kernel_rfl) (by kernel_rfl) ?_;go_simp) | (refine kJ rfl rfl rfl rfl (by kernel_rfl) rfl hone ?_;go_simp));generalize hg:wr.alloc _=W3;have e3:wr.alloc (FV.box ⟨fl,fk,.func (.func pf) #[] pc,ft⟩)=W3:=hg;have hb3:Below wr.heap.size wr W3:=by rw[<-e3];exact (Below.refl _ _).alloc (Nat.le_refl _) _
   have k3:W3.heap[wr.heap.size]?=some (FV.box ⟨fl,fk,.func (.func pf) #[] pc,ft⟩):=by rw[<-e3];show (wr.heap.push _)[wr.heap.size]?=some _;exact Array.getElem?_push_size
   obtain⟨d0,d1,d2,d3,-⟩:=ou k3;dsimp only at d0 d1 d2 d3;have hv3:=hv.later hb3;have hcall:=hcl B B w.heap.size _ v m c W3 (hW.all.later hb3) hv3 HLen.out (ag hW.msg hb3) (hM.later hb3) hu hmf1 ⟨fun h0 a ha=>Nat.lt_trans (h.sn.lt h0 a ha) hBw⟩;clear hg e3 hrg hone o1 o2 o3 hcl;go_wp2_with fail;refine hcall.mono ?_;rintro e W4 ⟨rfl,v4,hw4,hb4,hk4⟩;have hW4:PkLoop w m c B b n t0 t1 t2 t3 t4 t5 t6 t7 L (k+1) W4:=by
    have hrow3:=hW.row.later hb3;refine⟨(hW.bel.trans (hb3.mono hW.bel.size)).trans (hb4.mono (Nat.le_of_lt hBw)),(hb4.block _ hBw).trans (ag hW.msg hb3),H6 hrow3 (by omega) hv3 HL2.out hk4 (by have:=hb4.size;omega),(hW.all.later hb3).kw hv3 HL2.out hk4,v4,?_⟩;rw[HN.out,List.map_append,List.map_singleton,og,<-List.append_assoc];exact hw4
   clear d0 d1 d2 d3 k3 hcall hw4 hb4 hk4 hv3 hb3 hW hv hM;go_wp2_with fail;go_roundw
   case rel=>exact⟨k+1,by omega,by go_num,hW4⟩
   case measure=>simp[intOf];omega
  obtain rfl:k=L.length:=by omega
  have hfull:L.take L.length=L:=List.take_length;rw[hfull,HLet.out] at hv;have hmsgL:val 1 (az m.k.toNat)++aJ (lettersOf m.k m.wh) m c=dM m c:=rfl;rw[hmsgL] at hv;have hlen:(dM m c).length<=100000000:=by
   have h1:=lG h (lettersOf m.k m.wh) hmf;have h2:=kV m.k m.wh;have h3:=Nat.mul_le_mul_right 4194309 h2;unfold dM;rw[List.length_append,ae,ah];omega
  have hbel:=hW.bel;clear hfull hmsgL hW;go_wp2_with fail;refine (pU _ _ _ _ _ hv hlen).mono ?_;rintro e W5 ⟨v5,rfl,ho5,hb5⟩;obtain⟨a5,k5,e5,hr5⟩:=Rd.of_own ho5;subst e5;have hf5:=jF ho5;go_wp2_with fail;go_ret2;exact⟨a5,k5,rfl,hr5,hbel.trans (hb5.mono hbel.size),fun a ha=>Nat.le_trans hbel.size (hf5 a ha)⟩
end Go.Proofs.YtfmmandlmbcncaaGreatDoor.Msg
