/-
  A part of the proof.
-/
import Derived.Test.YtfmmandlmbcncaaGreatDoorKcbd
import Derived.Test.YtfmmandlmbcncaaGreatDoorKcax
set_option maxHeartbeats 40000000
set_option maxRecDepth 100000
namespace Go.Proofs.YtfmmandlmbcncaaGreatDoor.Mem
open Go.RowKit
section
variable {P:Program} (w:World)
end
end Go.Proofs.YtfmmandlmbcncaaGreatDoor.Mem
namespace Go.Proofs.YtfmmandlmbcncaaGreatDoor.Msg
open Go.RowKit Go.Lib Mem Tlv
theorem IV {W W':World}{row:Option Nat}{size:Nat}{ao:Option Addr}{n cap:Nat}{xs:List Value}(h:Rd W size ao n cap xs)(hg:W.grownBy W' row)(hd:0<cap->∀a,ao=some a->some a.block≠row):Rd W' size ao n cap xs:=by
 obtain⟨h1,h2,h3,h4,h5⟩:=h;refine⟨h1,h2,h3,h4,fun h0 a ha=>?_⟩;obtain⟨s1,l,c⟩:=h5 h0 a ha;exact⟨s1,Nat.lt_of_lt_of_le l hg.size,fun j u hu=>(World.cell?_of_block (a:=⟨a.block,a.off+j,none⟩) (hg.block _ l (hd h0 a ha))).trans (c j u hu)⟩
theorem wF {M:Nat}{xs:List Nat}{a b:World}(h:BelX M xs a b)(k:Nat)(cs:Array Value)(hk:k∈xs):BelX M xs a (b.setRow k cs):=by
 have hb:=below_setRow (Below.refl k b) (Nat.le_refl _) cs;exact⟨hb.os.trans h.os,hb.tape.trans h.tape,hb.output.trans h.output,Nat.le_trans h.size hb.size,fun j h1 h2=>(setRow_other b k j cs (fun e=>h2 (e▸hk))).trans (h.block j h1 h2)⟩
structure MV where
 k:Int
 vi:Int
 no:Int
 fr:Int
 cl:Int
 nu:Int
 rq:RV
 rs:QV
 at_:Int
 cm:Int
 bs:Int
 so:Option Addr
 sn:Nat
 sc:Nat
 lo:Option Addr
 ln:Nat
 lc:Nat
 nc:Int
 wh:Bool
 ho:Option Addr
 hn:Nat
 hc:Nat
def MV.cells (m:MV):Array Value:=#[.int .i64 m.k,.int .u64 m.vi,.int .u64 m.no,.int .i64 m.fr,.int .u64 m.cl,.int .u64 m.nu,.int .u64 m.rq.cl,.int .u64 m.rq.nu,.int .i64 m.rq.op.k,.string m.rq.op.name,.string m.rq.op.to,.slice m.rq.op.ao m.rq.op.an m.rq.op.ac,.slice m.rq.op.bo m.rq.op.bn m.rq.op.bc,.slice m.rq.op.co m.rq.op.cn m.rq.op.cc,.int .i64 m.rq.op.n,.int .i64 m.rs.code,.bool m.rs.yes,.slice m.rs.eo m.rs.en m.rs.ec,.slice m.rs.co m.rs.cn m.rs.cc,.int .u64 m.at_,.int .u64 m.cm,.int .u64 m.bs,.slice m.so m.sn m.sc,.slice m.lo m.ln m.lc,.int .u64 m.nc,.bool m.wh,.slice m.ho m.hn m.hc]
def MV.val (m:MV):Value:=.agg m.cells
def MV.box (m:MV):Obj:=.cells m.cells 59
structure MC where
 rq:OC
 rs:QC
 snap:List UInt8
 log:List RP
 seen:List Nat
structure MAt (W:World)(m:MV)(c:MC):Prop where
 rq:OpAt W m.rq.op c.rq
 rs:QAt W m.rs c.rs
 sn:Rd W 1 m.so m.sn m.sc (byV c.snap)
 lg:LgAt W m.lo m.ln m.lc c.log
 se:Rd W 1 m.ho m.hn m.hc (iT c.seen)
 ls:m.sn<=1000000000
 lh:m.hn<=1000000000
theorem MAt.later {W W':World}{m:MV}{c:MC}(h:MAt W m c)(hb:Below W.heap.size W W'):MAt W' m c:=⟨h.rq.later hb,h.rs.later hb,h.sn.later hb,h.lg.later hb,h.se.later hb,h.ls,h.lh⟩
theorem dH {W:World}{B:Nat}{m:MV}(h:W.heap[B]?=some m.box)(i:Nat)(v:Value)(hv:m.cells[i]?=some v):W.cell? ⟨B,i,none⟩=some v:=by
 unfold MV.box at h;simp[World.cell?,h,hv]
theorem bV {W:World}{B:Nat}{m:MV}(h:W.heap[B]?=some m.box)(i:Nat):W.frozen? ⟨B,i,none⟩=false:=by
 unfold MV.box at h;simp[World.frozen?,h]
structure McAt (W:World)(B:Nat)(m:MV):Prop where
 c0:W.cell? ⟨B,0,none⟩=some (.int .i64 m.k)
 c1:W.cell? ⟨B,1,none⟩=some (.int .u64 m.vi)
 c2:W.cell? ⟨B,2,none⟩=some (.int .u64 m.no)
 c3:W.cell? ⟨B,3,none⟩=some (.int .i64 m.fr)
 c4:W.cell? ⟨B,4,none⟩=some (.int .u64 m.cl)
 c5:W.cell? ⟨B,5,none⟩=some (.int .u64 m.nu)
 c6:W.cell? ⟨B,6,none⟩=some (.int .u64 m.rq.cl)
 c7:W.cell? ⟨B,7,none⟩=some (.int .u64 m.rq.nu)
 c8:W.cell? ⟨B,8,none⟩=some (.int .i64 m.rq.op.k)
 c9:W.cell? ⟨B,9,none⟩=some (.string m.rq.op.name)
 c10:W.cell? ⟨B,10,none⟩=some (.string m.rq.op.to)
 c11:W.cell? ⟨B,11,none⟩=some (.slice m.rq.op.ao m.rq.op.an m.rq.op.ac)
 c12:W.cell? ⟨B,12,none⟩=some (.slice m.rq.op.bo m.rq.op.bn m.rq.op.bc)
 c13:W.cell? ⟨B,13,none⟩=some (.slice m.rq.op.co m.rq.op.cn m.rq.op.cc)
 c14:W.cell? ⟨B,14,none⟩=some (.int .i64 m.rq.op.n)
 c15:W.cell? ⟨B,15,none⟩=some (.int .i64 m.rs.code)
 c16:W.cell? ⟨B,16,none⟩=some (.bool m.rs.yes)
 c17:W.cell? ⟨B,17,none⟩=some (.slice m.rs.eo m.rs.en m.rs.ec)
 c18:W.cell? ⟨B,18,none⟩=some (.slice m.rs.co m.rs.cn m.rs.cc)
 c19:W.cell? ⟨B,19,none⟩=some (.int .u64 m.at_)
 c20:W.cell? ⟨B,20,none⟩=some (.int .u64 m.cm)
 c21:W.cell? ⟨B,21,none⟩=some (.int .u64 m.bs)
 c22:W.cell? ⟨B,22,none⟩=some (.slice m.so m.sn m.sc)
 c23:W.cell? ⟨B,23,none⟩=some (.slice m.lo m.ln m.lc)
 c24:W.cell? ⟨B,24,none⟩=some (.int .u64 m.nc)
 c25:W.cell? ⟨B,25,none⟩=some (.bool m.wh)
 c26:W.cell? ⟨B,26,none⟩=some (.slice m.ho m.hn m.hc)
 q:∀(j:Nat) (v:Value),m.rq.cells[j]?=some v->W.cell? ⟨B,6+j,none⟩=some v
 r:∀(j:Nat) (v:Value),m.rs.cells[j]?=some v->W.cell? ⟨B,15+j,none⟩=some v
theorem McAt.of {W:World}{B:Nat}{m:MV}(h:W.heap[B]?=some m.box):McAt W B m where
 c0:=dH h 0 _ rfl
 c1:=dH h 1 _ rfl
 c2:=dH h 2 _ rfl
 c3:=dH h 3 _ rfl
 c4:=dH h 4 _ rfl
 c5:=dH h 5 _ rfl
 c6:=dH h 6 _ rfl
 c7:=dH h 7 _ rfl
 c8:=dH h 8 _ rfl
 c9:=dH h 9 _ rfl
 c10:=dH h 10 _ rfl
 c11:=dH h 11 _ rfl
 c12:=dH h 12 _ rfl
 c13:=dH h 13 _ rfl
 c14:=dH h 14 _ rfl
 c15:=dH h 15 _ rfl
 c16:=dH h 16 _ rfl
 c17:=dH h 17 _ rfl
 c18:=dH h 18 _ rfl
 c19:=dH h 19 _ rfl
 c20:=dH h 20 _ rfl
 c21:=dH h 21 _ rfl
 c22:=dH h 22 _ rfl
 c23:=dH h 23 _ rfl
 c24:=dH h 24 _ rfl
 c25:=dH h 25 _ rfl
 c26:=dH h 26 _ rfl
 q:=fun j v hv=>by
  have hj:j<9:=by
   have:=(Array.getElem?_eq_some_iff.1 hv).1;simpa [RV.cells] using this
  refine dH h (6+j) v ?_;rcases (by omega:j=0\/j=1\/j=2\/j=3\/j=4\/j=5\/j=6\/j=7\/j=8) with rfl|rfl|rfl|rfl|rfl|rfl|rfl|rfl|rfl<;>exact hv
 r:=fun j v hv=>by
  have hj:j<4:=by
   have:=(Array.getElem?_eq_some_iff.1 hv).1;simpa [QV.cells] using this
  refine dH h (15+j) v ?_;rcases (by omega:j=0\/j=1\/j=2\/j=3) with rfl|rfl|rfl|rfl<;>exact hv
theorem ae {W W':World}{B:Nat}{m:MV}(h:W.heap[B]?=some m.box)(hb:Below W.heap.size W W'):W'.heap[B]?=some m.box:=(hb.block _ (Array.getElem?_eq_some_iff.1 h).1).trans h
def aG (m:MV)(c:MC)(m':MV)(c':MC):Bool:=
 decide (m.k=m'.k)&&(decide (m.vi=m'.vi)&&(decide (m.no=m'.no)&&(decide (m.fr=m'.fr)&&(decide (m.cl=m'.cl)&&(decide (m.nu=m'.nu)&&(bQ m.rq c.rq m'.rq c'.rq&&(aU m.rs c.rs m'.rs c'.rs&&(decide (m.at_=m'.at_)&&(decide (m.cm=m'.cm)&&(decide (m.bs=m'.bs)&&(decide (c.snap=c'.snap)&&(bu c.log c'.log&&(decide (m.nc=m'.nc)&&(decide (m.wh=m'.wh)&&decide (c.seen=c'.seen)))))))))))))))
def aI (x:Int)(m0 m:MV):MV:=
 if x=118 then { m0 with vi:=m.vi }
 else if x=110 then { m0 with no:=m.no }
 else if x=102 then { m0 with fr:=m.fr }
 else if x=99 then { m0 with cl:=m.cl }
 else if x=117 then { m0 with nu:=m.nu }
 else if x=113 then { m0 with rq:=m.rq }
 else if x=114 then { m0 with rs:=m.rs }
 else if x=97 then { m0 with at_:=m.at_ }
 else if x=109 then { m0 with cm:=m.cm }
 else if x=98 then { m0 with bs:=m.bs }
 else if x=115 then { m0 with so:=m.so,sn:=m.sn,sc:=m.sc }
 else if x=108 then { m0 with lo:=m.lo,ln:=m.ln,lc:=m.lc }
 else if x=111 then { m0 with nc:=m.nc }
 else if x=119 then { m0 with wh:=m.wh }
 else if x=101 then { m0 with ho:=m.ho,hn:=m.hn,hc:=m.hc }
 else m0
def qw (B tb:Nat)(m1:MV)(w:World)(e:Ending)(w':World):Prop:=e=.returned (.tuple #[])/\w'.heap[tb]?=some m1.box/\Oth B tb w w'
theorem Nu (B tb fb:Nat)(m0 m:MV)(w:World)(h0:w.heap[tb]?=some m0.box)(h1:w.heap[fb]?=some m.box)(hB:B<=tb):Calls Tryz.prog 186 #[.pointer (some ⟨tb,0,none⟩),.pointer (some ⟨fb,0,none⟩)] w (qw B tb (aI 102 m0 m) w):=by
 have a3:=(McAt.of h1).c3;have b3:=(McAt.of h0).c3;have z0:=bV h0;have g:=h0;unfold MV.box MV.cells at g;have g3:=at_set (i:=3) (x:=.int .i64 m.fr) g;have H:=hid (g3.trans (show _=some (aI 102 m0 m).box by kernel_rfl));clear g g3;go_in;go_wp2_with fail;refine bodyPost_end (results_none rfl _ _ _) rfl ?_;exact⟨rfl,H.out,((Oth.refl B tb w).set hB 3 _)⟩
theorem NK (B tb fb:Nat)(m0 m:MV)(w:World)(h0:w.heap[tb]?=some m0.box)(h1:w.heap[fb]?=some m.box)(hB:B<=tb):Calls Tryz.prog 189 #[.pointer (some ⟨tb,0,none⟩),.pointer (some ⟨fb,0,none⟩)] w (qw B tb (aI 113 m0 m) w):=by
 have a6:=(McAt.of h1).c6;have b6:=(McAt.of h0).c6;have a7:=(McAt.of h1).c7;have b7:=(McAt.of h0).c7;have a8:=(McAt.of h1).c8;have b8:=(McAt.of h0).c8;have a9:=(McAt.of h1).c9;have b9:=(McAt.of h0).c9;have a10:=(McAt.of h1).c10;have b10:=(McAt.of h0).c10;have a11:=(McAt.of h1).c11;have b11:=(McAt.of h0).c11;have a12:=(McAt.of h1).c12;have b12:=(McAt.of h0).c12;have a13:=(McAt.of h1).c13;have b13:=(McAt.of h0).c13;have a14:=(McAt.of h1).c14;have b14:=(McAt.of h0).c14;have z0:=bV h0;have g:=h0;unfold MV.box MV.cells at g;have g6:=at_set (i:=6) (x:=.int .u64 m.rq.cl) g;have g7:=at_set (i:=7) (x:=.int .u64 m.rq.nu) g6;have g8:=at_set (i:=8) (x:=.int .i64 m.rq.op.k) g7;have g9:=at_set (i:=9) (x:=.string m.rq.op.name) g8;have g10:=at_set (i:=10) (x:=.string m.rq.op.to) g9;have g11:=at_set (i:=11) (x:=.slice m.rq.op.ao m.rq.op.an m.rq.op.ac) g10;have g12:=at_set (i:=12) (x:=.slice m.rq.op.bo m.rq.op.bn m.rq.op.bc) g11;have g13:=at_set (i:=13) (x:=.slice m.rq.op.co m.rq.op.cn m.rq.op.cc) g12;have g14:=at_set (i:=14) (x:=.int .i64 m.rq.op.n) g13;have H:=hid (g14.trans (show _=some (aI 113 m0 m).box by kernel_rfl));clear g g6 g7 g8 g9 g10 g11 g12 g13 g14;go_in;go_wp2_with fail;refine bodyPost_end (results_none rfl _ _ _) rfl ?_;exact⟨rfl,H.out,((((((((((Oth.refl B tb w).set hB 6 _).set hB 7 _).set hB 8 _).set hB 9 _).set hB 10 _).set hB 11 _).set hB 12 _).set hB 13 _).set hB 14 _)⟩
theorem Ll (B tb fb:Nat)(m0 m:MV)(w:World)(h0:w.heap[tb]?=some m0.box)(h1:w.heap[fb]?=some m.box)(hB:B<=tb):Calls Tryz.prog 195 #[.pointer (some ⟨tb,0,none⟩),.pointer (some ⟨fb,0,none⟩)] w (qw B tb (aI 114 m0 m) w):=by
 have a15:=(McAt.of h1).c15;have b15:=(McAt.of h0).c15;have a16:=(McAt.of h1).c16;have b16:=(McAt.of h0).c16;have a17:=(McAt.of h1).c17;have b17:=(McAt.of h0).c17;have a18:=(McAt.of h1).c18;have b18:=(McAt.of h0).c18;have z0:=bV h0;have g:=h0;unfold MV.box MV.cells at g;have g15:=at_set (i:=15) (x:=.int .i64 m.rs.code) g;have g16:=at_set (i:=16) (x:=.bool m.rs.yes) g15;have g17:=at_set (i:=17) (x:=.slice m.rs.eo m.rs.en m.rs.ec) g16;have g18:=at_set (i:=18) (x:=.slice m.rs.co m.rs.cn m.rs.cc) g17;have H:=hid (g18.trans (show _=some (aI 114 m0 m).box by kernel_rfl));clear g g15 g16 g17 g18;go_in;go_wp2_with fail;refine bodyPost_end (results_none rfl _ _ _) rfl ?_;exact⟨rfl,H.out,(((((Oth.refl B tb w).set hB 15 _).set hB 16 _).set hB 17 _).set hB 18 _)⟩
theorem LU (B tb fb:Nat)(m0 m:MV)(w:World)(h0:w.heap[tb]?=some m0.box)(h1:w.heap[fb]?=some m.box)(hB:B<=tb):Calls Tryz.prog 200 #[.pointer (some ⟨tb,0,none⟩),.pointer (some ⟨fb,0,none⟩)] w (qw B tb (aI 115 m0 m) w):=by
 have a22:=(McAt.of h1).c22;have b22:=(McAt.of h0).c22;have z0:=bV h0;have g:=h0;unfold MV.box MV.cells at g;have g22:=at_set (i:=22) (x:=.slice m.so m.sn m.sc) g;have H:=hid (g22.trans (show _=some (aI 115 m0 m).box by kernel_rfl));clear g g22;go_in;go_wp2_with fail;refine bodyPost_end (results_none rfl _ _ _) rfl ?_;exact⟨rfl,H.out,((Oth.refl B tb w).set hB 22 _)⟩
theorem MQ (B tb fb:Nat)(m0 m:MV)(w:World)(h0:w.heap[tb]?=some m0.box)(h1:w.heap[fb]?=some m.box)(hB:B<=tb):Calls Tryz.prog 203 #[.pointer (some ⟨tb,0,none⟩),.pointer (some ⟨fb,0,none⟩)] w (qw B tb (aI 108 m0 m) w):=by
 have a23:=(McAt.of h1).c23;have b23:=(McAt.of h0).c23;have z0:=bV h0;have g:=h0;unfold MV.box MV.cells at g;have g23:=at_set (i:=23) (x:=.slice m.lo m.ln m.lc) g;have H:=hid (g23.trans (show _=some (aI 108 m0 m).box by kernel_rfl));clear g g23;go_in;go_wp2_with fail;refine bodyPost_end (results_none rfl _ _ _) rfl ?_;exact⟨rfl,H.out,((Oth.refl B tb w).set hB 23 _)⟩
theorem Nv (B tb fb:Nat)(m0 m:MV)(w:World)(h0:w.heap[tb]?=some m0.box)(h1:w.heap[fb]?=some m.box)(hB:B<=tb):Calls Tryz.prog 209 #[.pointer (some ⟨tb,0,none⟩),.pointer (some ⟨fb,0,none⟩)] w (qw B tb (aI 119 m0 m) w):=by
 have a25:=(McAt.of h1).c25;have b25:=(McAt.of h0).c25;have z0:=bV h0;have g:=h0;unfold MV.box MV.cells at g;have g25:=at_set (i:=25) (x:=.bool m.wh) g;have H:=hid (g25.trans (show _=some (aI 119 m0 m).box by kernel_rfl));clear g g25;go_in;go_wp2_with fail;refine bodyPost_end (results_none rfl _ _ _) rfl ?_;exact⟨rfl,H.out,((Oth.refl B tb w).set hB 25 _)⟩
theorem Nz (B tb fb:Nat)(m0 m:MV)(w:World)(h0:w.heap[tb]?=some m0.box)(h1:w.heap[fb]?=some m.box)(hB:B<=tb):Calls Tryz.prog 213 #[.pointer (some ⟨tb,0,none⟩),.pointer (some ⟨fb,0,none⟩)] w (qw B tb (aI 101 m0 m) w):=by
 have a26:=(McAt.of h1).c26;have b26:=(McAt.of h0).c26;have z0:=bV h0;have g:=h0;unfold MV.box MV.cells at g;have g26:=at_set (i:=26) (x:=.slice m.ho m.hn m.hc) g;have H:=hid (g26.trans (show _=some (aI 101 m0 m).box by kernel_rfl));clear g g26;go_in;go_wp2_with fail;refine bodyPost_end (results_none rfl _ _ _) rfl ?_;exact⟨rfl,H.out,((Oth.refl B tb w).set hB 26 _)⟩
structure KeepOk (t0 t1 t2 t3 t4 t5 t6 t7:Nat)(f:FV)(kf:FuncId)(kc:Array Value):Prop where
 eq:f.kp=.func (.func kf) #[] kc
 en:∀args w,(callFunc kf args).run Tryz.prog w=.ok (.enter kf args) w
 calls:∀(B tb fb:Nat) (m0 m:MV) (w:World),AllAt t0 t1 t2 t3 t4 t5 t6 t7 w->w.heap[tb]?=some m0.box->w.heap[fb]?=some m.box->B<=tb->Calls Tryz.prog kf (#[.pointer (some ⟨tb,0,none⟩),.pointer (some ⟨fb,0,none⟩)]++kc) w (qw B tb (aI f.l m0 m) w)
theorem JA {t0 t1 t2 t3 t4 t5 t6 t7:Nat}:∀f∈allL t0 t1 t2 t3 t4 t5 t6 t7,∃kf kc,KeepOk t0 t1 t2 t3 t4 t5 t6 t7 f kf kc:=by
 intro f hf;simp only[allL,List.mem_cons,List.not_mem_nil,or_false] at hf;rcases hf with rfl|rfl|rfl|rfl|rfl|rfl|rfl|rfl|rfl|rfl|rfl|rfl|rfl|rfl|rfl
 ·refine⟨218,#[.pointer (some ⟨t0+1,0,none⟩)],rfl,enters_of Tryz.func218 (by kernel_rfl) rfl,fun B tb fb m0 m w ha h0 h1 hB=>(mV xO B tb fb (t0+1) m0.cells m.cells m.vi _ w h0 h1 rfl rfl ha.a0.2 hB).mono ?_⟩;rintro e w' ⟨rfl,h2,h3⟩;exact⟨rfl,h2.trans (show _=some (aI 118 m0 m).box by kernel_rfl),h3⟩
 ·refine⟨218,#[.pointer (some ⟨t1+1,0,none⟩)],rfl,enters_of Tryz.func218 (by kernel_rfl) rfl,fun B tb fb m0 m w ha h0 h1 hB=>(mV G5 B tb fb (t1+1) m0.cells m.cells m.no _ w h0 h1 rfl rfl ha.a1.2 hB).mono ?_⟩;rintro e w' ⟨rfl,h2,h3⟩;exact⟨rfl,h2.trans (show _=some (aI 110 m0 m).box by kernel_rfl),h3⟩
 ·exact⟨186,#[],rfl,enters_of Tryz.func186 (by kernel_rfl) rfl,fun B tb fb m0 m w _ h0 h1 hB=>Nu B tb fb m0 m w h0 h1 hB⟩
 ·refine⟨218,#[.pointer (some ⟨t2+1,0,none⟩)],rfl,enters_of Tryz.func218 (by kernel_rfl) rfl,fun B tb fb m0 m w ha h0 h1 hB=>(mV Eo B tb fb (t2+1) m0.cells m.cells m.cl _ w h0 h1 rfl rfl ha.a2.2 hB).mono ?_⟩;rintro e w' ⟨rfl,h2,h3⟩;exact⟨rfl,h2.trans (show _=some (aI 99 m0 m).box by kernel_rfl),h3⟩
 ·refine⟨218,#[.pointer (some ⟨t3+1,0,none⟩)],rfl,enters_of Tryz.func218 (by kernel_rfl) rfl,fun B tb fb m0 m w ha h0 h1 hB=>(mV Ea B tb fb (t3+1) m0.cells m.cells m.nu _ w h0 h1 rfl rfl ha.a3.2 hB).mono ?_⟩;rintro e w' ⟨rfl,h2,h3⟩;exact⟨rfl,h2.trans (show _=some (aI 117 m0 m).box by kernel_rfl),h3⟩
 ·exact⟨189,#[],rfl,enters_of Tryz.func189 (by kernel_rfl) rfl,fun B tb fb m0 m w _ h0 h1 hB=>NK B tb fb m0 m w h0 h1 hB⟩
 ·exact⟨195,#[],rfl,enters_of Tryz.func195 (by kernel_rfl) rfl,fun B tb fb m0 m w _ h0 h1 hB=>Ll B tb fb m0 m w h0 h1 hB⟩
 ·refine⟨218,#[.pointer (some ⟨t4+1,0,none⟩)],rfl,enters_of Tryz.func218 (by kernel_rfl) rfl,fun B tb fb m0 m w ha h0 h1 hB=>(mV Ew B tb fb (t4+1) m0.cells m.cells m.at_ _ w h0 h1 rfl rfl ha.a4.2 hB).mono ?_⟩;rintro e w' ⟨rfl,h2,h3⟩;exact⟨rfl,h2.trans (show _=some (aI 97 m0 m).box by kernel_rfl),h3⟩
 ·refine⟨218,#[.pointer (some ⟨t5+1,0,none⟩)],rfl,enters_of Tryz.func218 (by kernel_rfl) rfl,fun B tb fb m0 m w ha h0 h1 hB=>(mV xB B tb fb (t5+1) m0.cells m.cells m.cm _ w h0 h1 rfl rfl ha.a5.2 hB).mono ?_⟩;rintro e w' ⟨rfl,h2,h3⟩;exact⟨rfl,h2.trans (show _=some (aI 109 m0 m).box by kernel_rfl),h3⟩
 ·refine⟨218,#[.pointer (some ⟨t6+1,0,none⟩)],rfl,enters_of Tryz.func218 (by kernel_rfl) rfl,fun B tb fb m0 m w ha h0 h1 hB=>(mV EX B tb fb (t6+1) m0.cells m.cells m.bs _ w h0 h1 rfl rfl ha.a6.2 hB).mono ?_⟩;rintro e w' ⟨rfl,h2,h3⟩;exact⟨rfl,h2.trans (show _=some (aI 98 m0 m).box by kernel_rfl),h3⟩
 ·exact⟨200,#[],rfl,enters_of Tryz.func200 (by kernel_rfl) rfl,fun B tb fb m0 m w _ h0 h1 hB=>LU B tb fb m0 m w h0 h1 hB⟩
 ·exact⟨203,#[],rfl,enters_of Tryz.func203 (by kernel_rfl) rfl,fun B tb fb m0 m w _ h0 h1 hB=>MQ B tb fb m0 m w h0 h1 hB⟩
 ·refine⟨218,#[.pointer (some ⟨t7+1,0,none⟩)],rfl,enters_of Tryz.func218 (by kernel_rfl) rfl,fun B tb fb m0 m w ha h0 h1 hB=>(mV Ey B tb fb (t7+1) m0.cells m.cells m.nc _ w h0 h1 rfl rfl ha.a7.2 hB).mono ?_⟩;rintro e w' ⟨rfl,h2,h3⟩;exact⟨rfl,h2.trans (show _=some (aI 111 m0 m).box by kernel_rfl),h3⟩
 ·exact⟨209,#[],rfl,enters_of Tryz.func209 (by kernel_rfl) rfl,fun B tb fb m0 m w _ h0 h1 hB=>Nv B tb fb m0 m w h0 h1 hB⟩
 exact⟨213,#[],rfl,enters_of Tryz.func213 (by kernel_rfl) rfl,fun B tb fb m0 m w _ h0 h1 hB=>Nz B tb fb m0 m w h0 h1 hB⟩
end Go.Proofs.YtfmmandlmbcncaaGreatDoor.Msg
