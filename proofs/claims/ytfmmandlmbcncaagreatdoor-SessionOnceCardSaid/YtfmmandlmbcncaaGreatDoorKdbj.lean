/-
  A part of the proof.
-/
import Derived.Test.YtfmmandlmbcncaaGreatDoorKdbi
set_option maxHeartbeats 40000000
set_option maxRecDepth 100000
namespace Go.Proofs.YtfmmandlmbcncaaGreatDoor.Msg
open Go.RowKit Go.Lib Mem Tlv
def bM (n2 n3 n4 n5 n6 n7 n8 n9 n10 n11 n12 n13 n14 n15 n16:Int):Array Value:=#[.int .u64 0,.int .u64 0,.int .u64 n2,.int .u64 n3,.int .u64 n4,.int .u64 n5,.int .u64 n6,.int .u64 n7,.int .u64 n8,.int .u64 n9,.int .u64 n10,.int .u64 n11,.int .u64 n12,.int .u64 n13,.int .u64 n14,.int .u64 n15,.int .u64 n16]
def mG (m:MV):Array Value:=bM m.vi m.no 0 m.cl m.nu 0 0 m.at_ m.cm m.bs 0 0 m.nc 0 0
theorem gG {W:World}{A:Nat}{arr:Array Value}{t:TypeId}(h:W.heap[A]?=some (.cells arr t))(i:Nat)(v:Value)(hv:arr[i]?=some v):W.cell? ⟨A,i,none⟩=some v:=by
 simp[World.cell?,h,hv]
theorem at_new (W:World)(o:Obj):(W.alloc o).heap[W.heap.size]?=some o:=by show (W.heap.push o)[W.heap.size]?=some o;exact Array.getElem?_push_size
theorem jV {W:World}{A:Nat}{arr:Array Value}{t:TypeId}(h:W.heap[A]?=some (.cells arr t))(i:Nat):W.frozen? ⟨A,i,none⟩=false:=by
 simp[World.frozen?,h]
theorem rP (m:MV)(w:World):Calls Tryz.prog 89 #[m.val] w (fun e w'=>e=.returned (.agg (mG m))/\Below w.heap.size w w'):=by
 have hmo:Tryz.prog.follows .mixedOrders=true:=by kernel_rfl
 have hb0:Below w.heap.size w (((w.alloc m.box).alloc (.cells (bM 0 0 0 0 0 0 0 0 0 0 0 0 0 0 0) 154)).alloc (.cells (bM 0 0 0 0 0 0 0 0 0 0 0 0 0 0 0) 154)):=(bU w _ _).alloc (by simp;omega) _;obtain⟨k1,k2⟩:=bY w m.box (.cells (bM 0 0 0 0 0 0 0 0 0 0 0 0 0 0 0) 154);have hz:((w.alloc m.box).alloc (.cells (bM 0 0 0 0 0 0 0 0 0 0 0 0 0 0 0) 154)).heap.size=w.heap.size+2:=by simp
 obtain⟨j1,j2,j3⟩:(((w.alloc m.box).alloc (.cells (bM 0 0 0 0 0 0 0 0 0 0 0 0 0 0 0) 154)).alloc (.cells (bM 0 0 0 0 0 0 0 0 0 0 0 0 0 0 0) 154)).heap[w.heap.size]?=some m.box/\(((w.alloc m.box).alloc (.cells (bM 0 0 0 0 0 0 0 0 0 0 0 0 0 0 0) 154)).alloc (.cells (bM 0 0 0 0 0 0 0 0 0 0 0 0 0 0 0) 154)).heap[w.heap.size+1]?=some (.cells (bM 0 0 0 0 0 0 0 0 0 0 0 0 0 0 0) 154)/\(((w.alloc m.box).alloc (.cells (bM 0 0 0 0 0 0 0 0 0 0 0 0 0 0 0) 154)).alloc (.cells (bM 0 0 0 0 0 0 0 0 0 0 0 0 0 0 0) 154)).heap[w.heap.size+2]?=some (.cells (bM 0 0 0 0 0 0 0 0 0 0 0 0 0 0 0) 154):=by
  have hb:Below (w.heap.size+2) ((w.alloc m.box).alloc (.cells (bM 0 0 0 0 0 0 0 0 0 0 0 0 0 0 0) 154)) (((w.alloc m.box).alloc (.cells (bM 0 0 0 0 0 0 0 0 0 0 0 0 0 0 0) 154)).alloc (.cells (bM 0 0 0 0 0 0 0 0 0 0 0 0 0 0 0) 154)):=by
   have:=(Below.refl ((w.alloc m.box).alloc (.cells (bM 0 0 0 0 0 0 0 0 0 0 0 0 0 0 0) 154)).heap.size ((w.alloc m.box).alloc (.cells (bM 0 0 0 0 0 0 0 0 0 0 0 0 0 0 0) 154))).alloc (Nat.le_refl _) (.cells (bM 0 0 0 0 0 0 0 0 0 0 0 0 0 0 0) 154);rw[hz] at this;exact this
  refine⟨(hb.block _ (by omega)).trans k1,(hb.block _ (by omega)).trans k2,?_⟩;rw[<-hz];exact at_new _ _
 unfold MV.box MV.cells bM at hb0 j1 j2 j3;clear k1 k2 hz;unfold MV.val MV.cells;go_in;go_upto_region 2 with fail;generalize hg:World.alloc _ _=W0 at *;have s0:W0.heap[w.heap.size]?=some m.box:=j1;have zb:W0.heap[w.heap.size+1]?=some (.cells (bM 0 0 0 0 0 0 0 0 0 0 0 0 0 0 0) 154):=j2;have za:W0.heap[w.heap.size+2]?=some (.cells (bM 0 0 0 0 0 0 0 0 0 0 0 0 0 0 0) 154):=j3;clear hg j1 j2 j3;refine wp_region_held (S:=fun W=>W.heap[w.heap.size]?=some m.box) hmo ?_;change wpAnyH _ _ _ _ _ _ _ _ (World.drew W0);have hd:Below W0.heap.size W0 W0.drew:=(Below.refl _ _).drew;have t0:=ag s0 hd;have b0:=(hd.block _ (Array.getElem?_eq_some_iff.1 zb).1).trans zb;have a0:=(hd.block _ (Array.getElem?_eq_some_iff.1 za).1).trans za;have l0:=hb0.trans (hd.mono hb0.size);generalize World.drew W0=X0 at *;clear s0 zb za hd hb0;refine zHp 0 (.pointer (some ⟨w.heap.size,1,none⟩)) rfl t0 ?_;go_simp;refine zHa 1 (.int .u64 m.vi) rfl (by rintro w2 h2;have cc:w2.cell? ⟨w.heap.size,1,none⟩=some (.int .u64 m.vi):=(McAt.of h2).c1;go_simp) t0 ?_;go_simp;refine zHp 2 (.pointer (some ⟨w.heap.size,2,none⟩)) rfl t0 ?_;go_simp;refine zHa 3 (.int .u64 m.no) rfl (by rintro w2 h2;have cc:w2.cell? ⟨w.heap.size,2,none⟩=some (.int .u64 m.no):=(McAt.of h2).c2;go_simp) t0 ?_;go_simp;refine zHp 4 (.pointer (some ⟨w.heap.size,4,none⟩)) rfl t0 ?_;go_simp;refine zHa 5 (.int .u64 m.cl) rfl (by rintro w2 h2;have cc:w2.cell? ⟨w.heap.size,4,none⟩=some (.int .u64 m.cl):=(McAt.of h2).c4;go_simp) t0 ?_;go_simp;refine zHp 6 (.pointer (some ⟨w.heap.size,5,none⟩)) rfl t0 ?_;go_simp;refine zHa 7 (.int .u64 m.nu) rfl (by rintro w2 h2;have cc:w2.cell? ⟨w.heap.size,5,none⟩=some (.int .u64 m.nu):=(McAt.of h2).c5;go_simp) t0 ?_;go_simp;refine zHp 8 (.pointer (some ⟨w.heap.size,19,none⟩)) rfl t0 ?_;go_simp;refine zHa 9 (.int .u64 m.at_) rfl (by rintro w2 h2;have cc:w2.cell? ⟨w.heap.size,19,none⟩=some (.int .u64 m.at_):=(McAt.of h2).c19;go_simp) t0 ?_;go_simp;refine zHp 10 (.pointer (some ⟨w.heap.size,20,none⟩)) rfl t0 ?_;go_simp;refine zHa 11 (.int .u64 m.cm) rfl (by rintro w2 h2;have cc:w2.cell? ⟨w.heap.size,20,none⟩=some (.int .u64 m.cm):=(McAt.of h2).c20;go_simp) t0 ?_;go_simp;refine zHp 12 (.pointer (some ⟨w.heap.size,21,none⟩)) rfl t0 ?_;go_simp;refine zHa 13 (.int .u64 m.bs) rfl (by rintro w2 h2;have cc:w2.cell? ⟨w.heap.size,21,none⟩=some (.int .u64 m.bs):=(McAt.of h2).c21;go_simp) t0 ?_;go_simp;refine zHp 14 (.pointer (some ⟨w.heap.size,24,none⟩)) rfl t0 ?_;go_simp;refine zHa 15 (.int .u64 m.nc) rfl (by rintro w2 h2;have cc:w2.cell? ⟨w.heap.size,24,none⟩=some (.int .u64 m.nc):=(McAt.of h2).c24;go_simp) t0 ?_;go_simp;refine zHp 16 (.pointer (some ⟨w.heap.size+2,2,none⟩)) rfl t0 ?_;go_simp;refine zH1 17 rfl (fun K hK=>?_);have z:X0.cell? ⟨w.heap.size+2,2,none⟩=some (.int .u64 0):=gG a0 2 _ rfl;have fz:=jV a0 2;have a1:(X0.setCell ⟨w.heap.size+2,2,none⟩ (.int .u64 m.vi)).heap[w.heap.size+2]?=some (.cells (bM m.vi 0 0 0 0 0 0 0 0 0 0 0 0 0 0) 154):=(at_set a0).trans (by kernel_rfl);have t1:(X0.setCell ⟨w.heap.size+2,2,none⟩ (.int .u64 m.vi)).heap[w.heap.size]?=some m.box:=af t0 (by omega);have b1:=af (i:=2) (x:=.int .u64 m.vi) b0 (show w.heap.size+1≠w.heap.size+2 by omega);have l1:=l0.setCell (p:=⟨w.heap.size+2,2,none⟩) (by show w.heap.size<=w.heap.size+2;omega) (.int .u64 m.vi);go_simp;refine hK _ _ ⟨t1,?_⟩;generalize World.setCell X0 _ _=X1 at *;clear hK K z fz a0 t0 b0 l0;refine zHp 18 (.pointer (some ⟨w.heap.size+2,3,none⟩)) rfl t1 ?_;go_simp;refine zH1 19 rfl (fun K hK=>?_);have z:X1.cell? ⟨w.heap.size+2,3,none⟩=some (.int .u64 0):=gG a1 3 _ rfl;have fz:=jV a1 3;have a2:(X1.setCell ⟨w.heap.size+2,3,none⟩ (.int .u64 m.no)).heap[w.heap.size+2]?=some (.cells (bM m.vi m.no 0 0 0 0 0 0 0 0 0 0 0 0 0) 154):=(at_set a1).trans (by kernel_rfl);have t2:(X1.setCell ⟨w.heap.size+2,3,none⟩ (.int .u64 m.no)).heap[w.heap.size]?=some m.box:=af t1 (by omega);have b2:=af (i:=3) (x:=.int .u64 m.no) b1 (show w.heap.size+1≠w.heap.size+2 by omega);have l2:=l1.setCell (p:=⟨w.heap.size+2,3,none⟩) (by show w.heap.size<=w.heap.size+2;omega) (.int .u64 m.no);go_simp;refine hK _ _ ⟨t2,?_⟩;generalize World.setCell X1 _ _=X2 at *;clear hK K z fz a1 t1 b1 l1;refine zHp 20 (.pointer (some ⟨w.heap.size+2,5,none⟩)) rfl t2 ?_;go_simp;refine zH1 21 rfl (fun K hK=>?_);have z:X2.cell? ⟨w.heap.size+2,5,none⟩=some (.int .u64 0):=gG a2 5 _ rfl;have fz:=jV a2 5;have a3:(X2.setCell ⟨w.heap.size+2,5,none⟩ (.int .u64 m.cl)).heap[w.heap.size+2]?=some (.cells (bM m.vi m.no 0 m.cl 0 0 0 0 0 0 0 0 0 0 0) 154):=(at_set a2).trans (by kernel_rfl);have t3:(X2.setCell ⟨w.heap.size+2,5,none⟩ (.int .u64 m.cl)).heap[w.heap.size]?=some m.box:=af t2 (by omega);have b3:=af (i:=5) (x:=.int .u64 m.cl) b2 (show w.heap.size+1≠w.heap.size+2 by omega);have l3:=l2.setCell (p:=⟨w.heap.size+2,5,none⟩) (by show w.heap.size<=w.heap.size+2;omega) (.int .u64 m.cl);go_simp;refine hK _ _ ⟨t3,?_⟩;generalize World.setCell X2 _ _=X3 at *;clear hK K z fz a2 t2 b2 l2;refine zHp 22 (.pointer (some ⟨w.heap.size+2,6,none⟩)) rfl t3 ?_;go_simp;refine zH1 23 rfl (fun K hK=>?_);have z:X3.cell? ⟨w.heap.size+2,6,none⟩=some (.int .u64 0):=gG a3 6 _ rfl;have fz:=jV a3 6;have a4:(X3.setCell ⟨w.heap.size+2,6,none⟩ (.int .u64 m.nu)).heap[w.heap.size+2]?=some (.cells (bM m.vi m.no 0 m.cl m.nu 0 0 0 0 0 0 0 0 0 0) 154):=(at_set a3).trans (by kernel_rfl);have t4:(X3.setCell ⟨w.heap.size+2,6,none⟩ (.int .u64 m.nu)).heap[w.heap.size]?=some m.box:=af t3 (by omega);have b4:=af (i:=6) (x:=.int .u64 m.nu) b3 (show w.heap.size+1≠w.heap.size+2 by omega);have l4:=l3.setCell (p:=⟨w.heap.size+2,6,none⟩) (by show w.heap.size<=w.heap.size+2;omega) (.int .u64 m.nu);go_simp;refine hK _ _ ⟨t4,?_⟩;generalize World.setCell X3 _ _=X4 at *;clear hK K z fz a3 t3 b3 l3;refine zHp 24 (.pointer (some ⟨w.heap.size+2,9,none⟩)) rfl t4 ?_;go_simp;refine zH1 25 rfl (fun K hK=>?_);have z:X4.cell? ⟨w.heap.size+2,9,none⟩=some (.int .u64 0):=gG a4 9 _ rfl;have fz:=jV a4 9;have a5:(X4.setCell ⟨w.heap.size+2,9,none⟩ (.int .u64 m.at_)).heap[w.heap.size+2]?=some (.cells (bM m.vi m.no 0 m.cl m.nu 0 0 m.at_ 0 0 0 0 0 0 0) 154):=(at_set a4).trans (by kernel_rfl);have t5:(X4.setCell ⟨w.heap.size+2,9,none⟩ (.int .u64 m.at_)).heap[w.heap.size]?=some m.box:=af t4 (by omega);have b5:=af (i:=9) (x:=.int .u64 m.at_) b4 (show w.heap.size+1≠w.heap.size+2 by omega);have l5:=l4.setCell (p:=⟨w.heap.size+2,9,none⟩) (by show w.heap.size<=w.heap.size+2;omega) (.int .u64 m.at_);go_simp;refine hK _ _ ⟨t5,?_⟩;generalize World.setCell X4 _ _=X5 at *;clear hK K z fz a4 t4 b4 l4;refine zHp 26 (.pointer (some ⟨w.heap.size+2,10,none⟩)) rfl t5 ?_;go_simp;refine zH1 27 rfl (fun K hK=>?_);have z:X5.cell? ⟨w.heap.size+2,10,none⟩=some (.int .u64 0):=gG a5 10 _ rfl;have fz:=jV a5 10;have a6:(X5.setCell ⟨w.heap.size+2,10,none⟩ (.int .u64 m.cm)).heap[w.heap.size+2]?=some (.cells (bM m.vi m.no 0 m.cl m.nu 0 0 m.at_ m.cm 0 0 0 0 0 0) 154):=(at_set a5).trans (by kernel_rfl);have t6:(X5.setCell ⟨w.heap.size+2,10,none⟩ (.int .u64 m.cm)).heap[w.heap.size]?=some m.box:=af t5 (by omega);have b6:=af (i:=10) (x:=.int .u64 m.cm) b5 (show w.heap.size+1≠w.heap.size+2 by omega);have l6:=l5.setCell (p:=⟨w.heap.size+2,10,none⟩) (by show w.heap.size<=w.heap.size+2;omega) (.int .u64 m.cm);go_simp;refine hK _ _ ⟨t6,?_⟩;generalize World.setCell X5 _ _=X6 at *;clear hK K z fz a5 t5 b5 l5;refine zHp 28 (.pointer (some ⟨w.heap.size+2,11,none⟩)) rfl t6 ?_;go_simp;refine zH1 29 rfl (fun K hK=>?_);have z:X6.cell? ⟨w.heap.size+2,11,none⟩=some (.int .u64 0):=gG a6 11 _ rfl;have fz:=jV a6 11;have a7:(X6.setCell ⟨w.heap.size+2,11,none⟩ (.int .u64 m.bs)).heap[w.heap.size+2]?=some (.cells (bM m.vi m.no 0 m.cl m.nu 0 0 m.at_ m.cm m.bs 0 0 0 0 0) 154):=(at_set a6).trans (by kernel_rfl);have t7:(X6.setCell ⟨w.heap.size+2,11,none⟩ (.int .u64 m.bs)).heap[w.heap.size]?=some m.box:=af t6 (by omega);have b7:=af (i:=11) (x:=.int .u64 m.bs) b6 (show w.heap.size+1≠w.heap.size+2 by omega);have l7:=l6.setCell (p:=⟨w.heap.size+2,11,none⟩) (by show w.heap.size<=w.heap.size+2;omega) (.int .u64 m.bs);go_simp;refine hK _ _ ⟨t7,?_⟩;generalize World.setCell X6 _ _=X7 at *;clear hK K z fz a6 t6 b6 l6;refine zHp 30 (.pointer (some ⟨w.heap.size+2,14,none⟩)) rfl t7 ?_;go_simp;refine zH1 31 rfl (fun K hK=>?_);have z:X7.cell? ⟨w.heap.size+2,14,none⟩=some (.int .u64 0):=gG a7 14 _ rfl;have fz:=jV a7 14;have a8:(X7.setCell ⟨w.heap.size+2,14,none⟩ (.int .u64 m.nc)).heap[w.heap.size+2]?=some (.cells (bM m.vi m.no 0 m.cl m.nu 0 0 m.at_ m.cm m.bs 0 0 m.nc 0 0) 154):=(at_set a7).trans (by kernel_rfl);have t8:(X7.setCell ⟨w.heap.size+2,14,none⟩ (.int .u64 m.nc)).heap[w.heap.size]?=some m.box:=af t7 (by omega);have b8:=af (i:=14) (x:=.int .u64 m.nc) b7 (show w.heap.size+1≠w.heap.size+2 by omega);have l8:=l7.setCell (p:=⟨w.heap.size+2,14,none⟩) (by show w.heap.size<=w.heap.size+2;omega) (.int .u64 m.nc);go_simp;refine hK _ _ ⟨t8,?_⟩;generalize World.setCell X7 _ _=X8 at *;clear hK K z fz a7 t7 b7 l7;refine wpAnyH_done (by kernel_rfl) ?_ _;have g8:(X8.setRow (w.heap.size+1) (mG m)).heap[w.heap.size+1]?=some (.cells (mG m) 154):=aT b8;have l9:=below_setRow l8 (show w.heap.size<=w.heap.size+1 by omega) (mG m);go_wp2_with (first | (refine wpList_load_row (ty:=154) a8 rfl rfl rfl (by kernel_rfl) (by kernel_rfl) ?_;go_simp) | (refine zSr rfl b8 ?_;go_simp));exact bodyPost_ret (w:=X8.setRow (w.heap.size+1) (mG m)) (uh (i:=2) (t:=154) rfl rfl (by kernel_rfl) (by kernel_rfl) g8) rfl ⟨rfl,l9⟩
def lI (x:Int)(m:MV)(c:MC):Bool:=
 if x=102 then decide (0<=m.fr)&&decide (m.fr<7)
 else if x=113 then aB m.rq.op c.rq
 else if x=114 then bf m.rs c.rs
 else if x=108 then !(c.log.any fun u=>!aB u.1.op u.2)&&decide (m.ln<=4096)
 else if x=101 then decide (m.hn<=7)
 else true
def pV (x:Int)(m:MV)(c:MC)(w:World)(e:Ending)(w':World):Prop:=∃(l:List UInt8) (ax:Option Addr) (cx:Nat) (ok:Bool),e=.returned (.tuple #[.slice ax l.length cx,.bool ok])/\Rd w' 1 ax l.length cx (byV l)/\Below w.heap.size w w'/\ok=lI x m c/\(ok=true->l=dB x m c)
theorem qV (t:UInt8)(z:Int)(W:World)(h0:0<=z)(h1:z<18446744073709551616) :
  Calls Tryz.prog 52 #[.int .u8 (t.toNat:Int),.int .u64 z] W (kz W (val t (az z.toNat))):=by
 have:=vF t z.toNat W (by omega);rw[Int.toNat_of_nonneg h0] at this;exact this
theorem Fq (m:MV)(c:MC)(w:World)(hu:U64M m c):Calls Tryz.prog 53 #[m.val,.int .u8 2] w (pV 118 m c w):=by
 have hb0:Below w.heap.size w (w.alloc m.box):=(Below.refl _ _).alloc (Nat.le_refl _) _;have k0:(w.alloc m.box).heap[w.heap.size]?=some m.box:=by show (w.heap.push _)[w.heap.size]?=some _;exact Array.getElem?_push_size
 unfold MV.box MV.cells at hb0 k0;unfold MV.val MV.cells;go_in;go_upto_region 1 with fail;generalize hg:w.alloc _=W0 at *;have q0:W0.heap[w.heap.size]?=some m.box:=k0;clear hg k0;have hpl:=rP m W0;unfold mG bM at hpl;unfold MV.val MV.cells at hpl;have q1:=q0;unfold MV.box MV.cells at q1;go_wp2_with (refine wpList_load_row (ty:=59) q1 rfl rfl rfl (by kernel_rfl) (by kernel_rfl) ?_;go_simp);refine hpl.mono ?_;rintro e W1 ⟨rfl,hb1⟩;have hx:(Instr.index 154 (.agg #[.int .u64 0,.int .u64 0,.int .u64 m.vi,.int .u64 m.no,.int .u64 0,.int .u64 m.cl,.int .u64 m.nu,.int .u64 0,.int .u64 0,.int .u64 m.at_,.int .u64 m.cm,.int .u64 m.bs,.int .u64 0,.int .u64 0,.int .u64 m.nc,.int .u64 0,.int .u64 0]) (.int .u8 2)).run Tryz.prog W1=.ok (.int .u64 m.vi) W1:=by kernel_rfl
 have hc:=qV 2 m.vi W1 hu.vi.1 hu.vi.2;have hbel:=hb0.trans (hb1.mono hb0.size);clear hpl q0 q1 hb0 hb1;go_wp2_with fail;refine hc.mono ?_;rintro e W2 ⟨v2,rfl,o2,hb2⟩;obtain⟨a2,k2,e2,r2⟩:=Rd.of_own o2;subst e2;have hbel2:=hbel.trans (hb2.mono hbel.size);clear hc o2 hb2;go_wp2_with fail;go_ret2;exact⟨_,a2,k2,true,rfl,r2,hbel2,rfl,fun _=>rfl⟩
theorem J3 (m:MV)(c:MC)(w:World)(hu:U64M m c):Calls Tryz.prog 53 #[m.val,.int .u8 5] w (pV 99 m c w):=by
 have hb0:Below w.heap.size w (w.alloc m.box):=(Below.refl _ _).alloc (Nat.le_refl _) _;have k0:(w.alloc m.box).heap[w.heap.size]?=some m.box:=by show (w.heap.push _)[w.heap.size]?=some _;exact Array.getElem?_push_size
 unfold MV.box MV.cells at hb0 k0;unfold MV.val MV.cells;go_in;go_upto_region 1 with fail;generalize hg:w.alloc _=W0 at *;have q0:W0.heap[w.heap.size]?=some m.box:=k0;clear hg k0;have hpl:=rP m W0;unfold mG bM at hpl;unfold MV.val MV.cells at hpl;have q1:=q0;unfold MV.box MV.cells at q1;go_wp2_with (refine wpList_load_row (ty:=59) q1 rfl rfl rfl (by kernel_rfl) (by kernel_rfl) ?_;go_simp);refine hpl.mono ?_;rintro e W1 ⟨rfl,hb1⟩;have hx:(Instr.index 154 (.agg #[.int .u64 0,.int .u64 0,.int .u64 m.vi,.int .u64 m.no,.int .u64 0,.int .u64 m.cl,.int .u64 m.nu,.int .u64 0,.int .u64 0,.int .u64 m.at_,.int .u64 m.cm,.int .u64 m.bs,.int .u64 0,.int .u64 0,.int .u64 m.nc,.int .u64 0,.int .u64 0]) (.int .u8 5)).run Tryz.prog W1=.ok (.int .u64 m.cl) W1:=by kernel_rfl
 have hc:=qV 5 m.cl W1 hu.cl.1 hu.cl.2;have hbel:=hb0.trans (hb1.mono hb0.size);clear hpl q0 q1 hb0 hb1;go_wp2_with fail;refine hc.mono ?_;rintro e W2 ⟨v2,rfl,o2,hb2⟩;obtain⟨a2,k2,e2,r2⟩:=Rd.of_own o2;subst e2;have hbel2:=hbel.trans (hb2.mono hbel.size);clear hc o2 hb2;go_wp2_with fail;go_ret2;exact⟨_,a2,k2,true,rfl,r2,hbel2,rfl,fun _=>rfl⟩
theorem Ej (m:MV)(c:MC)(w:World)(hu:U64M m c):Calls Tryz.prog 53 #[m.val,.int .u8 6] w (pV 117 m c w):=by
 have hb0:Below w.heap.size w (w.alloc m.box):=(Below.refl _ _).alloc (Nat.le_refl _) _;have k0:(w.alloc m.box).heap[w.heap.size]?=some m.box:=by show (w.heap.push _)[w.heap.size]?=some _;exact Array.getElem?_push_size
 unfold MV.box MV.cells at hb0 k0;unfold MV.val MV.cells;go_in;go_upto_region 1 with fail;generalize hg:w.alloc _=W0 at *;have q0:W0.heap[w.heap.size]?=some m.box:=k0;clear hg k0;have hpl:=rP m W0;unfold mG bM at hpl;unfold MV.val MV.cells at hpl;have q1:=q0;unfold MV.box MV.cells at q1;go_wp2_with (refine wpList_load_row (ty:=59) q1 rfl rfl rfl (by kernel_rfl) (by kernel_rfl) ?_;go_simp);refine hpl.mono ?_;rintro e W1 ⟨rfl,hb1⟩;have hx:(Instr.index 154 (.agg #[.int .u64 0,.int .u64 0,.int .u64 m.vi,.int .u64 m.no,.int .u64 0,.int .u64 m.cl,.int .u64 m.nu,.int .u64 0,.int .u64 0,.int .u64 m.at_,.int .u64 m.cm,.int .u64 m.bs,.int .u64 0,.int .u64 0,.int .u64 m.nc,.int .u64 0,.int .u64 0]) (.int .u8 6)).run Tryz.prog W1=.ok (.int .u64 m.nu) W1:=by kernel_rfl
 have hc:=qV 6 m.nu W1 hu.nu.1 hu.nu.2;have hbel:=hb0.trans (hb1.mono hb0.size);clear hpl q0 q1 hb0 hb1;go_wp2_with fail;refine hc.mono ?_;rintro e W2 ⟨v2,rfl,o2,hb2⟩;obtain⟨a2,k2,e2,r2⟩:=Rd.of_own o2;subst e2;have hbel2:=hbel.trans (hb2.mono hbel.size);clear hc o2 hb2;go_wp2_with fail;go_ret2;exact⟨_,a2,k2,true,rfl,r2,hbel2,rfl,fun _=>rfl⟩
theorem FD (m:MV)(c:MC)(w:World)(h:MAt w m c)(hf:FitsM m c):Calls Tryz.prog 53 #[m.val,.int .u8 8] w (pV 114 m c w):=by
 have hb0:Below w.heap.size w (w.alloc m.box):=(Below.refl _ _).alloc (Nat.le_refl _) _;have k0:(w.alloc m.box).heap[w.heap.size]?=some m.box:=by show (w.heap.push _)[w.heap.size]?=some _;exact Array.getElem?_push_size
 unfold MV.box MV.cells at hb0 k0;unfold MV.val MV.cells;go_in;go_upto_region 1 with fail;generalize hg:w.alloc _=W0 at *;have q0:W0.heap[w.heap.size]?=some m.box:=k0;clear hg k0;have hrg:=(McAt.of q0).r;unfold QV.cells at hrg;have hm0:=rZ m.rs c.rs W0 (h.later hb0).rs hf.rs;unfold QV.val QV.cells at hm0;go_wp2_with (refine dR (ty:=39) hrg rfl rfl rfl (by kernel_rfl) (by kernel_rfl) ?_;go_simp);refine hm0.mono ?_;rintro e W1 ⟨l,ax,cx,ok,rfl,r1,hb1,h1,h2⟩;have hbel:=hb0.trans (hb1.mono hb0.size);clear hm0 hrg q0 hb0 hb1;cases hm:bf m.rs c.rs with
 | false=>
  obtain⟨rfl,rfl⟩:=h2 hm;have HM:Hid (lI 114 m c=false):=hid hm;have hv:=di 8 [] ax 0 cx W1 (by decide) r1;clear hm h1 h2;go_wp2_with fail;refine hv.mono ?_;rintro e W2 ⟨v2,rfl,o2,hb2⟩;obtain⟨a2,k2,e2,r2⟩:=Rd.of_own o2;subst e2;have hbel2:=hbel.trans (hb2.mono hbel.size);clear hv o2 hb2;go_wp2_with fail;go_ret2;exact⟨val 8 [],a2,k2,false,rfl,r2,hbel2,HM.out.symm,fun e=>by cases e⟩
 | true=>
  obtain⟨hl,rfl⟩:=h1 hm;have HM:Hid (lI 114 m c=true):=hid hm;have HL:Hid (dB 114 m c=val 8 l):=hid (by rw[hl];rfl);have hl4:l.length<=4194304:=by rw[hl];exact hf.rl hm
  have hv:=di 8 l ax _ cx W1 hl4 r1;have f1:decide ((l.length:Int)<=4194304)=true:=decide_eq_true (by omega);clear hm h1 h2 hl hl4;go_wp2_with fail;refine hv.mono ?_;rintro e W2 ⟨v2,rfl,o2,hb2⟩;obtain⟨a2,k2,e2,r2⟩:=Rd.of_own o2;subst e2;have hbel2:=hbel.trans (hb2.mono hbel.size);clear hv o2 hb2;go_wp2_with fail;go_ret2;exact⟨val 8 l,a2,k2,true,rfl,r2,hbel2,HM.out.symm,fun _=>HL.out.symm⟩
theorem Ap (t:UInt8)(b r:List UInt8)(ht:0<t.toNat)(hb:b.length<=4194304):RS.tagR ⟨val t b++r,false⟩=t:=by
 unfold RS.tagR;rw[if_neg (by
  rintro (h | h)
  ·cases h
  rw[xk t b r ht hb] at h;omega),xZ t b r ht hb]
theorem ReadM.choose {s s':RS}{o:MV}{c:MC}(R:ReadM s 10 (lettersOf 10 false) 2 false o c s'):ReadM s 10 (lettersOf 10 (decide (s'.tagR=10))) 2 true o c s' where
 yes:=fun h=>by
  obtain⟨a,b,g⟩:=R.yes h;rw[Aa] at b g ⊢;exact⟨a,b,g⟩
 go:=fun hb W m d r hM e=>by
  obtain⟨h1,h2,-,h4,h5⟩:=R.go hb W m d r hM e;have key:s'.tagR=10↔m.wh=true:=by
   have hs:s'=⟨s'.l,false⟩:=by rw[<-h4]
   rw[hs,h5,h1];cases hw:m.wh with
   | true=>
    have e1:aJ ((lettersOf 10 true).drop 2) m d++r=val 10 (az m.cm.toNat)++(aJ [98,115,108,111,119,101] m d++r):=by
     rw[<-List.append_assoc];rfl
    rw[e1,Ap _ _ _ (by decide) (by rw[ah];omega)];exact⟨fun _=>rfl,fun _=>rfl⟩
   | false=>
    have e1:aJ ((lettersOf 10 false).drop 2) m d++r=val 14 (az m.nc.toNat)++(aJ [119,101] m d++r):=by
     rw[<-List.append_assoc];rfl
    rw[e1,Ap _ _ _ (by decide) (by rw[ah];omega)];exact⟨fun h=>absurd h (by decide),fun h=>by cases h⟩
  have hch:decide (s'.tagR=10)=m.wh:=by
   cases hw:m.wh with
   | true=>exact decide_eq_true (key.2 hw)
   | false=>exact decide_eq_false (fun h=>by rw[key.1 h] at hw;cases hw)
  refine⟨h1,by rw[Aa,h2,Aa],fun _=>by rw[h1,hch],h4,h5⟩
 le:=R.le
theorem Jm {s s':RS}{y:List UInt8}{o:MV}{c:MC}(T:Took (val 12) (fun z=>z.length<=4194304) (fun z=>z.length<=4194304) s y s')(hc:c.snap=y):StepX 115 s o c s' where
 yes:=fun h=>by
  obtain⟨a,b,g⟩:=T.yes h;refine⟨a,by show s.l=val 12 c.snap++s'.l;rw[hc];exact b,⟨fun e=>absurd e (by decide),fun e=>absurd e (by decide),fun e=>absurd e (by decide),fun _=>by rw[hc];exact g,fun e=>absurd e (by decide),fun e=>absurd e (by decide)⟩⟩
 go:=fun hb W m d r h1 h2 h3 e=>jv T (fun z r r' hz hg e=>(ak (by decide) hg hz e).2) hb (h3.g h1 |>.sn rfl) e
 le:=T.le
theorem Ef {s s':RS}{y:Bool}{o:MV}{c:MC}(T:Took (fun b:Bool=>val 15 [if b then 1 else 0]) (fun _=>True) (fun _=>True) s y s')(ho:o.wh=y):StepX 119 s o c s' where
 yes:=fun h=>by
  obtain⟨a,b,g⟩:=T.yes h;refine⟨a,by show s.l=val 15 [if o.wh then 1 else 0]++s'.l;rw[ho];exact b,⟨fun e=>absurd e (by decide),fun e=>absurd e (by decide),fun e=>absurd e (by decide),fun e=>absurd e (by decide),fun e=>absurd e (by decide),fun e=>absurd e (by decide)⟩⟩
 go:=fun hb W m d r h1 h2 h3 e=>jv T (fun z r r' _ _ e=>(ak (by decide) (by simp) (by simp) e).2) hb trivial (z:=m.wh) e
 le:=T.le
theorem Ky {s s1:RS}{y:List UInt8}{ok:Bool}{o:MV}{c:MC}(T:Took (val 7) (fun z=>z.length<=4194304) (fun z=>z.length<=4194304) s y s1)
  (hok:ok=true->aB o.rq.op c.rq=true/\eQ o.rq (opL o.rq.op c.rq)=y) (hno:ok=false->A7 y):StepX 113 s o c ⟨s1.l,s1.bad||!ok⟩ where
 yes:=fun h=>by
  dsimp only at h;rw[Bool.or_eq_false_iff] at h;obtain⟨h1,h2⟩:=h;have h3:ok=true:=by simpa using h2
  obtain⟨g1,g2⟩:=hok h3;obtain⟨a,b,g⟩:=T.yes h1;exact⟨a,by show s.l=val 7 (eQ o.rq (opL o.rq.op c.rq))++s1.l;rw[g2];exact b,⟨fun e=>absurd e (by decide),fun _=>g1,fun e=>absurd e (by decide),fun e=>absurd e (by decide),fun e=>absurd e (by decide),fun e=>absurd e (by decide)⟩⟩
 go:=fun hb W m d r h1 h2 h3 e=>by
  have hm:=h3.rq rfl;have hl:=gU h1.rq hm;have hz:(eQ m.rq (opL m.rq.op d.rq)).length<=4194304:=by rw[gp];omega
  obtain⟨b1,b2⟩:=jv T (fun z r r' hz hg e=>(ak (by decide) hg hz e).2) hb hz e;obtain⟨-,e2,g⟩:=T.yes b1;have hy:=(ak (t:=7) (by decide) g hz (e2.symm.trans e)).1;refine⟨?_,b2⟩;cases hok2:ok with
  | true=>show (s1.bad||!true)=false;rw[b1];rfl
  | false=>exact absurd hy.symm (hno hok2 W m.rq d.rq h1.rq hm h2.rq)
 le:=T.le
theorem Bi {s s1:RS}{y:List UInt8}{ok:Bool}{o:MV}{c:MC}(T:Took (val 8) (fun z=>z.length<=4194304) (fun z=>z.length<=4194304) s y s1)
  (hok:ok=true->bf o.rs c.rs=true/\dG o.rs c.rs=y) (hno:ok=false->rC y):StepX 114 s o c ⟨s1.l,s1.bad||!ok⟩ where
 yes:=fun h=>by
  dsimp only at h;rw[Bool.or_eq_false_iff] at h;obtain⟨h1,h2⟩:=h;have h3:ok=true:=by simpa using h2
  obtain⟨g1,g2⟩:=hok h3;obtain⟨a,b,g⟩:=T.yes h1;exact⟨a,by show s.l=val 8 (dG o.rs c.rs)++s1.l;rw[g2];exact b,⟨fun e=>absurd e (by decide),fun e=>absurd e (by decide),fun _=>⟨g1,by rw[g2];exact g⟩,fun e=>absurd e (by decide),fun e=>absurd e (by decide),fun e=>absurd e (by decide)⟩⟩
 go:=fun hb W m d r h1 h2 h3 e=>by
  obtain⟨hm,hz⟩:=h3.rs rfl;obtain⟨b1,b2⟩:=jv T (fun z r r' hz hg e=>(ak (by decide) hg hz e).2) hb hz e;obtain⟨-,e2,g⟩:=T.yes b1;have hy:=(ak (t:=8) (by decide) g hz (e2.symm.trans e)).1;refine⟨?_,b2⟩;cases hok2:ok with
  | true=>show (s1.bad||!true)=false;rw[b1];rfl
  | false=>exact absurd hy.symm (hno hok2 W m.rs d.rs h1.rs hm)
 le:=T.le
structure TookM (s:RS)(o:MV)(c:MC)(s':RS):Prop where
 yes:s'.bad=false->s.bad=false/\s.l=dM o c++s'.l/\(∀x∈lettersOf o.k o.wh,MayG x o c)/\0<=o.fr/\o.fr<7
 go:s.bad=false->∀(W:World) (m:MV) (d:MC) (r:List UInt8),MayM W m d->s.l=dM m d++r->s'.bad=false/\s'.l=r
 le:s'.l.length<=s.l.length
theorem iY {k:Int}{wh:Bool}:∀x∈lettersOf k wh,x∈dA:=fun _ hx=>(List.mem_filter.1 hx).1
theorem FW {a b:Bool}(h:lettersOf 10 a=lettersOf 10 b):a=b:=by
 cases a<;>cases b<;>first | rfl | exact absurd h (by decide)
theorem KE (b:Bool):(119:Int)∈lettersOf 10 b:=by cases b<;>decide
theorem ReadM.done {W':World}{s s':RS}{ls:List Int}{whole:Bool}{o:MV}{c:MC}(R:ReadM s o.k ls ls.length true o c s')(hls:ls=lettersOf o.k whole)(hw:o.k≠10->whole=false/\o.wh=false)
  (hz:(102:Int)∉ls->o.fr=0) (hat:MAt W' o c) (hu:U64M o c) (hfr:0<=o.fr/\o.fr<18446744073709551616) :
  TookM s { o with fr:=o.fr % 7 } c ⟨s'.l,s'.bad||(decide (7<=o.fr)||(whole != o.wh))⟩ where
 yes:=fun h=>by
  dsimp only at h;rw[Bool.or_eq_false_iff,Bool.or_eq_false_iff] at h;obtain⟨h1,h2,h3⟩:=h;have h7:o.fr<7:=by have:=of_decide_eq_false h2;omega
  have h4:whole=o.wh:=by simpa using h3
  have e:({ o with fr:=o.fr % 7 }:MV)=o:=by rw[show o.fr % 7=o.fr by omega]
  rw[e];obtain⟨a,b,g⟩:=R.yes h1;rw[List.take_length] at b g;rw[hls,h4] at b g;refine⟨a,?_,g,hfr.1,h7⟩;unfold dM;rw[b];simp only[List.append_assoc]
 go:=fun hb W m d r hM e=>by
  obtain⟨h1,-,h3,h4,h5⟩:=R.go hb W m d r hM e;have hl:=h3 rfl;rw[hl,List.drop_length] at h5;obtain⟨-,b,g⟩:=R.yes h4;rw[List.take_length] at b g;have e2:aJ ls o c++s'.l=aJ ls m d++r:=by
   have h6:val 1 (az o.k.toNat)++(aJ ls o c++s'.l)=val 1 (az o.k.toNat)++(aJ ls m d++r):=by
    rw[<-b,e];unfold dM;rw[hl,h1];simp only[List.append_assoc]
   exact (ak (by decide) (by rw[ah];omega) (by rw[ah];omega) h6).2
  have hag:=(rW hat hM.at_ hu hM.u ls _ _ (fun x hx=>iY x (hls▸hx)) g (fun x hx=>(hM.may x (hl▸hx)).g hM.at_) e2).1;have f7:o.fr<7:=by
   by_cases h:(102:Int)∈ls
   ·have h8:o.fr=m.fr:=of_decide_eq_true (hag 102 h);have:=(hM.may 102 (hl▸h)).fr rfl;omega
   rw[hz h];decide
  have hwh:whole=o.wh:=by
   by_cases h10:o.k=10
   ·have h8:o.wh=m.wh:=of_decide_eq_true (hag 119 (by rw[hls,h10];exact KE _));rw[h1,h10,hls,h10] at hl;rw[h8];exact (FW hl).symm
   obtain⟨a1,a2⟩:=hw h10;rw[a1,a2]
  refine⟨?_,by simpa [aJ] using h5⟩;dsimp only;rw[h4,decide_eq_false (show ¬7<=o.fr by omega),hwh];simp
 le:=R.le
end Go.Proofs.YtfmmandlmbcncaaGreatDoor.Msg
