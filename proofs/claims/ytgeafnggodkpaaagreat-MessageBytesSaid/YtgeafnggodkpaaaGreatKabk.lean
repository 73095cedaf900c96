/-
  A part of the proof.
-/
import Derived.Test.YtgeafnggodkpaaaGreatKabh
import Derived.Test.YtgeafnggodkpaaaGreatKaab
set_option maxHeartbeats 40000000
namespace Go.Proofs.YtgeafnggodkpaaaGreat.Msg
open Go.RowKit Go.Lib Go.Proofs.YtgeafnggodkpaaaGreat.Mem Go.Proofs.YtgeafnggodkpaaaGreat.Tlv
def nums17 (n2 n3 n4 n5 n6 n7 n8 n9 n10 n11 n12 n13 n14 n15 n16:Int):Array Value:=#[.int .u64 0,.int .u64 0,.int .u64 n2,.int .u64 n3,.int .u64 n4,.int .u64 n5,.int .u64 n6,.int .u64 n7,.int .u64 n8,.int .u64 n9,.int .u64 n10,.int .u64 n11,.int .u64 n12,.int .u64 n13,.int .u64 n14,.int .u64 n15,.int .u64 n16]
def plainA (m:MV):Array Value:=nums17 m.vi m.no 0 m.cl m.nu 0 0 m.at_ m.cm m.bs 0 0 m.nc 0 0
theorem ncell {W:World}{A:Nat}{arr:Array Value}{t:TypeId}(h:W.heap[A]?=some (.cells arr t))(i:Nat)(v:Value)(hv:arr[i]?=some v):W.cell? ⟨A,i,none⟩=some v:=by
 simp[World.cell?,h,hv]
theorem at_new (W:World)(o:Obj):(W.alloc o).heap[W.heap.size]?=some o:=by show (W.heap.push o)[W.heap.size]?=some o;exact Array.getElem?_push_size
theorem nfrozen {W:World}{A:Nat}{arr:Array Value}{t:TypeId}(h:W.heap[A]?=some (.cells arr t))(i:Nat):W.frozen? ⟨A,i,none⟩=false:=by
 simp[World.frozen?,h]
set_option maxRecDepth 100000 in
theorem rplain_any (m:MV)(w:World):Calls Tryz.prog 139 #[m.val] w (fun e w'=>e=.returned (.agg (plainA m))∧Below w.heap.size w w'):=by
 have hmo:Tryz.prog.follows .mixedOrders=true:=by kernel_rfl
 have hb0:Below w.heap.size w (((w.alloc m.box).alloc (.cells (nums17 0 0 0 0 0 0 0 0 0 0 0 0 0 0 0) 177)).alloc (.cells (nums17 0 0 0 0 0 0 0 0 0 0 0 0 0 0 0) 177)):=(below_two w _ _).alloc (by simp;omega) _
 obtain⟨k1,k2⟩:=two_boxes w m.box (.cells (nums17 0 0 0 0 0 0 0 0 0 0 0 0 0 0 0) 177)
 have hz:((w.alloc m.box).alloc (.cells (nums17 0 0 0 0 0 0 0 0 0 0 0 0 0 0 0) 177)).heap.size=w.heap.size+2:=by simp
 obtain⟨j1,j2,j3⟩:(((w.alloc m.box).alloc (.cells (nums17 0 0 0 0 0 0 0 0 0 0 0 0 0 0 0) 177)).alloc (.cells (nums17 0 0 0 0 0 0 0 0 0 0 0 0 0 0 0) 177)).heap[w.heap.size]?=some m.box∧(((w.alloc m.box).alloc (.cells (nums17 0 0 0 0 0 0 0 0 0 0 0 0 0 0 0) 177)).alloc (.cells (nums17 0 0 0 0 0 0 0 0 0 0 0 0 0 0 0) 177)).heap[w.heap.size+1]?=some (.cells (nums17 0 0 0 0 0 0 0 0 0 0 0 0 0 0 0) 177)∧(((w.alloc m.box).alloc (.cells (nums17 0 0 0 0 0 0 0 0 0 0 0 0 0 0 0) 177)).alloc (.cells (nums17 0 0 0 0 0 0 0 0 0 0 0 0 0 0 0) 177)).heap[w.heap.size+2]?=some (.cells (nums17 0 0 0 0 0 0 0 0 0 0 0 0 0 0 0) 177):=by
  have hb:Below (w.heap.size+2) ((w.alloc m.box).alloc (.cells (nums17 0 0 0 0 0 0 0 0 0 0 0 0 0 0 0) 177)) (((w.alloc m.box).alloc (.cells (nums17 0 0 0 0 0 0 0 0 0 0 0 0 0 0 0) 177)).alloc (.cells (nums17 0 0 0 0 0 0 0 0 0 0 0 0 0 0 0) 177)):=by
   have:=(Below.refl ((w.alloc m.box).alloc (.cells (nums17 0 0 0 0 0 0 0 0 0 0 0 0 0 0 0) 177)).heap.size ((w.alloc m.box).alloc (.cells (nums17 0 0 0 0 0 0 0 0 0 0 0 0 0 0 0) 177))).alloc (Nat.le_refl _) (.cells (nums17 0 0 0 0 0 0 0 0 0 0 0 0 0 0 0) 177)
   rw[hz] at this
   exact this
  refine⟨(hb.block _ (by omega)).trans k1,(hb.block _ (by omega)).trans k2,?_⟩
  rw[←hz]
  exact at_new _ _
 unfold MV.box MV.cells nums17 at hb0 j1 j2 j3
 clear k1 k2 hz
 unfold MV.val MV.cells
 go_enter Tryz.func139,Tryz.ntmps139
 go_upto_region 2 with fail
 generalize hg:World.alloc _ _=W0 at *
 have s0:W0.heap[w.heap.size]?=some m.box:=j1
 have zb:W0.heap[w.heap.size+1]?=some (.cells (nums17 0 0 0 0 0 0 0 0 0 0 0 0 0 0 0) 177):=j2
 have za:W0.heap[w.heap.size+2]?=some (.cells (nums17 0 0 0 0 0 0 0 0 0 0 0 0 0 0 0) 177):=j3
 clear hg j1 j2 j3
 refine wp_region_held (S:=fun W=>W.heap[w.heap.size]?=some m.box) hmo ?_
 change wpAnyH _ _ _ _ _ _ _ _ (World.drew W0)
 have hd:Below W0.heap.size W0 W0.drew:=(Below.refl _ _).drew
 have t0:=mbox_step s0 hd
 have b0:=(hd.block _ (Array.getElem?_eq_some_iff.1 zb).1).trans zb
 have a0:=(hd.block _ (Array.getElem?_eq_some_iff.1 za).1).trans za
 have l0:=hb0.trans (hd.mono hb0.size)
 generalize World.drew W0=X0 at *
 clear s0 zb za hd hb0
 refine zHp 0 (.pointer (some ⟨w.heap.size,1,none⟩)) rfl t0 ?_
 go_simp
 refine zHa 1 (.int .u64 m.vi) rfl (by rintro w2 h2;have cc:w2.cell? ⟨w.heap.size,1,none⟩=some (.int .u64 m.vi):=(McAt.of h2).c1;go_simp) t0 ?_
 go_simp
 refine zHp 2 (.pointer (some ⟨w.heap.size,2,none⟩)) rfl t0 ?_
 go_simp
 refine zHa 3 (.int .u64 m.no) rfl (by rintro w2 h2;have cc:w2.cell? ⟨w.heap.size,2,none⟩=some (.int .u64 m.no):=(McAt.of h2).c2;go_simp) t0 ?_
 go_simp
 refine zHp 4 (.pointer (some ⟨w.heap.size,4,none⟩)) rfl t0 ?_
 go_simp
 refine zHa 5 (.int .u64 m.cl) rfl (by rintro w2 h2;have cc:w2.cell? ⟨w.heap.size,4,none⟩=some (.int .u64 m.cl):=(McAt.of h2).c4;go_simp) t0 ?_
 go_simp
 refine zHp 6 (.pointer (some ⟨w.heap.size,5,none⟩)) rfl t0 ?_
 go_simp
 refine zHa 7 (.int .u64 m.nu) rfl (by rintro w2 h2;have cc:w2.cell? ⟨w.heap.size,5,none⟩=some (.int .u64 m.nu):=(McAt.of h2).c5;go_simp) t0 ?_
 go_simp
 refine zHp 8 (.pointer (some ⟨w.heap.size,19,none⟩)) rfl t0 ?_
 go_simp
 refine zHa 9 (.int .u64 m.at_) rfl (by rintro w2 h2;have cc:w2.cell? ⟨w.heap.size,19,none⟩=some (.int .u64 m.at_):=(McAt.of h2).c19;go_simp) t0 ?_
 go_simp
 refine zHp 10 (.pointer (some ⟨w.heap.size,20,none⟩)) rfl t0 ?_
 go_simp
 refine zHa 11 (.int .u64 m.cm) rfl (by rintro w2 h2;have cc:w2.cell? ⟨w.heap.size,20,none⟩=some (.int .u64 m.cm):=(McAt.of h2).c20;go_simp) t0 ?_
 go_simp
 refine zHp 12 (.pointer (some ⟨w.heap.size,21,none⟩)) rfl t0 ?_
 go_simp
 refine zHa 13 (.int .u64 m.bs) rfl (by rintro w2 h2;have cc:w2.cell? ⟨w.heap.size,21,none⟩=some (.int .u64 m.bs):=(McAt.of h2).c21;go_simp) t0 ?_
 go_simp
 refine zHp 14 (.pointer (some ⟨w.heap.size,24,none⟩)) rfl t0 ?_
 go_simp
 refine zHa 15 (.int .u64 m.nc) rfl (by rintro w2 h2;have cc:w2.cell? ⟨w.heap.size,24,none⟩=some (.int .u64 m.nc):=(McAt.of h2).c24;go_simp) t0 ?_
 go_simp
 refine zHp 16 (.pointer (some ⟨w.heap.size+2,2,none⟩)) rfl t0 ?_
 go_simp
 refine zH1 17 rfl (fun K hK=>?_)
 have z:X0.cell? ⟨w.heap.size+2,2,none⟩=some (.int .u64 0):=ncell a0 2 _ rfl
 have fz:=nfrozen a0 2
 have a1:(X0.setCell ⟨w.heap.size+2,2,none⟩ (.int .u64 m.vi)).heap[w.heap.size+2]?=some (.cells (nums17 m.vi 0 0 0 0 0 0 0 0 0 0 0 0 0 0) 177):=(at_set a0).trans (by kernel_rfl)
 have t1:(X0.setCell ⟨w.heap.size+2,2,none⟩ (.int .u64 m.vi)).heap[w.heap.size]?=some m.box:=at_other t0 (by omega)
 have b1:=at_other (i:=2) (x:=.int .u64 m.vi) b0 (show w.heap.size+1≠w.heap.size+2 by omega)
 have l1:=l0.setCell (p:=⟨w.heap.size+2,2,none⟩) (by show w.heap.size≤w.heap.size+2;omega) (.int .u64 m.vi)
 go_simp
 refine hK _ _ ⟨t1,?_⟩
 generalize World.setCell X0 _ _=X1 at *
 clear hK K z fz a0 t0 b0 l0
 refine zHp 18 (.pointer (some ⟨w.heap.size+2,3,none⟩)) rfl t1 ?_
 go_simp
 refine zH1 19 rfl (fun K hK=>?_)
 have z:X1.cell? ⟨w.heap.size+2,3,none⟩=some (.int .u64 0):=ncell a1 3 _ rfl
 have fz:=nfrozen a1 3
 have a2:(X1.setCell ⟨w.heap.size+2,3,none⟩ (.int .u64 m.no)).heap[w.heap.size+2]?=some (.cells (nums17 m.vi m.no 0 0 0 0 0 0 0 0 0 0 0 0 0) 177):=(at_set a1).trans (by kernel_rfl)
 have t2:(X1.setCell ⟨w.heap.size+2,3,none⟩ (.int .u64 m.no)).heap[w.heap.size]?=some m.box:=at_other t1 (by omega)
 have b2:=at_other (i:=3) (x:=.int .u64 m.no) b1 (show w.heap.size+1≠w.heap.size+2 by omega)
 have l2:=l1.setCell (p:=⟨w.heap.size+2,3,none⟩) (by show w.heap.size≤w.heap.size+2;omega) (.int .u64 m.no)
 go_simp
 refine hK _ _ ⟨t2,?_⟩
 generalize World.setCell X1 _ _=X2 at *
 clear hK K z fz a1 t1 b1 l1
 refine zHp 20 (.pointer (some ⟨w.heap.size+2,5,none⟩)) rfl t2 ?_
 go_simp
 refine zH1 21 rfl (fun K hK=>?_)
 have z:X2.cell? ⟨w.heap.size+2,5,none⟩=some (.int .u64 0):=ncell a2 5 _ rfl
 have fz:=nfrozen a2 5
 have a3:(X2.setCell ⟨w.heap.size+2,5,none⟩ (.int .u64 m.cl)).heap[w.heap.size+2]?=some (.cells (nums17 m.vi m.no 0 m.cl 0 0 0 0 0 0 0 0 0 0 0) 177):=(at_set a2).trans (by kernel_rfl)
 have t3:(X2.setCell ⟨w.heap.size+2,5,none⟩ (.int .u64 m.cl)).heap[w.heap.size]?=some m.box:=at_other t2 (by omega)
 have b3:=at_other (i:=5) (x:=.int .u64 m.cl) b2 (show w.heap.size+1≠w.heap.size+2 by omega)
 have l3:=l2.setCell (p:=⟨w.heap.size+2,5,none⟩) (by show w.heap.size≤w.heap.size+2;omega) (.int .u64 m.cl)
 go_simp
 refine hK _ _ ⟨t3,?_⟩
 generalize World.setCell X2 _ _=X3 at *
 clear hK K z fz a2 t2 b2 l2
 refine zHp 22 (.pointer (some ⟨w.heap.size+2,6,none⟩)) rfl t3 ?_
 go_simp
 refine zH1 23 rfl (fun K hK=>?_)
 have z:X3.cell? ⟨w.heap.size+2,6,none⟩=some (.int .u64 0):=ncell a3 6 _ rfl
 have fz:=nfrozen a3 6
 have a4:(X3.setCell ⟨w.heap.size+2,6,none⟩ (.int .u64 m.nu)).heap[w.heap.size+2]?=some (.cells (nums17 m.vi m.no 0 m.cl m.nu 0 0 0 0 0 0 0 0 0 0) 177):=(at_set a3).trans (by kernel_rfl)
 have t4:(X3.setCell ⟨w.heap.size+2,6,none⟩ (.int .u64 m.nu)).heap[w.heap.size]?=some m.box:=at_other t3 (by omega)
 have b4:=at_other (i:=6) (x:=.int .u64 m.nu) b3 (show w.heap.size+1≠w.heap.size+2 by omega)
 have l4:=l3.setCell (p:=⟨w.heap.size+2,6,none⟩) (by show w.heap.size≤w.heap.size+2;omega) (.int .u64 m.nu)
 go_simp
 refine hK _ _ ⟨t4,?_⟩
 generalize World.setCell X3 _ _=X4 at *
 clear hK K z fz a3 t3 b3 l3
 refine zHp 24 (.pointer (some ⟨w.heap.size+2,9,none⟩)) rfl t4 ?_
 go_simp
 refine zH1 25 rfl (fun K hK=>?_)
 have z:X4.cell? ⟨w.heap.size+2,9,none⟩=some (.int .u64 0):=ncell a4 9 _ rfl
 have fz:=nfrozen a4 9
 have a5:(X4.setCell ⟨w.heap.size+2,9,none⟩ (.int .u64 m.at_)).heap[w.heap.size+2]?=some (.cells (nums17 m.vi m.no 0 m.cl m.nu 0 0 m.at_ 0 0 0 0 0 0 0) 177):=(at_set a4).trans (by kernel_rfl)
 have t5:(X4.setCell ⟨w.heap.size+2,9,none⟩ (.int .u64 m.at_)).heap[w.heap.size]?=some m.box:=at_other t4 (by omega)
 have b5:=at_other (i:=9) (x:=.int .u64 m.at_) b4 (show w.heap.size+1≠w.heap.size+2 by omega)
 have l5:=l4.setCell (p:=⟨w.heap.size+2,9,none⟩) (by show w.heap.size≤w.heap.size+2;omega) (.int .u64 m.at_)
 go_simp
 refine hK _ _ ⟨t5,?_⟩
 generalize World.setCell X4 _ _=X5 at *
 clear hK K z fz a4 t4 b4 l4
 refine zHp 26 (.pointer (some ⟨w.heap.size+2,10,none⟩)) rfl t5 ?_
 go_simp
 refine zH1 27 rfl (fun K hK=>?_)
 have z:X5.cell? ⟨w.heap.size+2,10,none⟩=some (.int .u64 0):=ncell a5 10 _ rfl
 have fz:=nfrozen a5 10
 have a6:(X5.setCell ⟨w.heap.size+2,10,none⟩ (.int .u64 m.cm)).heap[w.heap.size+2]?=some (.cells (nums17 m.vi m.no 0 m.cl m.nu 0 0 m.at_ m.cm 0 0 0 0 0 0) 177):=(at_set a5).trans (by kernel_rfl)
 have t6:(X5.setCell ⟨w.heap.size+2,10,none⟩ (.int .u64 m.cm)).heap[w.heap.size]?=some m.box:=at_other t5 (by omega)
 have b6:=at_other (i:=10) (x:=.int .u64 m.cm) b5 (show w.heap.size+1≠w.heap.size+2 by omega)
 have l6:=l5.setCell (p:=⟨w.heap.size+2,10,none⟩) (by show w.heap.size≤w.heap.size+2;omega) (.int .u64 m.cm)
 go_simp
 refine hK _ _ ⟨t6,?_⟩
 generalize World.setCell X5 _ _=X6 at *
 clear hK K z fz a5 t5 b5 l5
 refine zHp 28 (.pointer (some ⟨w.heap.size+2,11,none⟩)) rfl t6 ?_
 go_simp
 refine zH1 29 rfl (fun K hK=>?_)
 have z:X6.cell? ⟨w.heap.size+2,11,none⟩=some (.int .u64 0):=ncell a6 11 _ rfl
 have fz:=nfrozen a6 11
 have a7:(X6.setCell ⟨w.heap.size+2,11,none⟩ (.int .u64 m.bs)).heap[w.heap.size+2]?=some (.cells (nums17 m.vi m.no 0 m.cl m.nu 0 0 m.at_ m.cm m.bs 0 0 0 0 0) 177):=(at_set a6).trans (by kernel_rfl)
 have t7:(X6.setCell ⟨w.heap.size+2,11,none⟩ (.int .u64 m.bs)).heap[w.heap.size]?=some m.box:=at_other t6 (by omega)
 have b7:=at_other (i:=11) (x:=.int .u64 m.bs) b6 (show w.heap.size+1≠w.heap.size+2 by omega)
 have l7:=l6.setCell (p:=⟨w.heap.size+2,11,none⟩) (by show w.heap.size≤w.heap.size+2;omega) (.int .u64 m.bs)
 go_simp
 refine hK _ _ ⟨t7,?_⟩
 generalize World.setCell X6 _ _=X7 at *
 clear hK K z fz a6 t6 b6 l6
 refine zHp 30 (.pointer (some ⟨w.heap.size+2,14,none⟩)) rfl t7 ?_
 go_simp
 refine zH1 31 rfl (fun K hK=>?_)
 have z:X7.cell? ⟨w.heap.size+2,14,none⟩=some (.int .u64 0):=ncell a7 14 _ rfl
 have fz:=nfrozen a7 14
 have a8:(X7.setCell ⟨w.heap.size+2,14,none⟩ (.int .u64 m.nc)).heap[w.heap.size+2]?=some (.cells (nums17 m.vi m.no 0 m.cl m.nu 0 0 m.at_ m.cm m.bs 0 0 m.nc 0 0) 177):=(at_set a7).trans (by kernel_rfl)
 have t8:(X7.setCell ⟨w.heap.size+2,14,none⟩ (.int .u64 m.nc)).heap[w.heap.size]?=some m.box:=at_other t7 (by omega)
 have b8:=at_other (i:=14) (x:=.int .u64 m.nc) b7 (show w.heap.size+1≠w.heap.size+2 by omega)
 have l8:=l7.setCell (p:=⟨w.heap.size+2,14,none⟩) (by show w.heap.size≤w.heap.size+2;omega) (.int .u64 m.nc)
 go_simp
 refine hK _ _ ⟨t8,?_⟩
 generalize World.setCell X7 _ _=X8 at *
 clear hK K z fz a7 t7 b7 l7
 refine wpAnyH_done (by kernel_rfl) ?_ _
 have g8:(X8.setRow (w.heap.size+1) (plainA m)).heap[w.heap.size+1]?=some (.cells (plainA m) 177):=setRow_at' b8
 have l9:=below_setRow l8 (show w.heap.size≤w.heap.size+1 by omega) (plainA m)
 go_wp2_with (first | (refine wpList_load_row (ty:=177) a8 rfl rfl rfl (by kernel_rfl) (by kernel_rfl) ?_;go_simp) | (refine wpList_store_row b8 rfl rfl rfl rfl (by kernel_rfl) rfl (by kernel_rfl) ?_;go_simp))
 exact bodyPost_ret (w:=X8.setRow (w.heap.size+1) (plainA m)) (results_row1 (i:=2) (t:=177) rfl rfl (by kernel_rfl) (by kernel_rfl) g8) rfl ⟨rfl,l9⟩
end Go.Proofs.YtgeafnggodkpaaaGreat.Msg
