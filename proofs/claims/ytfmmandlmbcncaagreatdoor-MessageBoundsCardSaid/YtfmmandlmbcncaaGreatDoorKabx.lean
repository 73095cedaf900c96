/-
  A part of the proof.
-/
import Derived.Deep.OwnRows
import Derived.Test.YtfmmandlmbcncaaGreatDoorKabw
import Derived.Test.YtfmmandlmbcncaaGreatDoorKabk
import Derived.Test.YtfmmandlmbcncaaGreatDoorKaac
set_option maxHeartbeats 40000000
namespace Go.Proofs.YtfmmandlmbcncaaGreatDoor.Msg
open Go.RowKit Go.Lib Go.Proofs.YtfmmandlmbcncaaGreatDoor.Mem Go.Proofs.YtfmmandlmbcncaaGreatDoor.Tlv
theorem made_list (z:Value)(n:Nat):madeCells #[z] n=(List.replicate n z).toArray:=by
 refine Array.ext_getElem? (fun i=>?_)
 by_cases hi:i<n
 ·simp[madeCells,hi,Nat.mod_one]
 simp[madeCells,hi]
theorem made_rd (W:World)(z:Value)(t:TypeId)(n:Nat)(hn:n≤1000000000):Rd (W.alloc (.cells (madeCells #[z] n) t)) 1 (some ⟨W.heap.size,0,none⟩) n n (List.replicate n z):=by
 rw[made_list]
 exact Rd.new W (List.replicate n z) t (0,0) 1 n (by simp) (by unfold maxLen;omega)
theorem byV_rep (n:Nat):byV (List.replicate n 0)=List.replicate n (.int .u8 0):=by simp[byV]
theorem u64V_rep (n:Nat):u64V (List.replicate n 0)=List.replicate n (.int .u64 0):=by simp[u64V]
theorem rpV_app (a b:List RP):rpV (a++b)=rpV a++rpV b:=by simp[rpV,rqV]
theorem take_rd2 {W:World}{size:Nat}{ao:Option Addr}{n cap:Nat}{xs:List Value}(h:Rd W size ao n cap xs)(k:Nat)(hk:k≤n):Rd W size ao k cap (xs.take (k*size)):=by
 obtain⟨h1,h2,h3,h4,h5⟩:=h
 have hks:k*size≤n*size:=Nat.mul_le_mul_right _ hk
 refine⟨by rw[List.length_take,h1];omega,by omega,h3,h4,fun h0 a ha=>?_⟩
 obtain⟨e,lt,c⟩:=h5 h0 a ha
 refine⟨e,lt,fun j u hu=>c j u ?_⟩
 rw[List.getElem?_take] at hu
 split at hu
 ·exact hu
 cases hu
theorem lgAt_take {W:World}{ao:Option Addr}{n cap:Nat}{p:RP}(h:LgAt W ao n cap (List.replicate n p))(k:Nat)(hk:k≤n):LgAt W ao k cap (List.replicate k p):=by
 have h1:=take_rd2 h.r k hk
 have e:rpV (List.replicate n p)=rpV (List.replicate k p)++rpV (List.replicate (n-k) p):=by
  rw[←rpV_app,List.replicate_append_replicate,show k+(n-k)=n from by omega]
 rw[e,List.take_left' (by rw[rpV_len,List.length_replicate])] at h1
 refine⟨h1,fun q hq=>?_⟩
 have hq2:=List.eq_of_mem_replicate hq
 subst hq2
 by_cases h0:n=0
 ·have hk0:k=0:=by omega
  subst hk0
  exact absurd hq (by simp)
 exact h.each q (List.mem_replicate.2 ⟨h0,rfl⟩)
theorem zz:(0:Int)≤0∧(0:Int)<18446744073709551616:=by decide
theorem bareU (k fr:Int):U64M { bareM k with fr:=fr } bareC:=⟨zz,zz,zz,zz,zz,zz,zz,zz,⟨zz.1,zz.2,zz.1,zz.2⟩,fun _ h=>absurd h List.not_mem_nil,fun _ h=>absurd h List.not_mem_nil⟩
theorem bareF:∀_:mayRes zeroQ ⟨[],[]⟩=true,(resL zeroQ ⟨[],[]⟩).length≤4194304:=fun _=>by
 rw[resL_len]
 show 29+0+0≤4194304
 omega
set_option maxRecDepth 100000 in
theorem get_any (fr:Int)(w:World):Calls Tryz.prog 36 #[.int .i64 fr] w (GivesB (decide (0≤fr)&&decide (fr<7)) w):=by
 have B:=bareM_at w 11
 have hm:=mayMsg_any (getM fr) bareC w ⟨B.rq,B.rs,B.sn,B.lg,B.se,B.ls,B.lh⟩ (bareU 11 fr) ⟨shortQ_of (Nat.zero_le _),bareF,fun _=>Nat.zero_le _⟩
 rw[may_get] at hm
 generalize (decide (0≤fr)&&decide (fr<7))=b at *
 unfold getM bareM zeroR zeroQ zeroV MV.val MV.cells at hm
 dsimp only at hm
 clear B
 go_enter Tryz.func36,Tryz.ntmps36
 go_wp2_with fail
 refine hm.mono ?_
 rintro e W1 ⟨rfl,hb1⟩
 go_wp2_with fail
 go_ret
 exact⟨rfl,hb1⟩
set_option maxRecDepth 100000 in
theorem seen_any (n:Nat)(w:World)(hn:n≤100):Calls Tryz.prog 38 #[.int .i64 (n:Int)] w (GivesB (decide (n≤7)) w):=by
 have hmk:(Instr.makeSlice 57 (.int .i64 (n:Int)) (.int .i64 (n:Int))).run Tryz.prog w=.ok (.slice (some ⟨w.heap.size,0,none⟩) n n) (w.alloc (.cells (madeCells #[.int .u64 0] n) 22)):=run_make_row' (P:=Tryz.prog) 57 22 (.int .u64 0) 8 rfl (by kernel_rfl) rfl .i64 .i64 n (by omega) (by omega) w
 have hb0:Below w.heap.size w (w.alloc (.cells (madeCells #[.int .u64 0] n) 22)):=(Below.refl _ _).alloc (Nat.le_refl _) _
 have B:=bareM_at (w.alloc (.cells (madeCells #[.int .u64 0] n) 22)) 6
 have U:=bareU 6 0
 have hm:=mayMsg_any (seenM (some ⟨w.heap.size,0,none⟩) n n) (seenC n) (w.alloc (.cells (madeCells #[.int .u64 0] n) 22)) ⟨B.rq,B.rs,B.sn,B.lg,by rw[show (seenC n).seen=List.replicate n 0 from rfl,u64V_rep];exact made_rd w _ _ n (by omega),B.ls,by show n≤1000000000;omega⟩ ⟨U.vi,U.no,U.cl,U.nu,U.at_,U.cm,U.bs,U.nc,U.rq,U.log,fun x hx=>by rw[List.eq_of_mem_replicate hx];decide⟩ ⟨shortQ_of (Nat.zero_le _),bareF,fun _=>Nat.zero_le _⟩
 rw[may_seen _ _ _ hn] at hm
 generalize (decide (n≤7))=b at *
 unfold seenM bareM zeroR zeroQ zeroV MV.val MV.cells at hm
 dsimp only at hm
 clear B U
 go_enter Tryz.func38,Tryz.ntmps38
 go_wp2_with fail
 refine hm.mono ?_
 rintro e W1 ⟨rfl,hb1⟩
 have hbel:=hb0.trans (hb1.mono hb0.size)
 go_wp2_with fail
 go_ret
 exact⟨rfl,hbel⟩
def pageV (n:Int)(co:Option Addr)(cn cc:Nat):OV:={ zeroV with k:=8,n:=n,co:=co,cn:=cn,cc:=cc }
set_option maxRecDepth 100000 in
theorem page_any (n:Int)(cn:Nat)(b:Bool)(w:World)(hc:cn≤10000)(hb:∀co,mayOp (pageV n co cn cn) ⟨[],[],List.replicate cn 0⟩=b):Calls Tryz.prog 39 #[.int .i64 n,.int .i64 (cn:Int)] w (GivesB b w):=by
 have hmk:(Instr.makeSlice 34 (.int .i64 (cn:Int)) (.int .i64 (cn:Int))).run Tryz.prog w=.ok (.slice (some ⟨w.heap.size,0,none⟩) cn cn) (w.alloc (.cells (madeCells #[.int .u8 0] cn) 5)):=run_make_row' (P:=Tryz.prog) 34 5 (.int .u8 0) 1 rfl (by kernel_rfl) rfl .i64 .i64 cn (by omega) (by omega) w
 have hb0:Below w.heap.size w (w.alloc (.cells (madeCells #[.int .u8 0] cn) 5)):=(Below.refl _ _).alloc (Nat.le_refl _) _
 have ho:OpAt (w.alloc (.cells (madeCells #[.int .u8 0] cn) 5)) (pageV n (some ⟨w.heap.size,0,none⟩) cn cn) ⟨[],[],List.replicate cn 0⟩:=⟨Rd.nil _ _,Rd.nil _ _,by show Rd _ 1 _ _ _ (byV (List.replicate cn 0));rw[byV_rep];exact made_rd w _ _ cn (by omega),Nat.zero_le _,Nat.zero_le _,by show cn≤1000000000;omega⟩
 have hm:=(opC_all _ _ _ ho).may _ ho
 rw[hb] at hm
 unfold pageV zeroV OV.val at hm
 dsimp only at hm
 clear ho hb
 go_enter Tryz.func39,Tryz.ntmps39
 go_wp2_with fail
 refine hm.mono ?_
 rintro e W1 ⟨rfl,hb1⟩
 have hbel:=hb0.trans (hb1.mono hb0.size)
 go_wp2_with fail
 go_ret
 exact⟨rfl,hbel⟩
set_option maxRecDepth 100000 in
theorem state_any (g lb cap n sn:Nat)(w:World)(hcell:w.cell? ⟨g,0,none⟩=some (.slice (some ⟨lb,0,none⟩) 4097 cap))(hl:LgAt w (some ⟨lb,0,none⟩) 4097 cap (List.replicate 4097 (lookV,lookC)))(hn:n≤4097)(hs:sn≤5000000):Calls Tryz.prog 37 #[.int .i64 (n:Int),.int .i64 (sn:Int),.pointer (some ⟨g,0,none⟩)] w (GivesB (decide (n≤4096)&&decide (sn≤4194304)) w):=by
 have hcap:=hl.r.le
 have hmo:Tryz.prog.follows .mixedOrders=true:=by kernel_rfl
 go_enter Tryz.func37,Tryz.ntmps37
 go_upto_region 1 with fail
 refine wp_region_held (S:=fun W=>W.cell? ⟨g,0,none⟩=some (.slice (some ⟨lb,0,none⟩) 4097 cap)) hmo ?_
 change wpAnyH _ _ _ _ _ _ _ _ (World.drew w)
 have hd:Below w.heap.size w w.drew:=(Below.refl _ _).drew
 have s0:(World.drew w).cell? ⟨g,0,none⟩=some (.slice (some ⟨lb,0,none⟩) 4097 cap):=hcell
 have hl0:=hl.later hd
 generalize World.drew w=X0 at *
 have hmk:(Instr.makeSlice 34 (.int .i64 (sn:Int)) (.int .i64 (sn:Int))).run Tryz.prog X0=.ok (.slice (some ⟨X0.heap.size,0,none⟩) sn sn) (X0.alloc (.cells (madeCells #[.int .u8 0] sn) 5)):=run_make_row' (P:=Tryz.prog) 34 5 (.int .u8 0) 1 rfl (by kernel_rfl) rfl .i64 .i64 sn (by omega) (by omega) X0
 have f0:(0:Int)≤(n:Int):=by omega
 have f1:(n:Int)≤(cap:Int):=by omega
 have f2:¬cap=0:=by omega
 refine zHa 0 (.slice (some ⟨lb,0,none⟩) 4097 cap) rfl (by rintro w2 h2;go_simp) s0 ?_
 go_simp
 refine zHp 1 (.int .i64 (n:Int)) rfl s0 ?_
 go_simp
 refine zHa 2 (.slice (some ⟨lb,0,none⟩) n cap) rfl (by rintro w2 h2;go_simp) s0 ?_
 go_simp
 refine zHp 3 (.int .i64 (sn:Int)) rfl s0 ?_
 go_simp
 refine zH1 4 rfl (fun K hK=>?_)
 go_simp
 have hb1:Below X0.heap.size X0 (X0.alloc (.cells (madeCells #[.int .u8 0] sn) 5)):=(Below.refl _ _).alloc (Nat.le_refl _) _
 have r1:=made_rd X0 (.int .u8 0) 5 sn (by omega)
 have hl1:=lgAt_take (hl0.later hb1) n hn
 have hlt:g<X0.heap.size:=World.block_lt_of_cell? X0 _ s0
 have s1:(X0.alloc (.cells (madeCells #[.int .u8 0] sn) 5)).cell? ⟨g,0,none⟩=some (.slice (some ⟨lb,0,none⟩) 4097 cap):=(World.cell?_alloc_lt _ _ _ hlt).trans s0
 have hbel1:=hd.trans (hb1.mono hd.size)
 have ea:X0.heap.size=X0.heap.size:=rfl
 revert hK
 generalize X0.alloc (.cells (madeCells #[.int .u8 0] sn) 5)=X1 at *
 intro hK
 refine hK _ _ ⟨s1,?_⟩
 clear hK K hmk
 have B:=bareM_at X1 12
 have U:=bareU 12 0
 have hm:=mayMsg_any (stateM (some ⟨lb,0,none⟩) n cap (some ⟨X0.heap.size,0,none⟩) sn sn) (stateC n sn) X1 ⟨B.rq,B.rs,by rw[show (stateC n sn).snap=List.replicate sn 0 from rfl,byV_rep];exact r1,hl1,B.se,by show sn≤1000000000;omega,B.lh⟩ ⟨U.vi,U.no,U.cl,U.nu,U.at_,U.cm,U.bs,U.nc,U.rq,fun x hx=>by rw[List.eq_of_mem_replicate hx];exact⟨zz.1,zz.2,zz.1,zz.2⟩,U.seen⟩ ⟨shortQ_of (Nat.zero_le _),bareF,fun _=>by rw[show (stateC n sn).log=List.replicate n (lookV,lookC) from rfl,logB_rep];omega⟩
 rw[may_state _ _ _ _ _ _ (by omega)] at hm
 generalize (decide (n≤4096)&&decide (sn≤4194304))=b at *
 generalize X0.heap.size=sb at *
 unfold stateM bareM zeroR zeroQ zeroV MV.val MV.cells at hm
 dsimp only at hm
 clear B U
 refine zHp 5 (.agg (MV.cells (stateM (some ⟨lb,0,none⟩) n cap (some ⟨sb,0,none⟩) sn sn))) rfl s1 ?_
 unfold stateM bareM zeroR zeroQ zeroV MV.cells
 dsimp only
 go_simp
 refine zH1 6 rfl (fun K hK=>?_)
 go_simp
 refine hm.mono ?_
 rintro e W1 ⟨rfl,hb2⟩
 have s2:W1.cell? ⟨g,0,none⟩=some (.slice (some ⟨lb,0,none⟩) 4097 cap):=(World.cell?_of_block (hb2.block g (World.block_lt_of_cell? X1 _ s1))).trans s1
 have hbel:=hbel1.trans (hb2.mono hbel1.size)
 go_simp
 refine hK _ _ ⟨s2,?_⟩
 clear hK K hm
 refine zH1 7 rfl (fun K hK=>?_)
 go_simp
 refine hK _ _ ⟨s2,?_⟩
 clear hK K
 refine wpAnyH_done (by kernel_rfl) ?_ _
 go_wp2_with fail
 go_ret
 exact⟨rfl,hbel⟩
end Go.Proofs.YtfmmandlmbcncaaGreatDoor.Msg
