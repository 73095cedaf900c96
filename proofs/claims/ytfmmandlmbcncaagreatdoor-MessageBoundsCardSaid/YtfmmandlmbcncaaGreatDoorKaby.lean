/-
  A part of the proof.
-/
import Derived.Test.YtfmmandlmbcncaaGreatDoorKabv
import Derived.Test.YtfmmandlmbcncaaGreatDoorKabx
import Derived.Test.YtfmmandlmbcncaaGreatDoorKaay
set_option maxHeartbeats 40000000
namespace Go.Proofs.YtfmmandlmbcncaaGreatDoor.Msg
open Go.RowKit Go.Lib Go.Proofs.YtfmmandlmbcncaaGreatDoor.Mem Go.Proofs.YtfmmandlmbcncaaGreatDoor.Tlv
theorem sliceT_rq:SliceT Tryz.prog 56 55 zeroR.val 9 136:=⟨Tryz.underlying56,by kernel_rfl,rfl,by decide⟩
structure BdAt (w:World)(lv:Value)(k:Nat)(W:World):Prop where
 q:W.heap[w.heap.size]?=some lookV.box
 l:W.heap[w.heap.size+1]?=some (.cells #[lv] 56)
 own:W.ownsRow (w.heap.size+2) 55 9 lv k (rpV (List.replicate k (lookV,lookC)))
 bel:Below w.heap.size w W
structure BdE (w:World)(lb cap:Nat)(W:World):Prop where
 l:W.heap[w.heap.size+1]?=some (.cells #[.slice (some ⟨lb,0,none⟩) 4097 cap] 56)
 lg:LgAt W (some ⟨lb,0,none⟩) 4097 cap (List.replicate 4097 (lookV,lookC))
 bel:Below w.heap.size w W
theorem BdE.step {w W W':World}{lb cap:Nat}(h:BdE w lb cap W)(hb:Below W.heap.size W W'):BdE w lb cap W':=⟨(hb.block _ (Array.getElem?_eq_some_iff.1 h.l).1).trans h.l,h.lg.later hb,h.bel.trans (hb.mono h.bel.size)⟩
theorem BdE.cell {w W:World}{lb cap:Nat}(h:BdE w lb cap W):W.cell? ⟨w.heap.size+1,0,none⟩=some (.slice (some ⟨lb,0,none⟩) 4097 cap):=by simp[World.cell?,h.l]
theorem BdAt.out {w W:World}{lv:Value}(h:BdAt w lv 4097 W):∃lb cap,lv=.slice (some ⟨lb,0,none⟩) 4097 cap∧BdE w lb cap W:=by
 obtain⟨ao,cap,rfl,hr⟩:=Rd.of_own h.own
 have h2:=h.own.2
 rcases h2 with ⟨h2,h3⟩ | ⟨g,cap',cur,h2,-⟩
 ·omega
 obtain⟨e1,_,e2⟩:=Value.slice.inj h2
 subst e1;subst e2
 refine⟨g,cap,rfl,h.l,⟨hr,fun p hp=>?_⟩,h.bel⟩
 rw[List.eq_of_mem_replicate hp]
 exact⟨Rd.nil _ _,Rd.nil _ _,Rd.nil _ _,Nat.zero_le _,Nat.zero_le _,Nat.zero_le _⟩
set_option maxRecDepth 100000 in
theorem make_long (n:Nat)(h:n≤1000000000)(w:World):(Instr.makeSlice 34 (.int .i64 (n:Int)) (.int .i64 (n:Int))).run Tryz.prog w=.ok (.slice (some ⟨w.heap.size,0,none⟩) n n) (w.alloc (.cells (madeCells #[.int .u8 0] n) 5)):=run_make_row' (P:=Tryz.prog) 34 5 (.int .u8 0) 1 rfl (by kernel_rfl) rfl .i64 .i64 n (by omega) (by omega) w
theorem page_may (n:Int)(cn:Nat)(co:Option Addr):mayOp (pageV n co cn cn) ⟨[],[],List.replicate cn 0⟩=(decide (0≤n)&&decide (n≤1000)&&decide (cn≤4000)):=by
 have e1:sameOp (pageV n co cn cn) ⟨[],[],List.replicate cn 0⟩ (keepL (fieldsOf (pageV n co cn cn).k) (pageV n co cn cn)) (keepC (fieldsOf (pageV n co cn cn).k) ⟨[],[],List.replicate cn 0⟩)=true:=decide_eq_true ⟨rfl,rfl,rfl,rfl,rfl,rfl,rfl⟩
 have e2:decide (fieldsOf (pageV n co cn cn).k≠[])=true:=decide_eq_true (show fieldsOf 8≠[] by decide)
 have e3:mayName (pageV n co cn cn).name=true:=show mayName ⟨#[]⟩=true by decide
 have e4:mayName (pageV n co cn cn).to=true:=show mayName ⟨#[]⟩=true by decide
 unfold mayOp mayOpA restOp
 rw[e1,e2,e3,e4,if_neg (show ¬(pageV n co cn cn).k=1 from show ¬(8:Int)=1 by decide),if_neg (show ¬(pageV n co cn cn).k=5 from show ¬(8:Int)=5 by decide)]
 show (true&&true&&true&&true&&true&&!false&&(true&&!false&&decide (cn≤4000)&&decide (0≤n)&&decide (n≤1000)))=_
 cases decide (cn≤4000)<;>cases decide (0≤n)<;>cases decide (n≤1000)<;>rfl
set_option maxRecDepth 100000 in
theorem bounds_any (w:World):Calls Tryz.prog 6 #[] w (GivesB true w):=by
 have hmf:∀(fn:Fn) (first cap:Array Value) (w:World),(Instr.makeFunc fn first cap).run Tryz.prog w=.ok (.func fn first cap) w:=fun _ _ _ _=>rfl
 have hmk:∀w:World,(Instr.makeSlice 34 (.int .i64 8388609) (.int .i64 8388609)).run Tryz.prog w=.ok (.slice (some ⟨w.heap.size,0,none⟩) 8388609 8388609) (w.alloc (.cells (madeCells #[.int .u8 0] 8388609) 5)):=make_long 8388609 (by decide)
 go_enter Tryz.func6,Tryz.ntmps6
 go_upto_region 3 with (refine wpList_store_new rfl rfl rfl rfl (by kernel_rfl) rfl (by kernel_rfl) ?_;go_simp)
 generalize hg:w.alloc _=W1
 have hb1:Below w.heap.size w W1:=by rw[←hg];exact (Below.refl _ _).alloc (Nat.le_refl _) _
 have q1:W1.heap[w.heap.size]?=some lookV.box:=by rw[←hg];show (w.heap.push _)[w.heap.size]?=some _;exact Array.getElem?_push_size
 have z1:W1.heap.size=w.heap.size+1:=by rw[←hg];simp
 clear hg
 go_upto_region 4 with fail
 generalize hg:W1.alloc _=W2
 have hb2:Below W1.heap.size W1 W2:=by rw[←hg];exact (Below.refl _ _).alloc (Nat.le_refl _) _
 have q2:=(hb2.block _ (Array.getElem?_eq_some_iff.1 q1).1).trans q1
 have l2:W2.heap[w.heap.size+1]?=some (.cells #[.slice none 0 0] 56):=by rw[←hg,←z1];show (W1.heap.push _)[W1.heap.size]?=some _;exact Array.getElem?_push_size
 have s2:BdAt w (.slice none 0 0) 0 W2:=⟨q2,l2,World.ownsRow_nil _ _ _ _,hb1.trans (hb2.mono hb1.size)⟩
 clear hg hb1 hb2 q1 q2 l2 z1
 go_upto_region 5 with fail
 go_loopw [4] (fun p wr=>∃(k:Nat) (lv:Value),k≤4097∧p=.int .i64 (k:Int)∧BdAt w lv k wr) (fun p _=>4097-(intOf p).toNat)
 case atStart=>exact⟨0,_,Nat.zero_le _,rfl,s2⟩
 case round=>
  obtain⟨k,lv,hk,rfl,hL⟩:=hrel
  clear s2
  by_cases hkn:k<4097
  ·have f1:decide ((k:Int)≤4096)=true:=decide_eq_true (by omega)
   have HKN:=hid hkn
   have q0:=hL.q
   have own:=hL.own
   have c0:wr.cell? ⟨w.heap.size+1,0,none⟩=some lv:=by simp[World.cell?,hL.l]
   have zw:w.heap.size+2≤wr.heap.size:=(Array.getElem?_eq_some_iff.1 hL.l).1
   have HL:=hid hL
   unfold RV.box RV.cells lookV zeroR zeroV at q0
   dsimp only at q0
   clear hL hkn
   go_wp2_with (first | (refine wpList_load_row (ty:=55) q0 rfl rfl rfl (by kernel_rfl) (by kernel_rfl) ?_;go_simp) | (at_builtin;refine wpList_lit3 _ rfl (.tmp 16) (.tmp 18) 56 rfl (w.heap.size+2) 55 zeroR.val 9 136 sliceT_rq (by decide) lv k _ rfl own 1 lookV.cells.toList rfl rfl (fun x hx=>by simp[RV.cells,lookV,zeroR,zeroV] at hx;rcases hx with rfl|rfl|rfl|rfl|rfl|rfl|rfl|rfl|rfl<;>rfl) zw (by omega) ?_;intro a4 k4 W4 own4 hg4 hb4 hnx;have l4:W4.heap[w.heap.size+1]?=some (.cells #[lv] 56):=(hb4.block _ (by omega)).trans HL.out.l;have d0:W4.cell? ⟨w.heap.size+1,0,none⟩=some lv:=(by simp[World.cell?,l4]);have d1:W4.frozen? ⟨w.heap.size+1,0,none⟩=false:=(by simp[World.frozen?,l4])))
   have l5:(W4.setCell ⟨w.heap.size+1,0,none⟩ (.slice a4 (k+1) k4)).heap[w.heap.size+1]?=some (.cells #[.slice a4 (k+1) k4] 56):=at_set l4
   have q5:(W4.setCell ⟨w.heap.size+1,0,none⟩ (.slice a4 (k+1) k4)).heap[w.heap.size]?=some lookV.box:=at_other ((hb4.block _ (by omega)).trans HL.out.q) (by omega)
   have b5:Below w.heap.size w (W4.setCell ⟨w.heap.size+1,0,none⟩ (.slice a4 (k+1) k4)):=(HL.out.bel.trans (hb4.mono (by omega))).setCell (by show w.heap.size≤w.heap.size+1;omega) _
   have o5:(W4.setCell ⟨w.heap.size+1,0,none⟩ (.slice a4 (k+1) k4)).ownsRow (w.heap.size+2) 55 9 (.slice a4 (k+1) k4) (k+1) (rpV (List.replicate (k+1) (lookV,lookC))):=by
    rw[List.replicate_succ',rpV_snoc]
    exact own_kept own4 (fun j hj=>Below.heap_setCell _ _ _ _ (by have:=(own_blk own4 hj).1;show j≠w.heap.size+1;omega))
   have s5:BdAt w (.slice a4 (k+1) k4) (k+1) (W4.setCell ⟨w.heap.size+1,0,none⟩ (.slice a4 (k+1) k4)):=⟨q5,l5,o5,b5⟩
   clear l4 d0 d1 l5 q5 b5 o5 own4 hg4 hb4 hnx q0 own c0 HL
   generalize W4.setCell _ _=W5 at *
   go_roundw
   case rel=>exact⟨k+1,_,HKN.out,by go_num,s5⟩
   case measure=>have:=HKN.out;simp[intOf];omega
  have hk2:k=4097:=by omega
  subst hk2
  obtain⟨lb,cap,rfl,s6⟩:=hL.out
  clear hL hkn hk
  go_upto_region 8 with fail
  go_upto_region 9 with fail
  go_upto_region 10 with fail
  go_wp2_with fail
  generalize hg:wr.alloc _=W7
  have hb7:Below wr.heap.size wr W7:=by rw[←hg];exact (Below.refl _ _).alloc (Nat.le_refl _) _
  have s7:=s6.step hb7
  clear hg hb7 s6
  refine (of_long _ _ _ W7 (by decide) (by decide)).mono ?_
  rintro e W8 ⟨rfl,hb8⟩
  have s8:=s7.step hb8
  clear hb8 s7
  unfold bareM zeroR zeroQ zeroV MV.val MV.cells
  dsimp only
  go_upto_region 11 with (refine wpList_store_new rfl rfl rfl rfl (by kernel_rfl) rfl (by kernel_rfl) ?_;go_simp)
  generalize hg:W8.alloc _=W9
  have hb9:Below W8.heap.size W8 W9:=by rw[←hg];exact (Below.refl _ _).alloc (Nat.le_refl _) _
  have s9:=s8.step hb9
  clear hg hb9 s8
  go_upto_region 12 with fail
  go_wp2_with fail
  have hc:=get_any 0 W9
  rw[show (decide ((0:Int)≤0)&&decide ((0:Int)<7))=true from by decide] at hc
  refine hc.mono ?_
  rintro e W10 ⟨rfl,hb⟩
  have s10:=s9.step hb
  clear hc hb s9
  go_wp2_with fail
  have hc:=get_any 6 W10
  rw[show (decide ((0:Int)≤6)&&decide ((6:Int)<7))=true from by decide] at hc
  refine hc.mono ?_
  rintro e W11 ⟨rfl,hb⟩
  have s11:=s10.step hb
  clear hc hb s10
  go_wp2_with fail
  have hc:=get_any 7 W11
  rw[show (decide ((0:Int)≤7)&&decide ((7:Int)<7))=false from by decide] at hc
  refine hc.mono ?_
  rintro e W12 ⟨rfl,hb⟩
  have s12:=s11.step hb
  clear hc hb s11
  go_wp2_with fail
  have hc:=get_any (-1) W12
  rw[show (decide ((0:Int)≤(-1))&&decide (((-1):Int)<7))=false from by decide] at hc
  refine hc.mono ?_
  rintro e W13 ⟨rfl,hb⟩
  have s13:=s12.step hb
  clear hc hb s12
  go_wp2_with fail
  have hc:=state_any (w.heap.size+1) lb cap 4096 0 W13 s13.cell s13.lg (by decide) (by decide)
  rw[show (decide (4096≤4096)&&decide (0≤4194304))=true from by decide] at hc
  refine hc.mono ?_
  rintro e W14 ⟨rfl,hb⟩
  have s14:=s13.step hb
  clear hc hb s13
  go_wp2_with fail
  have hc:=state_any (w.heap.size+1) lb cap 4097 0 W14 s14.cell s14.lg (by decide) (by decide)
  rw[show (decide (4097≤4096)&&decide (0≤4194304))=false from by decide] at hc
  refine hc.mono ?_
  rintro e W15 ⟨rfl,hb⟩
  have s15:=s14.step hb
  clear hc hb s14
  go_wp2_with fail
  have hc:=state_any (w.heap.size+1) lb cap 0 4194304 W15 s15.cell s15.lg (by decide) (by decide)
  rw[show (decide (0≤4096)&&decide (4194304≤4194304))=true from by decide] at hc
  refine hc.mono ?_
  rintro e W16 ⟨rfl,hb⟩
  have s16:=s15.step hb
  clear hc hb s15
  go_wp2_with fail
  have hc:=state_any (w.heap.size+1) lb cap 0 4194305 W16 s16.cell s16.lg (by decide) (by decide)
  rw[show (decide (0≤4096)&&decide (4194305≤4194304))=false from by decide] at hc
  refine hc.mono ?_
  rintro e W17 ⟨rfl,hb⟩
  have s17:=s16.step hb
  clear hc hb s16
  go_wp2_with fail
  have hc:=seen_any 7 W17 (by decide)
  rw[show decide (7≤7)=true from by decide] at hc
  refine hc.mono ?_
  rintro e W18 ⟨rfl,hb⟩
  have s18:=s17.step hb
  clear hc hb s17
  go_wp2_with fail
  have hc:=seen_any 8 W18 (by decide)
  rw[show decide (8≤7)=false from by decide] at hc
  refine hc.mono ?_
  rintro e W19 ⟨rfl,hb⟩
  have s19:=s18.step hb
  clear hc hb s18
  go_wp2_with fail
  refine (num_any 3 W19).mono ?_
  rintro e W20 ⟨rfl,rfl⟩
  go_wp2_with fail
  generalize hg:W19.alloc _=W20
  have hb:Below W19.heap.size W19 W20:=by rw[←hg];exact (Below.refl _ _).alloc (Nat.le_refl _) _
  have s20:=s19.step hb
  clear hg hb s19
  refine (check_long _ _ _ W20 (by decide) (by decide)).mono ?_
  rintro e W21 ⟨p,rfl,hb,cp⟩
  have s21:=s20.step hb
  clear hb s20
  go_wp2_with fail
  refine (Err.is_msg p 3 3 W21 cp).mono ?_
  rintro e W22 ⟨rfl,rfl⟩
  have s22:=s21
  go_wp2_with fail
  have hc:=page_any 1000 4000 _ W22 (by decide) (page_may 1000 4000)
  rw[show (decide ((0:Int)≤1000)&&decide ((1000:Int)≤1000)&&decide (4000≤4000))=true from by decide] at hc
  refine hc.mono ?_
  rintro e W23 ⟨rfl,hb⟩
  have s23:=s22.step hb
  clear hc hb s22
  go_wp2_with fail
  have hc:=page_any 1001 0 _ W23 (by decide) (page_may 1001 0)
  rw[show (decide ((0:Int)≤1001)&&decide ((1001:Int)≤1000)&&decide (0≤4000))=false from by decide] at hc
  refine hc.mono ?_
  rintro e W24 ⟨rfl,hb⟩
  have s24:=s23.step hb
  clear hc hb s23
  go_wp2_with fail
  have hc:=page_any 0 4001 _ W24 (by decide) (page_may 0 4001)
  rw[show (decide ((0:Int)≤0)&&decide ((0:Int)≤1000)&&decide (4001≤4000))=false from by decide] at hc
  refine hc.mono ?_
  rintro e W25 ⟨rfl,hb⟩
  have s25:=s24.step hb
  clear hc hb s24
  go_wp2_with fail
  have hc:=page_any (-1) 0 _ W25 (by decide) (page_may (-1) 0)
  rw[show (decide ((0:Int)≤(-1))&&decide (((-1):Int)≤1000)&&decide (0≤4000))=false from by decide] at hc
  refine hc.mono ?_
  rintro e W26 ⟨rfl,hb⟩
  have s26:=s25.step hb
  clear hc hb s25
  go_wp2_with fail
  refine (known_any W26).mono ?_
  rintro e W27 ⟨rfl,hb⟩
  have s27:=s26.step hb
  go_wp2_with fail
  go_ret
  exact⟨rfl,s27.bel⟩
end Go.Proofs.YtfmmandlmbcncaaGreatDoor.Msg
