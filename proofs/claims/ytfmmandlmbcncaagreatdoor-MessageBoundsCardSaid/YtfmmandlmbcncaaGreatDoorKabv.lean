/-
  A part of the proof.
-/
import Derived.WalkKit
import Derived.LaidEql
import Derived.Stop.Asserts
import Derived.RowKitTokens
import Derived.Test.YtfmmandlmbcncaaGreatDoorProg
import Derived.Test.YtfmmandlmbcncaaGreatDoorKabs
import Derived.Test.YtfmmandlmbcncaaGreatDoorKabu
set_option maxHeartbeats 40000000
namespace Go.Proofs.YtfmmandlmbcncaaGreatDoor.Err
open Go.RowKit Go.Extern.Stop Go.Stop Go.Extern
theorem isTypeOf (v:Value)(w:World):(Extern.ReflectliteType.typeOf #[.iface 27 v]).run Tryz.prog w=.ok (.iface 187 (.agg #[.pointer (some ⟨2,27,none⟩)])) w:=by kernel_rfl
theorem isComparable (w : World) : ((Extern.ReflectliteType.method fun t => do Extern.Rtype.noPackHeld "Comparable" t; (fun a => Value.bool a.comparable) <$> typeInfo t) #[.agg #[.pointer (some ⟨2, 27, none⟩)]]).run Tryz.prog w = .ok (.bool true) w := by kernel_rfl
theorem isMethodComparable (v : Value)(w : World) : (Go.method 420 187 v "Comparable").run Tryz.prog w = .ok (272, v) w := by kernel_rfl
theorem noIsE (v:Value)(xT:TypeId)(w:World):(Instr.typeAssert (.iface 27 v) xT 199 true).run Tryz.prog w=.ok (.tuple #[.nilIface,.bool false]) w:=run_typeAssert_lacksB Tryz.underlying199 (by kernel_rfl) (by kernel_rfl) v xT w
theorem noUnwrapE (v:Value)(xT:TypeId)(w:World):(Instr.typeAssert (.iface 27 v) xT 194 true).run Tryz.prog w=.ok (.tuple #[.nilIface,.bool false]) w:=run_typeAssert_lacksB Tryz.underlying194 (by kernel_rfl) (by kernel_rfl) v xT w
theorem noUnwrapsE (v:Value)(xT:TypeId)(w:World):(Instr.typeAssert (.iface 27 v) xT 196 true).run Tryz.prog w=.ok (.tuple #[.nilIface,.bool false]) w:=run_typeAssert_lacksB Tryz.underlying196 (by kernel_rfl) (by kernel_rfl) v xT w
theorem noIsM (v:Value)(xT:TypeId)(w:World):(Instr.typeAssert (.iface 82 v) xT 199 true).run Tryz.prog w=.ok (.tuple #[.nilIface,.bool false]) w:=run_typeAssert_lacksB Tryz.underlying199 (by kernel_rfl) (by kernel_rfl) v xT w
theorem hasUnwrapM (v:Value)(xT:TypeId)(w:World):(Instr.typeAssert (.iface 82 v) xT 194 true).run Tryz.prog w=.ok (.tuple #[.iface 82 v,.bool true]) w:=run_typeAssert_hasB Tryz.underlying194 (by kernel_rfl) v xT w
theorem methodUnwrap (v : Value)(w : World) : (Go.method 420 82 v "Unwrap").run Tryz.prog w = .ok (266, v) w := by kernel_rfl
theorem isComp:(Tryz.prog.info? 27).map (·.comparable)=some true:=by kernel_rfl
set_option maxRecDepth 100000 in
theorem is_msg (p:Nat)(why z:Int)(w:World)(h:w.cell? ⟨p,1,none⟩=some (.int .i64 why)):Calls Tryz.prog 35 #[.iface 82 (.pointer (some ⟨p,0,none⟩)),.iface 27 (.int .i64 z)] w fun e w'=>e=.returned (.bool (decide (why=z)))∧w'=w:=by
 have h8:=@run_callFunc_extern Tryz.prog 69 _ Extern.ReflectliteType.typeOf Tryz.func69 (by kernel_rfl) (by kernel_rfl) (by kernel_rfl) (by kernel_rfl)
 have h32 := @run_callFunc_extern Tryz.prog 272 _ (Extern.ReflectliteType.method fun t => do Extern.Rtype.noPackHeld "Comparable" t; pure (.bool (← typeInfo t).comparable)) Tryz.func272 (by kernel_rfl) (by kernel_rfl) (by kernel_rfl) (by kernel_rfl)
 have tT:=isTypeOf
 have cT:=isComparable
 have mR:=isMethodComparable
 have nE:=noIsE
 have uE:=noUnwrapE
 have vE:=noUnwrapsE
 have nM:=noIsM
 have uM:=hasUnwrapM
 have mU:=methodUnwrap
 have hty:=run_eql_iface_types (P:=Tryz.prog) 82 27 (.pointer (some ⟨p,0,none⟩)) (.int .i64 z) Tryz.underlying80 (by decide) w
 have heq:(binOp .eql 80 (.iface 27 (.int .i64 why)) (.iface 27 (.int .i64 z))).run Tryz.prog w=.ok (.bool (decide (why=z))) w:=by
  obtain⟨i,hi,hc⟩:=Option.map_eq_some_iff.1 isComp
  have hin:∀d:Nat,(Op.equalIn (d+2) 80 (.iface 27 (.int .i64 why)) (.iface 27 (.int .i64 z))).run Tryz.prog w=.ok (decide (why=z)) w:=fun d=>by
   simp[Op.equalIn,run_underlying Tryz.underlying80,run_underlying Tryz.underlying27,typeInfo,hi,hc,Result.andThen]
   by_cases e:why=z<;>simp[e]
  simp only[binOp]
  simp[Op.equal,Op.maxDepth,hin 9998,Result.andThen]
 by_cases e:why=z
 ·rw[decide_eq_true e] at heq ⊢
  clear e
  go_enter Tryz.func35,Tryz.ntmps35
  go_wp2
  refine wp_loop_rounds 2 ?_
  rw[rounds_succ]
  go_wp2
  rw[rounds_succ]
  go_wp2
  go_ret
  exact⟨rfl,rfl⟩
 rw[decide_eq_false e] at heq ⊢
 clear e
 go_enter Tryz.func35,Tryz.ntmps35
 go_wp2
 refine wp_loop_rounds 2 ?_
 rw[rounds_succ]
 go_wp2
 rw[rounds_succ]
 go_wp2
 go_ret
 exact⟨rfl,rfl⟩
end Go.Proofs.YtfmmandlmbcncaaGreatDoor.Err
namespace Go.Proofs.YtfmmandlmbcncaaGreatDoor.Msg
open Go.RowKit Go.Lib Go.Proofs.YtfmmandlmbcncaaGreatDoor.Mem Go.Proofs.YtfmmandlmbcncaaGreatDoor.Tlv
def GivesWr (what:ByteArray)(why:Int)(w:World)(e:Ending)(w':World):Prop:=∃p:Nat,e=.returned (.tuple #[(bareM 0).val,.iface 82 (.pointer (some ⟨p,0,none⟩))])∧Below w.heap.size w w'∧w.heap.size≤p∧w'.heap[p]?=some (.cells #[.string what,.int .i64 why] 87)
set_option maxRecDepth 100000 in
theorem wrong_any (what:ByteArray)(why:Int)(w:World):Calls Tryz.prog 109 #[.string what,.int .i64 why] w (GivesWr what why w):=by
 have hb0:Below w.heap.size w (w.alloc (bareM 0).box):=(Below.refl _ _).alloc (Nat.le_refl _) _
 have k0:(w.alloc (bareM 0).box).heap[w.heap.size]?=some (bareM 0).box:=at_new _ _
 unfold bareM zeroR zeroQ zeroV MV.box MV.cells at hb0 k0
 dsimp only at hb0 k0
 go_enter Tryz.func109,Tryz.ntmps109
 go_upto_region 1 with fail
 generalize hg:w.alloc _=W0 at *
 have k0f:W0.heap[w.heap.size]?=some (bareM 0).box:=k0
 clear hg k0
 have hz0:=hid (Array.getElem?_eq_some_iff.1 k0f).1
 have hb1:Below W0.heap.size W0 (W0.alloc (.cells #[.string what,.int .i64 why] 87)):=(Below.refl _ _).alloc (Nat.le_refl _) _
 have q1:(W0.alloc (.cells #[.string what,.int .i64 why] 87)).heap[W0.heap.size]?=some (.cells #[.string what,.int .i64 why] 87):=at_new _ _
 have k1:=mbox_step k0f hb1
 have bel:=hb0.trans (hb1.mono hb0.size)
 have hne:W0.heap.size≠w.heap.size:=by have:=hz0.out;omega
 have f1:((W0.alloc (.cells #[.string what,.int .i64 why] 87)).setRow w.heap.size (bareM 0).cells).heap[w.heap.size]?=some (.cells (bareM 0).cells 59):=setRow_at' k1
 have f2:=below_setRow bel (Nat.le_refl _) (bareM 0).cells
 have f3:=(setRow_other (W0.alloc (.cells #[.string what,.int .i64 why] 87)) w.heap.size W0.heap.size (bareM 0).cells hne).trans q1
 have hle:w.heap.size≤W0.heap.size:=hb0.size
 go_wp2_with (refine wpList_store_row k1 rfl rfl rfl rfl (by kernel_rfl) rfl (by kernel_rfl) ?_;go_simp)
 exact bodyPost_ret (w:=(W0.alloc (.cells #[.string what,.int .i64 why] 87)).setRow w.heap.size (bareM 0).cells) (results_row2 (i:=4) (j:=5) (t:=59) rfl rfl rfl (by kernel_rfl) (by kernel_rfl) f1) rfl ⟨_,rfl,f2,hle,f3⟩
set_option maxRecDepth 100000 in
theorem read_long (ao:Option Addr)(n cap:Nat)(w:World)(hn:8388608<n)(hc:n≤1000000000):Calls Tryz.prog 62 #[.slice ao n cap] w (GivesWr ⟨#[108,101,110,103,116,104]⟩ 3 w):=by
 have f0:decide ((8388608:Int)<(n:Int))=true:=decide_eq_true (by omega)
 have hb0:Below w.heap.size w (w.alloc (bareM 0).box):=(Below.refl _ _).alloc (Nat.le_refl _) _
 have k0:(w.alloc (bareM 0).box).heap[w.heap.size]?=some (bareM 0).box:=at_new _ _
 unfold bareM zeroR zeroQ zeroV MV.box MV.cells at hb0 k0
 dsimp only at hb0 k0
 clear hn
 go_enter Tryz.func62,Tryz.ntmps62
 go_upto_region 1 with fail
 generalize hg:w.alloc _=W0 at *
 have k0f:W0.heap[w.heap.size]?=some (bareM 0).box:=k0
 have hlt:=hid (Array.getElem?_eq_some_iff.1 k0f).1
 clear hg k0
 go_wp2_with fail
 refine (wrong_any _ 3 W0).mono ?_
 rintro e W1 ⟨p,rfl,hb1,hp,q1⟩
 have k1:=mbox_step k0f hb1
 have bel:=hb0.trans (hb1.mono hb0.size)
 have f1:(W1.setRow w.heap.size (bareM 0).cells).heap[w.heap.size]?=some (.cells (bareM 0).cells 59):=setRow_at' k1
 have f2:=below_setRow bel (Nat.le_refl _) (bareM 0).cells
 have f3:=(setRow_other W1 w.heap.size p (bareM 0).cells (by have:=hlt.out;omega)).trans q1
 have hle:w.heap.size≤p:=Nat.le_trans hb0.size hp
 unfold MV.val MV.cells
 go_wp2_with (refine wpList_store_row k1 rfl rfl rfl rfl (by kernel_rfl) rfl (by kernel_rfl) ?_;go_simp)
 exact bodyPost_ret (w:=W1.setRow w.heap.size (bareM 0).cells) (results_row2 (i:=2) (j:=3) (t:=59) rfl rfl rfl (by kernel_rfl) (by kernel_rfl) f1) rfl ⟨p,rfl,f2,hle,f3⟩
def GivesEr (why:Int)(w:World)(e:Ending)(w':World):Prop:=∃p:Nat,e=.returned (.iface 82 (.pointer (some ⟨p,0,none⟩)))∧Below w.heap.size w w'∧w'.cell? ⟨p,1,none⟩=some (.int .i64 why)
set_option maxRecDepth 100000 in
theorem check_long (ao:Option Addr)(n cap:Nat)(w:World)(hn:8388608<n)(hc:n≤1000000000):Calls Tryz.prog 33 #[.slice ao n cap] w (GivesEr 3 w):=by
 go_enter Tryz.func33,Tryz.ntmps33
 go_wp2_with fail
 refine (read_long ao n cap w hn hc).mono ?_
 rintro e W1 ⟨p,rfl,hb1,hp,q1⟩
 unfold MV.val MV.cells
 go_upto_region 2 with (refine wpList_store_new rfl rfl rfl rfl (by kernel_rfl) rfl (by kernel_rfl) ?_;go_simp)
 generalize hg:W1.alloc _=W2
 have hb2:Below W1.heap.size W1 W2:=by rw[←hg];exact (Below.refl _ _).alloc (Nat.le_refl _) _
 have q2:=(hb2.block _ (Array.getElem?_eq_some_iff.1 q1).1).trans q1
 have c1:W2.cell? ⟨p,1,none⟩=some (.int .i64 3):=by simp[World.cell?,q2]
 have bel:=hb1.trans (hb2.mono hb1.size)
 clear hg hb1 hb2 q1 q2
 go_wp2_with fail
 go_ret
 exact⟨p,rfl,bel,c1⟩
set_option maxRecDepth 100000 in
theorem of_long (ao:Option Addr)(n cap:Nat)(w:World)(hn:8388608<n)(hc:n≤1000000000):Calls Tryz.prog 29 #[.slice ao n cap] w (fun e w'=>e=.returned (.tuple #[(bareM 0).val,.int .i64 3])∧Below w.heap.size w w'):=by
 have hb0:Below w.heap.size w (w.alloc (bareM 0).box):=(Below.refl _ _).alloc (Nat.le_refl _) _
 have k0:(w.alloc (bareM 0).box).heap[w.heap.size]?=some (bareM 0).box:=at_new _ _
 unfold bareM zeroR zeroQ zeroV MV.box MV.cells at hb0 k0
 dsimp only at hb0 k0
 go_enter Tryz.func29,Tryz.ntmps29
 go_upto_region 1 with fail
 generalize hg:w.alloc _=W0 at *
 have k0f:W0.heap[w.heap.size]?=some (bareM 0).box:=k0
 clear hg k0
 go_wp2_with fail
 refine (read_long ao n cap W0 hn hc).mono ?_
 rintro e W1 ⟨p,rfl,hb1,hp,q1⟩
 have k1:=mbox_step k0f hb1
 have bel1:=hb0.trans (hb1.mono hb0.size)
 clear hb0 hb1 k0f hp
 unfold MV.val MV.cells
 go_upto_region 2 with (refine wpList_store_new rfl rfl rfl rfl (by kernel_rfl) rfl (by kernel_rfl) ?_;go_simp)
 generalize hg:W1.alloc _=W2
 have hb2:Below W1.heap.size W1 W2:=by rw[←hg];exact (Below.refl _ _).alloc (Nat.le_refl _) _
 have k2:=mbox_step k1 hb2
 have q2:=(hb2.block _ (Array.getElem?_eq_some_iff.1 q1).1).trans q1
 have bel2:=bel1.trans (hb2.mono bel1.size)
 clear hg hb2 k1 q1 bel1
 go_upto_region 3 with fail
 generalize hg:W2.alloc _=W3
 have hb3:Below W2.heap.size W2 W3:=by rw[←hg];exact (Below.refl _ _).alloc (Nat.le_refl _) _
 have k3:=mbox_step k2 hb3
 have q3:=(hb3.block _ (Array.getElem?_eq_some_iff.1 q2).1).trans q2
 have c1:W3.cell? ⟨p,1,none⟩=some (.int .i64 3):=by simp[World.cell?,q3]
 have bel3:=bel2.trans (hb3.mono bel2.size)
 clear hg hb3 k2 q2 bel2 q3
 have f1:(W3.setRow w.heap.size (bareM 0).cells).heap[w.heap.size]?=some (.cells (bareM 0).cells 59):=setRow_at' k3
 have f2:=below_setRow bel3 (Nat.le_refl _) (bareM 0).cells
 go_wp2_with fail
 refine (Err.is_msg p 3 3 W3 c1).mono ?_
 rintro e W4 ⟨rfl,rfl⟩
 go_wp2_with (refine wpList_store_row k3 rfl rfl rfl rfl (by kernel_rfl) rfl (by kernel_rfl) ?_;go_simp)
 exact bodyPost_ret (w:=W4.setRow w.heap.size (bareM 0).cells) (results_row2 (i:=2) (j:=3) (t:=59) rfl rfl rfl (by kernel_rfl) (by kernel_rfl) f1) rfl ⟨rfl,f2⟩
end Go.Proofs.YtfmmandlmbcncaaGreatDoor.Msg
