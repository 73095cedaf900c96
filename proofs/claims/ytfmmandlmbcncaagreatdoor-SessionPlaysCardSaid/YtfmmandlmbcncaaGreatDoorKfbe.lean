/-A part of the proof.-/
import Derived.LaidEql
import Derived.Stop.Asserts
import Derived.RowKitTokens
import Derived.Test.YtfmmandlmbcncaaGreatDoorKfbd
import Derived.Test.YtfmmandlmbcncaaGreatDoorKfbc
set_option maxHeartbeats 40000000
set_option maxRecDepth 100000
set_option linter.all false
namespace Go.Proofs.YtfmmandlmbcncaaGreatDoor
namespace Err
open Go.RowKit Go.Extern.Stop Go.Stop Go.Extern
theorem rx {P:Program}(f:FuncId){fn:Func}(e:Array Value→Sem Value)(hf:P.funcs[f]?=some fn)(h1:(fn.name== "runtime.NumGoroutine")=false:=by kernel_rfl)(h2:fn.body.isNone=true:=by kernel_rfl)(h3:Extern.findNext fn=none:=by kernel_rfl)(h4:Extern.find fn=some e:=by kernel_rfl):∀(args:Array Value) (w:World),(callFunc f args).run P w=((e args).run P w).andThen fun v w'=>.ok (.value v) w':=run_callFunc_extern hf h1 h2 h3 h4
theorem isTypeOf (v:Value)(w:World):(Extern.ReflectliteType.typeOf #[.iface 27 v]).run Tryz.prog w=.ok (.iface 187 (.agg #[.pointer (some ⟨2,27,none⟩)])) w:=by kernel_rfl
theorem isComparable (w:World):((Extern.ReflectliteType.method fun t=>do Extern.Rtype.noPackHeld "Comparable" t;(fun a=>Value.bool a.comparable) <$> typeInfo t) #[.agg #[.pointer (some ⟨2,27,none⟩)]]).run Tryz.prog w=.ok (.bool true) w:=by kernel_rfl
theorem isMethodComparable (v:Value)(w:World):(Go.method 420 187 v "Comparable").run Tryz.prog w=.ok (272,v) w:=by kernel_rfl
theorem noIsE (v:Value)(xT:TypeId)(w:World):(Instr.typeAssert (.iface 27 v) xT 199 true).run Tryz.prog w=.ok (.tuple #[.nilIface,.bool false]) w:=run_typeAssert_lacksB Tryz.underlying199 (by kernel_rfl) (by kernel_rfl) v xT w
theorem noUnwrapE (v:Value)(xT:TypeId)(w:World):(Instr.typeAssert (.iface 27 v) xT 194 true).run Tryz.prog w=.ok (.tuple #[.nilIface,.bool false]) w:=run_typeAssert_lacksB Tryz.underlying194 (by kernel_rfl) (by kernel_rfl) v xT w
theorem noUnwrapsE (v:Value)(xT:TypeId)(w:World):(Instr.typeAssert (.iface 27 v) xT 196 true).run Tryz.prog w=.ok (.tuple #[.nilIface,.bool false]) w:=run_typeAssert_lacksB Tryz.underlying196 (by kernel_rfl) (by kernel_rfl) v xT w
theorem TE (v:Value)(xT:TypeId)(w:World):(Instr.typeAssert (.iface 82 v) xT 199 true).run Tryz.prog w=.ok (.tuple #[.nilIface,.bool false]) w:=run_typeAssert_lacksB Tryz.underlying199 (by kernel_rfl) (by kernel_rfl) v xT w
theorem Gi (v:Value)(xT:TypeId)(w:World):(Instr.typeAssert (.iface 82 v) xT 194 true).run Tryz.prog w=.ok (.tuple #[.iface 82 v,.bool true]) w:=run_typeAssert_hasB Tryz.underlying194 (by kernel_rfl) v xT w
theorem methodUnwrap (v:Value)(w:World):(Go.method 420 82 v "Unwrap").run Tryz.prog w=.ok (266,v) w:=by kernel_rfl
theorem is_nil (z:Int)(w:World):Calls Tryz.prog 35 #[.nilIface,.iface 27 (.int .i64 z)] w fun e w'=>e=.returned (.bool false)/\w'=w:=by
 have hn:=run_eql_iface_nil_left (P:=Tryz.prog) w 27 (.int .i64 z) Tryz.underlying80;go_in;go_wp2;go_ret;exact⟨rfl,rfl⟩
theorem isComp:(Tryz.prog.info? 27).map (·.comparable)=some true:=by kernel_rfl
theorem is_msg (p:Nat)(why z:Int)(w:World)(h:w.cell? ⟨p,1,none⟩=some (.int .i64 why)):Calls Tryz.prog 35 #[.iface 82 (.pointer (some ⟨p,0,none⟩)),.iface 27 (.int .i64 z)] w fun e w'=>e=.returned (.bool (decide (why=z)))/\w'=w:=by
 have h8:=rx 69 Extern.ReflectliteType.typeOf Tryz.func69;have h32:=rx 272 (Extern.ReflectliteType.method fun t=>do Extern.Rtype.noPackHeld "Comparable" t;pure (.bool (←typeInfo t).comparable)) Tryz.func272
 have tT:=isTypeOf;have cT:=isComparable;have mR:=isMethodComparable;have nE:=noIsE;have uE:=noUnwrapE;have vE:=noUnwrapsE;have nM1:=TE;have uM1:=Gi;have mU:=methodUnwrap;have hty:=run_eql_iface_types (P:=Tryz.prog) 82 27 (.pointer (some ⟨p,0,none⟩)) (.int .i64 z) Tryz.underlying80 (by decide) w;have heq:(binOp .eql 80 (.iface 27 (.int .i64 why)) (.iface 27 (.int .i64 z))).run Tryz.prog w=.ok (.bool (decide (why=z))) w:=by
  obtain⟨i,hi,hc⟩:=Option.map_eq_some_iff.1 isComp;have hin:∀d:Nat,(Op.equalIn (d+2) 80 (.iface 27 (.int .i64 why)) (.iface 27 (.int .i64 z))).run Tryz.prog w=.ok (decide (why=z)) w:=fun d=>by
   simp[Op.equalIn,ycb Tryz.underlying80,ycb Tryz.underlying27,typeInfo,hi,hc,Result.andThen];by_cases e:why=z<;>simp[e]
  simp only[binOp];simp[Op.equal,Op.maxDepth,hin 9998,Result.andThen]
 by_cases e:why=z
 ·rw[yaa e] at heq ⊢;clear e;go_in;go_wp2;refine wp_loop_rounds 2 ?_;rw[rounds_succ];go_wp2;rw[rounds_succ];go_wp2;go_ret;exact⟨rfl,rfl⟩
 rw[yad e] at heq ⊢;clear e;go_in;go_wp2;refine wp_loop_rounds 2 ?_;rw[rounds_succ];go_wp2;rw[rounds_succ];go_wp2;go_ret;exact⟨rfl,rfl⟩
end Err
namespace Err
open Go.RowKit Go.Extern.Stop Go.Stop Go.Extern
theorem as_nil (t:Value)(w:World) :
  Calls Tryz.prog 34 #[.nilIface,t] w fun e w'=>e=.returned (.bool false)/\w'=w:=by
 go_in;go_wp2;go_ret;exact⟨rfl,rfl⟩
/-! ### CLOSED FACTS ON THE MODEL's ENTRIES FOR internal/reflectlite, at this program's types: 25: *p.E · 27: **p.E · 23: error · 45: reflectlite's rtype · 1: how many package-level variables the dump has -/
theorem valueOf27 (t:Addr)(w:World):(ReflectliteValue.unpack (.iface 84 (.pointer (some t)))).run Tryz.prog w
  = .ok (.agg #[.pointer (some ⟨2,84,none⟩),.pointer (some ⟨w.heap.size,0,none⟩),.int .u64 150]) (w.alloc (.cells #[.pointer (some t)] 84)):=by kernel_rfl
theorem type27 (a:Addr)(w:World):(ReflectliteValue.methodAny (ReflectliteValue.valueError "reflectlite.Value.Type" 0) (fun t _ _ _=>ReflectliteType.toType t) #[.agg #[.pointer (some ⟨2,84,none⟩),.pointer (some a),.int .u64 150]]).run Tryz.prog w
  = .ok (.iface 187 (.agg #[.pointer (some ⟨2,84,none⟩)])) w:=by kernel_rfl
theorem methodKind (h:Value)(w:World):(Go.method 420 187 (.agg #[h]) "Kind").run Tryz.prog w=.ok (261,h) w:=by kernel_rfl
theorem kind27 (w:World):((ReflectliteType.abiMethod fun t=>(fun a:Nat=>Value.int IntKind.u8 (a:Int)) <$> Rtype.kind t) #[.pointer (some ⟨2,84,none⟩)]).run Tryz.prog w=.ok (.int .u8 22) w:=by kernel_rfl
theorem kind25 (w:World):((ReflectliteType.abiMethod fun t=>(fun a:Nat=>Value.int IntKind.u8 (a:Int)) <$> Rtype.kind t) #[.pointer (some ⟨2,82,none⟩)]).run Tryz.prog w=.ok (.int .u8 22) w:=by kernel_rfl
/-! ### THE ENTRIES THAT READ OR WRITE MEMORY: laws with a premise on the cell (after Derived/Lib/ReflectliteSlice.lean's manner: each unfolding a lemma of its own, by rfl) -/
theorem rlm (z:Sem Value)(f:TypeId->Addr->Nat->Nat->Sem Value)(v:Value) :
  ReflectliteValue.method z f #[v]=(do match <-ReflectliteValue.parts v with | none=>z | some (t,a,fl)=>f t a fl (fl % 32)):=rfl
theorem parts27 (a:Addr)(w:World):(ReflectliteValue.parts (.agg #[.pointer (some ⟨2,84,none⟩),.pointer (some a),.int .u64 150])).run Tryz.prog w=.ok (some (84,a,150)) w:=by kernel_rfl
theorem isNil27 (a p:Addr)(W:World)(ha:W.cell? a=some (.pointer (some p))) :
  (ReflectliteValue.method (ReflectliteValue.valueError "reflectlite.Value.IsNil" 0) ReflectliteValue.isNil #[.agg #[.pointer (some ⟨2,84,none⟩),.pointer (some a),.int .u64 150]]).run Tryz.prog W=.ok (.bool false) W:=by
 rw[rlm];simp only[yaY,parts27,Result.andThen];simp[ReflectliteValue.isNil,loadVar,isAgg,underlying,Tryz.underlying84,ha,Result.andThen]
theorem methodElem (h:Value)(w:World):(Go.method 420 187 (.agg #[h]) "Elem").run Tryz.prog w=.ok (273,.agg #[h]) w:=by kernel_rfl
theorem methodImplements (h:Value)(w:World):(Go.method 420 187 (.agg #[h]) "Implements").run Tryz.prog w=.ok (274,.agg #[h]) w:=by kernel_rfl
theorem methodAssignableTo (h:Value)(w:World):(Go.method 420 187 (.agg #[h]) "AssignableTo").run Tryz.prog w=.ok (271,.agg #[h]) w:=by kernel_rfl
theorem elem27 (w:World):(ReflectliteType.method ReflectliteType.elem #[.agg #[.pointer (some ⟨2,84,none⟩)]]).run Tryz.prog w=.ok (.iface 187 (.agg #[.pointer (some ⟨2,82,none⟩)])) w:=by kernel_rfl
theorem implements25 (w:World):(ReflectliteType.relation "Implements" ReflectliteType.implements_ #[.agg #[.pointer (some ⟨2,82,none⟩)],.iface 187 (.agg #[.pointer (some ⟨2,80,none⟩)])]).run Tryz.prog w=.ok (.bool true) w:=by kernel_rfl
theorem typeOf25 (v:Value)(w:World):(ReflectliteType.typeOf #[.iface 82 v]).run Tryz.prog w=.ok (.iface 187 (.agg #[.pointer (some ⟨2,82,none⟩)])) w:=by kernel_rfl
theorem assignable25 (w:World):(ReflectliteType.relation "AssignableTo" ReflectliteType.assignableTo #[.agg #[.pointer (some ⟨2,82,none⟩)],.iface 187 (.agg #[.pointer (some ⟨2,82,none⟩)])]).run Tryz.prog w=.ok (.bool true) w:=by kernel_rfl
theorem valueOf25 (e:Addr)(w:World):(ReflectliteValue.unpack (.iface 82 (.pointer (some e)))).run Tryz.prog w
  = .ok (.agg #[.pointer (some ⟨2,82,none⟩),.pointer (some ⟨w.heap.size,0,none⟩),.int .u64 150]) (w.alloc (.cells #[.pointer (some e)] 82)):=by kernel_rfl
theorem elemOf27 (w:World):(Rtype.elem? 84).run Tryz.prog w=.ok (some 82) w:=by kernel_rfl
theorem mk25 (p:Addr)(w:World):(ReflectliteValue.mk 82 p ReflectliteValue.flagAddr).run Tryz.prog w=.ok (.agg #[.pointer (some ⟨2,82,none⟩),.pointer (some p),.int .u64 406]) w:=by kernel_rfl
theorem elemV27 (a p:Addr)(W:World)(ha:W.cell? a=some (.pointer (some p))) :
  (ReflectliteValue.method (ReflectliteValue.valueError "reflectlite.Value.Elem" 0) ReflectliteValue.elem #[.agg #[.pointer (some ⟨2,84,none⟩),.pointer (some a),.int .u64 150]]).run Tryz.prog W
   = .ok (.agg #[.pointer (some ⟨2,82,none⟩),.pointer (some p),.int .u64 406]) W:=by
 rw[rlm];simp only[yaY,parts27,Result.andThen];simp[ReflectliteValue.elem,loadVar,isAgg,underlying,Tryz.underlying84,ha,Result.andThen,elemOf27,mk25]
theorem rls (v x:Value):ReflectliteValue.set #[v,x]=(do
  let (some (dst,a,fl),some (src,b,_)):=(<-ReflectliteValue.parts v,<-ReflectliteValue.parts x)
   | unsupported (.noEntry "extern/(internal/reflectlite.Value).Set.zeroValue")
  if fl / ReflectliteValue.flagAddr % 2==0 then unsupported (.noEntry "extern/(internal/reflectlite.Value).Set.unaddressable")
  let val <-loadVar src b
  if <-Rtype.directlyAssignable dst src then storeVar dst a val
  else if <-Rtype.implements dst src then
   if (<-Rtype.kind src)==20 then
    match val with
    | .nilIface=>unsupported (.noEntry "extern/reflectlite: a nil value of one interface type handed on as a value of another")
    | _=>storeVar dst a val
   else storeVar dst a (.iface src val)
  else panicString ("reflectlite.Set: value of type "++(←Rtype.spelt src)++ " is not assignable to type "++(←Rtype.spelt dst))
  pure (.tuple #[])):=rfl
theorem parts25a (a:Addr)(w:World):(ReflectliteValue.parts (.agg #[.pointer (some ⟨2,82,none⟩),.pointer (some a),.int .u64 406])).run Tryz.prog w=.ok (some (82,a,406)) w:=by kernel_rfl
theorem parts25 (a:Addr)(w:World):(ReflectliteValue.parts (.agg #[.pointer (some ⟨2,82,none⟩),.pointer (some a),.int .u64 150])).run Tryz.prog w=.ok (some (82,a,150)) w:=by kernel_rfl
theorem direct25 (w:World):(Rtype.directlyAssignable 82 82).run Tryz.prog w=.ok true w:=by kernel_rfl
theorem set25 (ta b e:Addr)(old:Value)(W:World)(hb:W.cell? b=some (.pointer (some e)))(ht:W.cell? ta=some old)(hf:W.frozen? ta=false) :
  (ReflectliteValue.set #[.agg #[.pointer (some ⟨2,82,none⟩),.pointer (some ta),.int .u64 406],.agg #[.pointer (some ⟨2,82,none⟩),.pointer (some b),.int .u64 150]]).run Tryz.prog W
   = .ok (.tuple #[]) (W.setCell ta (.pointer (some e))):=by
 rw[rls];simp only[yaY,parts25a,parts25,Result.andThen];simp[ReflectliteValue.flagAddr,loadVar,isAgg,underlying,Tryz.underlying82,hb,Result.andThen,direct25,storeVar,Value.cells,storeCells,Addr.add];rw[run_store Tryz.prog W ta _ _ (by rfl)];simp[ht,hf]
theorem as_hit (e t:Addr)(old:Value)(w:World)(hg:w.cell? ⟨0,0,none⟩=some (.iface 187 (.agg #[.pointer (some ⟨2,80,none⟩)])))(ht0:w.cell? t=some old)(hf0:w.frozen? t=false) :
  Calls Tryz.prog 34 #[.iface 82 (.pointer (some e)),.iface 84 (.pointer (some t))] w fun ev w'=>ev=.returned (.bool true)/\w'=((((w.alloc (.cells #[.pointer (some t)] 84)).alloc (.cells #[.pointer (some ⟨2,84,none⟩),.pointer (some ⟨w.heap.size,0,none⟩),.int .u64 150] 132)).alloc (.cells #[.pointer (some ⟨2,84,none⟩),.pointer (some ⟨w.heap.size,0,none⟩),.int .u64 150] 132)).alloc (.cells #[.pointer (some e)] 82)).setCell t (.pointer (some e)):=by
 have h6:=rx 65 (fun args=>ReflectliteValue.unpack (args.getD 0 (.tuple #[]))) Tryz.func65;have h7:=rx 66 (ReflectliteValue.methodAny (ReflectliteValue.valueError "reflectlite.Value.Type" 0) (fun t _ _ _=>ReflectliteType.toType t)) Tryz.func66
 have h8:=rx 67 (ReflectliteValue.method (ReflectliteValue.valueError "reflectlite.Value.IsNil" 0) ReflectliteValue.isNil) Tryz.func67
 have h27:=rx 261 (ReflectliteType.abiMethod fun t=>do pure (.int .u8 (<-Rtype.kind t))) Tryz.func261;have h37:=rx 273 (ReflectliteType.method ReflectliteType.elem) Tryz.func273;have h38:=rx 274 (ReflectliteType.relation "Implements" ReflectliteType.implements_) Tryz.func274
 have h10:=rx 69 ReflectliteType.typeOf Tryz.func69;have h35:=rx 271 (ReflectliteType.relation "AssignableTo" ReflectliteType.assignableTo) Tryz.func271
 have h11:=rx 115 (ReflectliteValue.method (ReflectliteValue.valueError "reflectlite.Value.Elem" 0) ReflectliteValue.elem) Tryz.func115
 have h12:=rx 116 ReflectliteValue.set Tryz.func116;have tO:=typeOf25;have mA:=methodAssignableTo;have a25:=assignable25;have v25:=valueOf25;have f6:=valueOf27;have f7:=type27;have mK:=methodKind;have mE:=methodElem;have mI:=methodImplements;have k27:=kind27;have k25:=kind25;have e27:=elem27;have i25:=implements25;have n8:=isNil27 ⟨w.heap.size,0,none⟩ t ((w.alloc (.cells #[.pointer (some t)] 84)).alloc (.cells #[.pointer (some ⟨2,84,none⟩),.pointer (some ⟨w.heap.size,0,none⟩),.int .u64 150] 132)) (by simp);have hlt:0<w.heap.size:=by
  rcases Nat.eq_zero_or_pos w.heap.size with h0 | h
  ·simp[World.cell?,h0] at hg
  exact h
 have hg2:((w.alloc (.cells #[.pointer (some t)] 84)).alloc (.cells #[.pointer (some ⟨2,84,none⟩),.pointer (some ⟨w.heap.size,0,none⟩),.int .u64 150] 132)).cell? ⟨0,0,none⟩=some (.iface 187 (.agg #[.pointer (some ⟨2,80,none⟩)])):=by
  rw[World.cell?_alloc_lt _ _ ⟨0,0,none⟩ (by simp),World.cell?_alloc_lt _ _ ⟨0,0,none⟩ hlt];exact hg
 have htl:t.block<w.heap.size:=by
  rcases Nat.lt_or_ge t.block w.heap.size with h | h
  ·exact h
  simp[World.cell?,Array.getElem?_eq_none h] at ht0
 have el:=elemV27 ⟨w.heap.size,0,none⟩ t (((w.alloc (.cells #[.pointer (some t)] 84)).alloc (.cells #[.pointer (some ⟨2,84,none⟩),.pointer (some ⟨w.heap.size,0,none⟩),.int .u64 150] 132)).alloc (.cells #[.pointer (some ⟨2,84,none⟩),.pointer (some ⟨w.heap.size,0,none⟩),.int .u64 150] 132)) (by rw[World.cell?_alloc_lt _ _ ⟨w.heap.size,0,none⟩ (by simp;omega)];simp);have st:=set25 t ⟨w.heap.size+1+1+1,0,none⟩ e old ((((w.alloc (.cells #[.pointer (some t)] 84)).alloc (.cells #[.pointer (some ⟨2,84,none⟩),.pointer (some ⟨w.heap.size,0,none⟩),.int .u64 150] 132)).alloc (.cells #[.pointer (some ⟨2,84,none⟩),.pointer (some ⟨w.heap.size,0,none⟩),.int .u64 150] 132)).alloc (.cells #[.pointer (some e)] 82))
  (by rw[World.cell?_alloc_at _ _ _ _ (by simp)];rfl)
  (by rw[World.cell?_alloc_lt _ _ t (by simp;omega),World.cell?_alloc_lt _ _ t (by simp;omega),World.cell?_alloc_lt _ _ t (by simp;omega),World.cell?_alloc_lt _ _ t htl];exact ht0)
  (by rw[World.frozen?_alloc_old _ _ t (by simp;omega),World.frozen?_alloc_old _ _ t (by simp;omega),World.frozen?_alloc_old _ _ t (by simp;omega),World.frozen?_alloc_old _ _ t (Nat.ne_of_lt htl)];exact hf0)
 go_in;go_wp2;refine wp_loop_rounds 1 ?_;rw[rounds_succ];go_wp2;go_ret;exact⟨rfl,rfl⟩
end Err
namespace Msg
open Go.RowKit Go.Lib Mem Tlv
variable{W W':World}{b:List UInt8}{c:MC}{cg co:Array Value}{g j n ob:Nat}{k x:Int}{o:MV}{s s' s1:RS}{v:Value}{wh:Bool}
def Fp (what:ByteArray)(why:Int)(w:World)(e:Ending)(w':World):Prop:=∃p:Nat,e=.returned (.tuple #[(ay 0).val,.iface 82 (.pointer (some ⟨p,0,none⟩))])/\Below w.heap.size w w'/\w.heap.size<=p/\w'.heap[p]?=some (.cells #[.string what,.int .i64 why] 87)
theorem vJ(what:ByteArray)(why:Int)(w:World):Calls Tryz.prog 109 #[.string what,.int .i64 why] w (Fp what why w):=by
 have hb0:=bN w (ay 0).box;have k0:=aN w (ay 0).box;unfold ay bG aG zeroV MV.box MV.cells at hb0 k0;dsimp only at hb0 k0;go_in;go_upto_region 1 with fail;generalize hg:w.alloc _=W0 at *;have k0f:W0.heap[w.heap.size]?=some (ay 0).box:=k0;clear hg k0;have hz0:=hid (lA k0f);have hb1:=bN W0 (.cells #[.string what,.int .i64 why] 87);have q1:=aN W0 (.cells #[.string what,.int .i64 why] 87);have k1:=af k0f hb1;have bel:=hb0.trans (hb1.mono hb0.size);have hne:W0.heap.size≠w.heap.size:=by have:=hz0.out;omega
 have f1:((W0.alloc (.cells #[.string what,.int .i64 why] 87)).setRow w.heap.size (ay 0).cells).heap[w.heap.size]?=some (.cells (ay 0).cells 59):=aO k1;have f2:=below_setRow bel (yag _) (ay 0).cells;have f3:=(yba (W0.alloc (.cells #[.string what,.int .i64 why] 87)) w.heap.size W0.heap.size (ay 0).cells hne).trans q1;have hle:w.heap.size<=W0.heap.size:=hb0.size;go_wp2_with (refine zSr rfl k1 ?_;go_simp);exact yay (w:=(W0.alloc (.cells #[.string what,.int .i64 why] 87)).setRow w.heap.size (ay 0).cells) (aj (i:=4) (j:=5) (t:=59) rfl rfl rfl (by kernel_rfl) (by kernel_rfl) f1) rfl ⟨_,rfl,f2,hle,f3⟩
theorem ReadM.nextP{s2:RS}{kk:Int}{m:MV}{d:MC}(ho:o.k=kk)(R:ReadM s kk (lettersOf kk wh) j (decide (kk≠10\/2<=j)) o c s')(hj:wh=true->2<=j)(hz:∀x∈dF,x∉(lettersOf kk wh).take j->agree x o c (ay kk) dO=true)(hns:NilS ((lettersOf kk wh).take j) o)
  (hx:(lettersOf kk wh)[j]?=some x) (h2:StepX x s' (aJ x o m) (dA x c d) s2) :
  (aJ x o m).k=kk/\ReadM s kk (lettersOf kk wh) (j+1) (decide (kk≠10\/2<=j)) (aJ x o m) (dA x c d) s2/\(∀y∈dF,y∉(lettersOf kk wh).take (j+1)->agree y (aJ x o m) (dA x c d) (ay kk) dO=true)/\NilS ((lettersOf kk wh).take (j+1)) (aJ x o m):=by
 have hxa:=jb x (yan hx);have hnd:=lM kk wh;refine⟨(CU x o m).trans ho,R.step ?_ hx h2 (fun y hy=>?_),fun y hy hn=>?_,?_⟩
 ·by_cases h10:kk≠10\/2<=j
  ·exact .inl (yaa h10)
  have e10:kk=10:=by
   by_cases e:kk=10
   ·exact e
   exact absurd (.inl e) h10
  have hj2:j<2:=by
   by_cases e:j<2
   ·exact e
   exact absurd (.inr (by omega)) h10
  refine .inr ⟨e10,hj2,?_⟩;cases wh with
  | false=>rw[e10]
  | true=>have:=hj rfl;omega
 ·have hya:=jb y (ycz hy);have hne:y≠x:=fun e=>uf hnd hx (e▸hy);exact⟨wK y x o m c d hya hxa hne,zA y x o m c d hxa hne⟩
 ·rw[yaE,hx,yaQ] at hn;have hne:y≠x:=fun e=>hn (.inr (by simp[e]));exact dU (nZ y x o m c d hy hxa hne) (hz y hy (fun hm=>hn (.inl hm)))
 rw[yaE,hx];exact hns.set hxa
def NoKind (b:List UInt8):Prop:=∀(n:Nat) (r:List UInt8),1<=n->n<=12->b≠val 1 (au n)++r
def sG (b:List UInt8):Prop:=∃(n:Nat) (r:List UInt8),1<=n/\n<=12/\b=val 1 (au n)++r
def lm (b:List UInt8):Prop:=∀(W:World) (m:MV) (d:MC),MayM W m d->dL m d≠b
theorem NoKind.msg(h:NoKind b):lm b:=fun W m d hM e=>by
 have hk:=hM.k;unfold dL at e;exact h m.k.toNat _ (by omega) (by omega) e.symm
theorem GY(wh:Bool)(h:1<=k/\k<=12):lettersOf k wh≠[]:=by
 rcases (by omega:k=1\/k=2\/k=3\/k=4\/k=5\/k=6\/k=7\/k=8\/k=9\/k=10\/k=11\/k=12) with rfl|rfl|rfl|rfl|rfl|rfl|rfl|rfl|rfl|rfl|rfl|rfl<;>cases wh<;>decide
theorem G9(h:1<=k/\k<=12):gm k false≠[]:=by
 rcases (by omega:k=1\/k=2\/k=3\/k=4\/k=5\/k=6\/k=7\/k=8\/k=9\/k=10\/k=11\/k=12) with rfl|rfl|rfl|rfl|rfl|rfl|rfl|rfl|rfl|rfl|rfl|rfl<;>decide
theorem I7(h:¬(1<=k/\k<=12)):gm k false=[]:=by
 unfold gm mapM;have e:∀j:Int,1<=j/\j<=12->k≠j:=fun j hj e=>h (e▸hj);simp only[e 1 (by decide),e 2 (by decide),e 3 (by decide),e 4 (by decide),e 5 (by decide),e 6 (by decide),e 7 (by decide),e 8 (by decide),e 9 (by decide),e 10 (by decide),e 11 (by decide),e 12 (by decide),if_false,or_self,false_and,yaD]
theorem TW{n:Int}(h:1<=n/\n<=12)(h10:n≠10):(119:Int)∉lettersOf n false:=by
 rcases (by omega:n=1\/n=2\/n=3\/n=4\/n=5\/n=6\/n=7\/n=8\/n=9\/n=11\/n=12) with rfl|rfl|rfl|rfl|rfl|rfl|rfl|rfl|rfl|rfl|rfl<;>decide
theorem PW(hx:(lettersOf 10 wh)[j]?=some x)(hj:j≠1):x≠102:=by
 cases wh
 ·match j,hx with
  | 0,h=>cases h;decide
  | 1,h=>exact absurd rfl hj
  | 2,h=>cases h;decide
  | 3,h=>cases h;decide
  | 4,h=>cases h;decide
  | j+5,h=>cases h
 match j,hx with
 | 0,h=>cases h;decide
 | 1,h=>exact absurd rfl hj
 | 2,h=>cases h;decide
 | 3,h=>cases h;decide
 | 4,h=>cases h;decide
 | 5,h=>cases h;decide
 | 6,h=>cases h;decide
 | 7,h=>cases h;decide
 | 8,h=>cases h;decide
 | j+9,h=>cases h
theorem Qo(T:Took (fun n:Nat=>val 1 (au n)) (fun n=>n<=255) (fun n=>n<=255) ⟨b,false⟩ n s1)(h:s1.bad=true\/¬(1<=n/\n<=12)):NoKind b:=fun k r h1 h2 e=>by
 cases hb:s1.bad with
 | true=>
  rcases T.no hb with h | h
  ·cases h
  exact h k r (by omega) e
 | false=>
  obtain⟨-,e2,g⟩:=T.yes hb;have e3:=iM (by omega) (by omega) (az (t:=1) (by decide) (by rw[ai];omega) (by rw[ai];omega) (e2.symm.trans e)).1;rcases h with h | h
  ·rw[hb] at h;cases h
  omega
theorem Nb(T:Took (fun n:Nat=>val 1 (au n)) (fun n=>n<=255) (fun n=>n<=255) ⟨b,false⟩ n s1)(hb:s1.bad=false)(h:1<=n/\n<=12):sG b:=by
 obtain⟨-,e2,g⟩:=T.yes hb;exact⟨n,_,h.1,h.2,e2⟩
theorem Ei(hb:b.length<=8388608)(hk:1<=o.k/\o.k<=12)(h:MAt W o c)(hg:∀x∈lettersOf o.k o.wh,MayG x o c)(hfr:0<=o.fr/\o.fr<7)(hc:o.ln<=4096/\o.hn<=7)(hz:∀x∈dF,x∉lettersOf o.k o.wh->agree x o c (ay o.k) dO=true)(e:b=dL o c):bY o c=true/\FitsM o c:=by
 have hsn:o.sn<=4194304:=by
  have h1:=h.sn.1;rw[aV] at h1;by_cases hm:(115:Int)∈lettersOf o.k o.wh
  ·have:=(hg 115 hm).sn rfl;omega
  have h2:c.snap=[]:=yar (hz 115 (by decide) hm);rw[h2] at h1;simp at h1;omega
 have hlg:(gq c.log).length<=4194304:=by
  by_cases hm:(108:Int)∈lettersOf o.k o.wh
  ·exact ((hg 108 hm).log rfl).2
  have h2:bH c.log []=true:=hz 108 (by decide) hm;rw[yat (jB h2)];decide
 have hrs:bz o.rs c.rs=true->(dM o.rs c.rs).length<=4194304:=fun _=>by
  by_cases hm:(114:Int)∈lettersOf o.k o.wh
  ·exact ((hg 114 hm).rs rfl).2
  have h2:aF o.rs c.rs aG ⟨[],[]⟩=true:=hz 114 (by decide) hm;have h3:=fK.1 h2;unfold vX at h3;simp only[ybU] at h3;obtain⟨-,-,h4,h5⟩:=h3;have h6:c.rs.ents=[]:=by
   have:=congrArg List.length h4;simp[lT] at this;exact this
  have h7:(dM o.rs c.rs).length=29:=by
   rw[nV,h6,show c.rs.cursor=[] from h5];rfl
  omega
 refine⟨?_,⟨?_,hrs,fun _=>hlg⟩⟩
 ·unfold bY;rw[yaq,<-e];refine⟨(qC h hsn).2 ⟨GY _ hk,fun x hx=>?_,L6 (fun x hx=>jb x hx) hz⟩,yaa hb⟩;have G:=hg x hx;unfold fC;by_cases e102:x=102
  ·rw[if_pos e102,yaa hfr.1,yaa hfr.2];rfl
  rw[if_neg e102];by_cases e113:x=113
  ·rw[if_pos e113];exact G.rq e113
  rw[if_neg e113];by_cases e114:x=114
  ·rw[if_pos e114];exact (G.rs e114).1
  rw[if_neg e114];by_cases e108:x=108
  ·rw[if_pos e108,yaa hc.1,yaS.2 (fun p hp=>by simp[(G.log e108).1 p hp])];rfl
  rw[if_neg e108];by_cases e101:x=101
  ·rw[if_pos e101];exact yaa hc.2
  rw[if_neg e101]
 by_cases hm:(114:Int)∈lettersOf o.k o.wh
 ·have h1:=((hg 114 hm).rs rfl).2;rw[nV] at h1;exact fun _=>by omega
 have h2:aF o.rs c.rs aG ⟨[],[]⟩=true:=hz 114 (by decide) hm;have h3:=fK.1 h2;unfold vX at h3;simp only[ybU] at h3;have h6:c.rs.ents=[]:=by
  have:=congrArg List.length h3.2.2.1;simp[lT] at this;exact this
 exact fun _=>by rw[h6];exact yam _
theorem Ny(hb:b.length<=8388608)(hk:1<=o.k/\o.k<=12)(R:ReadM ⟨b,false⟩ o.k (lettersOf o.k wh) (lettersOf o.k wh).length true o c s')(hw:wh=true->o.k=10)(h:MAt W o c)(hu:U64M o c)(hfr:0<=o.fr/\o.fr<7)(hc:s'.bad=false->o.ln<=4096/\o.hn<=7)
  (hz:∀x∈dF,x∉lettersOf o.k wh->agree x o c (ay o.k) dO=true) :
  (s'.bad=false->s'.l=[]->wh=o.wh->bY o c=true/\FitsM o c/\dL o c=b)/\((s'.bad=true\/s'.l≠[]\/wh≠o.wh)->lm b):=by
 have hfr0:(102:Int)∉lettersOf o.k wh->o.fr=0:=fun h=>yar (hz 102 (by decide) h);have T:=R.done (W':=W) (whole:=wh) rfl (fun hne=>by
  have hw0:wh=false:=by
   cases hw2:wh with
   | false=>rfl
   | true=>exact absurd (hw hw2) hne
  exact⟨hw0,yar (hz 119 (by decide) (by rw[hw0];exact TW hk hne))⟩) hfr0 h hu (by omega)
 have e7:decide (7<=o.fr)=false:=yad (by omega);have eo:({ o with fr:=o.fr % 7 }:MV)=o:=by rw[show o.fr % 7=o.fr by omega]
 rw[e7,eo] at T;constructor
 ·intro h1 h2 h3;have hbad:(s'.bad||(false||(wh != o.wh)))=false:=by rw[h1,h3];simp
  obtain⟨-,e,g,-⟩:=T.yes hbad;dsimp only at e;rw[h2,yaD] at e;obtain⟨m1,m2⟩:=Ei (W:=W) hb hk h g hfr (hc h1) (by rw[<-h3];exact hz) e;exact⟨m1,m2,e.symm⟩
 intro hno W0 m d hM e;obtain⟨h1,h2⟩:=T.go rfl W0 m d [] hM (by rw[yaD];exact e.symm);dsimp only at h1 h2;rw[yaU,yaU] at h1;rcases hno with h3 | h3 | h3
 ·rw[h1.1] at h3;cases h3
 ·exact h3 h2
 have h4:(wh != o.wh)=false:=h1.2.2;exact h3 (by simpa using h4)
def qK:ByteArray:=⟨#[107,105,110,100]⟩
def jJ:ByteArray:=⟨#[102,105,101,108,100,115]⟩
def Jz (b:List UInt8)(w:World)(e:Ending)(w':World):Prop:=
 (∃(m:MV) (c:MC),e=.returned (.tuple #[m.val,.nilIface])/\Below w.heap.size w w'/\MAt w' m c/\U64M m c/\MTyP w' m c/\FitsM m c/\bY m c=true/\dL m c=b) \/
 (∃what:ByteArray,Fp what 4 w e w'/\((what=qK/\NoKind b)\/(what=jJ/\sG b/\lm b)))
theorem Gx{B b cap:Nat}{L:List FV}(h:Rd W 4 (some ⟨b,0,none⟩) n cap (fV L))(hL:0<L.length)(hr:RdS B g s W):b≠g:=fun e=>by
 subst e;have hn:=h.1;rw[sW] at hn;have hle:=h.le;obtain⟨b1,o1,e1,hlt,hc⟩:=h.some (by omega);obtain⟨rfl,rfl⟩:b=b1/\0=o1:=by simpa using e1
 obtain⟨f,hf⟩:∃f,L[0]?=some f:=⟨_,yac hL⟩
 have h1:=yR L 0 f hf 0 (by decide);have h2:=hc 0 (.int .i32 f.l) (by simpa [FV.cells] using h1);obtain⟨_,_,hr⟩:=hr;have hat:=hr.at_;simp[World.cell?,hat] at h2
theorem iF{t:Int}{fo:Value}{ta tb:Nat}(h:plainAt W t fo ta tb)(hg:W.heap[g]?=some (.cells cg 237))(ho:W.heap[ob]?=some (.cells co 59))(hX:BelX W.heap.size [g,ob] W W'):plainAt W' t fo ta tb:=by
 have h1:ta∉[g,ob]:=fun hm=>by
  simp only[yas,yal,or_false] at hm;have h1:=h.1;rcases hm with e | e
  ·rw[e,hg] at h1;cases h1
  rw[e,ho] at h1;cases h1
 have h2:tb∉[g,ob]:=fun hm=>by
  simp only[yas,yal,or_false] at hm;have h1:=h.2;rcases hm with e | e
  ·rw[e,hg] at h1;cases h1
  rw[e,ho] at h1;cases h1
 exact⟨hX.at_ h.1 (lA h.1) h1,hX.at_ h.2 (lA h.2) h2⟩
theorem AllAt.belX{t0 t1 t2 t3 t4 t5 t6 t7:Nat}(h:AllAt t0 t1 t2 t3 t4 t5 t6 t7 W)(hg:W.heap[g]?=some (.cells cg 237))(ho:W.heap[ob]?=some (.cells co 59))(hX:BelX W.heap.size [g,ob] W W'):AllAt t0 t1 t2 t3 t4 t5 t6 t7 W':=
 ⟨iF h.a0 hg ho hX,iF h.a1 hg ho hX,iF h.a2 hg ho hX,iF h.a3 hg ho hX,iF h.a4 hg ho hX,iF h.a5 hg ho hX,iF h.a6 hg ho hX,iF h.a7 hg ho hX⟩
structure FlsAt (k:Int)(wh:Bool)(v:Value)(n:Nat)(W:World):Prop where
 ex:∃b cap t0 t1 t2 t3 t4 t5 t6 t7:Nat,v=.slice (some ⟨b,0,none⟩) n cap/\n=(ofL k wh t0 t1 t2 t3 t4 t5 t6 t7).length/\Rd W 4 (some ⟨b,0,none⟩) n cap (fV (ofL k wh t0 t1 t2 t3 t4 t5 t6 t7))/\AllAt t0 t1 t2 t3 t4 t5 t6 t7 W
theorem FlsAt.later(h:FlsAt k wh v n W)(hb:Below W.heap.size W W'):FlsAt k wh v n W':=by
 obtain⟨b,cap,t0,t1,t2,t3,t4,t5,t6,t7,h1,h2,h3,h4⟩:=h.ex;exact⟨⟨b,cap,t0,t1,t2,t3,t4,t5,t6,t7,h1,h2,h3.later hb,h4.later hb⟩⟩
theorem FlsAt.len(h:FlsAt k wh v n W):n=(lettersOf k wh).length:=by
 obtain⟨b,cap,t0,t1,t2,t3,t4,t5,t6,t7,-,h2,-,-⟩:=h.ex;rw[h2,<-og k wh t0 t1 t2 t3 t4 t5 t6 t7,ybl]
structure RdI (B g ob rb:Nat)(b:List UInt8)(w:World)(kk:Int)(wh:Bool)(v:Value)(n j:Nat)(W:World):Prop where
 k:1<=kk/\kk<=12
 hw:wh=true->kk=10
 fl:FlsAt kk wh v n W
 rz:W.heap[rb]?=some (ay 0).box
 nr:rb≠g/\rb≠ob
 ex:∃(o:MV) (c:MC) (s':RS),RdM B g ob w o c s' W/\o.k=kk/\ReadM ⟨b,false⟩ kk (lettersOf kk wh) j (decide (kk≠10\/2<=j)) o c s'/\(wh=true->2<=j)/\(∀x∈dF,x∉(lettersOf kk wh).take j->agree x o c (ay kk) dO=true)/\NilS ((lettersOf kk wh).take j) o
