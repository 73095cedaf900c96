/-
  A part of the proof.
-/
import Derived.MapKept
import Derived.Test.YtfmmandlmbcncaaGreatDoorRows
import Derived.Test.YtfmmandlmbcncaaGreatDoorProg
import Derived.Test.YtfmmandlmbcncaaGreatDoorChecked
import Derived.Test.YtfmmandlmbcncaaGreatDoorKbaa
set_option maxHeartbeats 40000000
namespace Go.Proofs.YtfmmandlmbcncaaGreatDoor.Msg
open Go.RowKit Go.Proofs.YtfmmandlmbcncaaGreatDoor.Mem
def fieldsOf (k:Int):List UInt8:=
 if k=1 then [110,97] else if k=2 then [110] else if k=3 then [110,97] else if k=4 then [110,116] else if k=5 then [110,97] else if k=6 then [110] else if k=7 then [112,99,107] else if k=8 then [99,107] else []
theorem push_set {α:Type}(l:Array α)(a b:α):(l.push a).setIfInBounds l.size b=l.push b:=by
 apply Array.ext_getElem?
 intro i
 rw[Array.getElem?_setIfInBounds]
 simp only[Array.getElem?_push,Array.size_push]
 split<;>split<;>simp_all<;>omega
section
variable {P:Program}
theorem run_key_new (W:World)(mty kt et:TypeId)(q:IntKind)(es:Array MapEntry)(clock:Nat)(k:Int)(val:Value)(hm:P.underlying mty=some (.map kt et))(hk:P.underlying kt=some (.int q))
  (hf:Instr.findNow (.int q) (.int q k) es.toList 0=some none) :
  (Instr.mapUpdate mty (.map (some W.heap.size)) (.int q k) val).run P (W.alloc (.map es clock))=.ok () (W.alloc (.map (es.push { key:=.int q k,val:=val,born:=clock }) (clock+1))):=by
 have hb:(W.alloc (.map es clock)).heap[W.heap.size]?=some (.map es clock):=by show (W.heap.push _)[W.heap.size]?=some _;simp
 have hc:(Instr.checkKey false 10000 kt (.int q k)).run P (W.alloc (.map es clock))=.ok () _:=MapKept.run_checkKey (k:=.int q k) hk (by simp[MapKept.IsKey]) false 9999
 simp[Instr.mapUpdate,run_underlying hm,MapKept.run_getObj_map hb,hc,MapKept.run_findKey hk hf,MapKept.run_setObj_map _ hb,Result.andThen]
 have hs:=push_set W.heap (Obj.map es clock) (Obj.map (es.push { key:=Value.int q k,val:=val,born:=clock }) (clock+1))
 show World.mk ((W.heap.push (Obj.map es clock)).setIfInBounds W.heap.size _) _ _ _ _=World.mk (W.heap.push _) _ _ _ _
 rw[hs]
 rfl
theorem run_key_look (W:World)(mty kt et:TypeId)(q:IntKind)(es:Array MapEntry)(clock:Nat)(k:Int)(z:Value)(hm:P.underlying mty=some (.map kt et))(hk:P.underlying kt=some (.int q))
  (hz:(zeroValue et).run P (W.alloc (.map es clock))=.ok z (W.alloc (.map es clock))) {r:Option (Nat×Value)} (hf:Instr.findNow (.int q) (.int q k) es.toList 0=some r) :
  (Instr.lookup mty (.map (some W.heap.size)) (.int q k) false).run P (W.alloc (.map es clock))=.ok ((r.map (·.2)).getD z) (W.alloc (.map es clock)):=by
 have hb:(W.alloc (.map es clock)).heap[W.heap.size]?=some (.map es clock):=by show (W.heap.push _)[W.heap.size]?=some _;simp
 have hc:∀b,(Instr.checkKey b 10000 kt (.int q k)).run P (W.alloc (.map es clock))=.ok () _:=fun b=>MapKept.run_checkKey (k:=.int q k) hk (by simp[MapKept.IsKey]) b 9999
 cases r with
 | none=>simp[Instr.lookup,run_underlying hm,MapKept.run_getObj_map hb,hc,MapKept.run_findKey hk hf,hz,Result.andThen]
 | some r=>simp[Instr.lookup,run_underlying hm,MapKept.run_getObj_map hb,hc,MapKept.run_findKey hk hf,Result.andThen]
end
def rowsF:Array MapEntry:=#[{ key:=.int .i64 1,val:=.agg #[.string ⟨#[110,97]⟩],born:=0 },{ key:=.int .i64 2,val:=.agg #[.string ⟨#[110]⟩],born:=1 },{ key:=.int .i64 3,val:=.agg #[.string ⟨#[110,97]⟩],born:=2 },{ key:=.int .i64 4,val:=.agg #[.string ⟨#[110,116]⟩],born:=3 },{ key:=.int .i64 5,val:=.agg #[.string ⟨#[110,97]⟩],born:=4 },{ key:=.int .i64 6,val:=.agg #[.string ⟨#[110]⟩],born:=5 },{ key:=.int .i64 7,val:=.agg #[.string ⟨#[112,99,107]⟩],born:=6 },{ key:=.int .i64 8,val:=.agg #[.string ⟨#[99,107]⟩],born:=7 }]
theorem look_rows (k:Int):∃r,Instr.findNow (.int .i64) (.int .i64 k) rowsF.toList 0=some r∧(r.map (·.2)).getD (.agg #[.string ⟨#[]⟩])=.agg #[.string ⟨(fieldsOf k).toArray⟩]:=by
 simp only[rowsF,Instr.findNow,Instr.sameNow,if_true]
 unfold fieldsOf
 by_cases h1:k=1
 ·subst h1;exact⟨_,rfl,rfl⟩
 have b1:(k==1)=false:=by simp[h1]
 by_cases h2:k=2
 ·subst h2;exact⟨_,rfl,rfl⟩
 have b2:(k==2)=false:=by simp[h2]
 by_cases h3:k=3
 ·subst h3;exact⟨_,rfl,rfl⟩
 have b3:(k==3)=false:=by simp[h3]
 by_cases h4:k=4
 ·subst h4;exact⟨_,rfl,rfl⟩
 have b4:(k==4)=false:=by simp[h4]
 by_cases h5:k=5
 ·subst h5;exact⟨_,rfl,rfl⟩
 have b5:(k==5)=false:=by simp[h5]
 by_cases h6:k=6
 ·subst h6;exact⟨_,rfl,rfl⟩
 have b6:(k==6)=false:=by simp[h6]
 by_cases h7:k=7
 ·subst h7;exact⟨_,rfl,rfl⟩
 have b7:(k==7)=false:=by simp[h7]
 by_cases h8:k=8
 ·subst h8;exact⟨_,rfl,rfl⟩
 have b8:(k==8)=false:=by simp[h8]
 simp only[h1,h2,h3,h4,h5,h6,h7,h8,b1,b2,b3,b4,b5,b6,b7,b8,if_false]
 exact⟨_,rfl,rfl⟩
set_option maxRecDepth 100000 in
theorem fields_any (k:Int)(w:World):Calls Tryz.prog 75 #[.int .i64 k] w fun e w'=>e=.returned (.string ⟨(fieldsOf k).toArray⟩)∧Below w.heap.size w w':=by
 have hm:Tryz.prog.underlying 203=some (.map 31 202):=Tryz.underlying203
 have hk:Tryz.prog.underlying 31=some (.int .i64):=Tryz.underlying31
 have h0:Sem.run Tryz.prog (Instr.makeMap 203 none) w=.ok (.map (some w.heap.size)) (w.alloc (.map #[] 0)):=by simp[Instr.makeMap]
 have h1:Sem.run Tryz.prog (Instr.mapUpdate 203 (.map (some w.heap.size)) (.int .i64 1) (.agg #[.string ⟨#[110,97]⟩])) (w.alloc (.map #[] 0))=.ok () (w.alloc (.map #[{ key:=.int .i64 1,val:=.agg #[.string ⟨#[110,97]⟩],born:=0 }] 1)):=run_key_new w _ _ _ .i64 #[] 0 1 _ hm hk (by rfl)
 have h2:Sem.run Tryz.prog (Instr.mapUpdate 203 (.map (some w.heap.size)) (.int .i64 2) (.agg #[.string ⟨#[110]⟩])) (w.alloc (.map #[{ key:=.int .i64 1,val:=.agg #[.string ⟨#[110,97]⟩],born:=0 }] 1))=.ok () (w.alloc (.map #[{ key:=.int .i64 1,val:=.agg #[.string ⟨#[110,97]⟩],born:=0 },{ key:=.int .i64 2,val:=.agg #[.string ⟨#[110]⟩],born:=1 }] 2)):=run_key_new w _ _ _ .i64 #[{ key:=.int .i64 1,val:=.agg #[.string ⟨#[110,97]⟩],born:=0 }] 1 2 _ hm hk (by rfl)
 have h3:Sem.run Tryz.prog (Instr.mapUpdate 203 (.map (some w.heap.size)) (.int .i64 3) (.agg #[.string ⟨#[110,97]⟩])) (w.alloc (.map #[{ key:=.int .i64 1,val:=.agg #[.string ⟨#[110,97]⟩],born:=0 },{ key:=.int .i64 2,val:=.agg #[.string ⟨#[110]⟩],born:=1 }] 2))=.ok () (w.alloc (.map #[{ key:=.int .i64 1,val:=.agg #[.string ⟨#[110,97]⟩],born:=0 },{ key:=.int .i64 2,val:=.agg #[.string ⟨#[110]⟩],born:=1 },{ key:=.int .i64 3,val:=.agg #[.string ⟨#[110,97]⟩],born:=2 }] 3)):=run_key_new w _ _ _ .i64 #[{ key:=.int .i64 1,val:=.agg #[.string ⟨#[110,97]⟩],born:=0 },{ key:=.int .i64 2,val:=.agg #[.string ⟨#[110]⟩],born:=1 }] 2 3 _ hm hk (by rfl)
 have h4:Sem.run Tryz.prog (Instr.mapUpdate 203 (.map (some w.heap.size)) (.int .i64 4) (.agg #[.string ⟨#[110,116]⟩])) (w.alloc (.map #[{ key:=.int .i64 1,val:=.agg #[.string ⟨#[110,97]⟩],born:=0 },{ key:=.int .i64 2,val:=.agg #[.string ⟨#[110]⟩],born:=1 },{ key:=.int .i64 3,val:=.agg #[.string ⟨#[110,97]⟩],born:=2 }] 3))=.ok () (w.alloc (.map #[{ key:=.int .i64 1,val:=.agg #[.string ⟨#[110,97]⟩],born:=0 },{ key:=.int .i64 2,val:=.agg #[.string ⟨#[110]⟩],born:=1 },{ key:=.int .i64 3,val:=.agg #[.string ⟨#[110,97]⟩],born:=2 },{ key:=.int .i64 4,val:=.agg #[.string ⟨#[110,116]⟩],born:=3 }] 4)):=run_key_new w _ _ _ .i64 #[{ key:=.int .i64 1,val:=.agg #[.string ⟨#[110,97]⟩],born:=0 },{ key:=.int .i64 2,val:=.agg #[.string ⟨#[110]⟩],born:=1 },{ key:=.int .i64 3,val:=.agg #[.string ⟨#[110,97]⟩],born:=2 }] 3 4 _ hm hk (by rfl)
 have h5:Sem.run Tryz.prog (Instr.mapUpdate 203 (.map (some w.heap.size)) (.int .i64 5) (.agg #[.string ⟨#[110,97]⟩])) (w.alloc (.map #[{ key:=.int .i64 1,val:=.agg #[.string ⟨#[110,97]⟩],born:=0 },{ key:=.int .i64 2,val:=.agg #[.string ⟨#[110]⟩],born:=1 },{ key:=.int .i64 3,val:=.agg #[.string ⟨#[110,97]⟩],born:=2 },{ key:=.int .i64 4,val:=.agg #[.string ⟨#[110,116]⟩],born:=3 }] 4))=.ok () (w.alloc (.map #[{ key:=.int .i64 1,val:=.agg #[.string ⟨#[110,97]⟩],born:=0 },{ key:=.int .i64 2,val:=.agg #[.string ⟨#[110]⟩],born:=1 },{ key:=.int .i64 3,val:=.agg #[.string ⟨#[110,97]⟩],born:=2 },{ key:=.int .i64 4,val:=.agg #[.string ⟨#[110,116]⟩],born:=3 },{ key:=.int .i64 5,val:=.agg #[.string ⟨#[110,97]⟩],born:=4 }] 5)):=run_key_new w _ _ _ .i64 #[{ key:=.int .i64 1,val:=.agg #[.string ⟨#[110,97]⟩],born:=0 },{ key:=.int .i64 2,val:=.agg #[.string ⟨#[110]⟩],born:=1 },{ key:=.int .i64 3,val:=.agg #[.string ⟨#[110,97]⟩],born:=2 },{ key:=.int .i64 4,val:=.agg #[.string ⟨#[110,116]⟩],born:=3 }] 4 5 _ hm hk (by rfl)
 have h6:Sem.run Tryz.prog (Instr.mapUpdate 203 (.map (some w.heap.size)) (.int .i64 6) (.agg #[.string ⟨#[110]⟩])) (w.alloc (.map #[{ key:=.int .i64 1,val:=.agg #[.string ⟨#[110,97]⟩],born:=0 },{ key:=.int .i64 2,val:=.agg #[.string ⟨#[110]⟩],born:=1 },{ key:=.int .i64 3,val:=.agg #[.string ⟨#[110,97]⟩],born:=2 },{ key:=.int .i64 4,val:=.agg #[.string ⟨#[110,116]⟩],born:=3 },{ key:=.int .i64 5,val:=.agg #[.string ⟨#[110,97]⟩],born:=4 }] 5))=.ok () (w.alloc (.map #[{ key:=.int .i64 1,val:=.agg #[.string ⟨#[110,97]⟩],born:=0 },{ key:=.int .i64 2,val:=.agg #[.string ⟨#[110]⟩],born:=1 },{ key:=.int .i64 3,val:=.agg #[.string ⟨#[110,97]⟩],born:=2 },{ key:=.int .i64 4,val:=.agg #[.string ⟨#[110,116]⟩],born:=3 },{ key:=.int .i64 5,val:=.agg #[.string ⟨#[110,97]⟩],born:=4 },{ key:=.int .i64 6,val:=.agg #[.string ⟨#[110]⟩],born:=5 }] 6)):=run_key_new w _ _ _ .i64 #[{ key:=.int .i64 1,val:=.agg #[.string ⟨#[110,97]⟩],born:=0 },{ key:=.int .i64 2,val:=.agg #[.string ⟨#[110]⟩],born:=1 },{ key:=.int .i64 3,val:=.agg #[.string ⟨#[110,97]⟩],born:=2 },{ key:=.int .i64 4,val:=.agg #[.string ⟨#[110,116]⟩],born:=3 },{ key:=.int .i64 5,val:=.agg #[.string ⟨#[110,97]⟩],born:=4 }] 5 6 _ hm hk (by rfl)
 have h7:Sem.run Tryz.prog (Instr.mapUpdate 203 (.map (some w.heap.size)) (.int .i64 7) (.agg #[.string ⟨#[112,99,107]⟩])) (w.alloc (.map #[{ key:=.int .i64 1,val:=.agg #[.string ⟨#[110,97]⟩],born:=0 },{ key:=.int .i64 2,val:=.agg #[.string ⟨#[110]⟩],born:=1 },{ key:=.int .i64 3,val:=.agg #[.string ⟨#[110,97]⟩],born:=2 },{ key:=.int .i64 4,val:=.agg #[.string ⟨#[110,116]⟩],born:=3 },{ key:=.int .i64 5,val:=.agg #[.string ⟨#[110,97]⟩],born:=4 },{ key:=.int .i64 6,val:=.agg #[.string ⟨#[110]⟩],born:=5 }] 6))=.ok () (w.alloc (.map #[{ key:=.int .i64 1,val:=.agg #[.string ⟨#[110,97]⟩],born:=0 },{ key:=.int .i64 2,val:=.agg #[.string ⟨#[110]⟩],born:=1 },{ key:=.int .i64 3,val:=.agg #[.string ⟨#[110,97]⟩],born:=2 },{ key:=.int .i64 4,val:=.agg #[.string ⟨#[110,116]⟩],born:=3 },{ key:=.int .i64 5,val:=.agg #[.string ⟨#[110,97]⟩],born:=4 },{ key:=.int .i64 6,val:=.agg #[.string ⟨#[110]⟩],born:=5 },{ key:=.int .i64 7,val:=.agg #[.string ⟨#[112,99,107]⟩],born:=6 }] 7)):=run_key_new w _ _ _ .i64 #[{ key:=.int .i64 1,val:=.agg #[.string ⟨#[110,97]⟩],born:=0 },{ key:=.int .i64 2,val:=.agg #[.string ⟨#[110]⟩],born:=1 },{ key:=.int .i64 3,val:=.agg #[.string ⟨#[110,97]⟩],born:=2 },{ key:=.int .i64 4,val:=.agg #[.string ⟨#[110,116]⟩],born:=3 },{ key:=.int .i64 5,val:=.agg #[.string ⟨#[110,97]⟩],born:=4 },{ key:=.int .i64 6,val:=.agg #[.string ⟨#[110]⟩],born:=5 }] 6 7 _ hm hk (by rfl)
 have h8:Sem.run Tryz.prog (Instr.mapUpdate 203 (.map (some w.heap.size)) (.int .i64 8) (.agg #[.string ⟨#[99,107]⟩])) (w.alloc (.map #[{ key:=.int .i64 1,val:=.agg #[.string ⟨#[110,97]⟩],born:=0 },{ key:=.int .i64 2,val:=.agg #[.string ⟨#[110]⟩],born:=1 },{ key:=.int .i64 3,val:=.agg #[.string ⟨#[110,97]⟩],born:=2 },{ key:=.int .i64 4,val:=.agg #[.string ⟨#[110,116]⟩],born:=3 },{ key:=.int .i64 5,val:=.agg #[.string ⟨#[110,97]⟩],born:=4 },{ key:=.int .i64 6,val:=.agg #[.string ⟨#[110]⟩],born:=5 },{ key:=.int .i64 7,val:=.agg #[.string ⟨#[112,99,107]⟩],born:=6 }] 7))=.ok () (w.alloc (.map #[{ key:=.int .i64 1,val:=.agg #[.string ⟨#[110,97]⟩],born:=0 },{ key:=.int .i64 2,val:=.agg #[.string ⟨#[110]⟩],born:=1 },{ key:=.int .i64 3,val:=.agg #[.string ⟨#[110,97]⟩],born:=2 },{ key:=.int .i64 4,val:=.agg #[.string ⟨#[110,116]⟩],born:=3 },{ key:=.int .i64 5,val:=.agg #[.string ⟨#[110,97]⟩],born:=4 },{ key:=.int .i64 6,val:=.agg #[.string ⟨#[110]⟩],born:=5 },{ key:=.int .i64 7,val:=.agg #[.string ⟨#[112,99,107]⟩],born:=6 },{ key:=.int .i64 8,val:=.agg #[.string ⟨#[99,107]⟩],born:=7 }] 8)):=run_key_new w _ _ _ .i64 #[{ key:=.int .i64 1,val:=.agg #[.string ⟨#[110,97]⟩],born:=0 },{ key:=.int .i64 2,val:=.agg #[.string ⟨#[110]⟩],born:=1 },{ key:=.int .i64 3,val:=.agg #[.string ⟨#[110,97]⟩],born:=2 },{ key:=.int .i64 4,val:=.agg #[.string ⟨#[110,116]⟩],born:=3 },{ key:=.int .i64 5,val:=.agg #[.string ⟨#[110,97]⟩],born:=4 },{ key:=.int .i64 6,val:=.agg #[.string ⟨#[110]⟩],born:=5 },{ key:=.int .i64 7,val:=.agg #[.string ⟨#[112,99,107]⟩],born:=6 }] 7 8 _ hm hk (by rfl)
 obtain⟨r,hr,hv⟩:=look_rows k
 have hz:(zeroValue 202).run Tryz.prog (w.alloc (.map rowsF 8))=.ok (.agg #[.string ⟨#[]⟩]) (w.alloc (.map rowsF 8)):=by kernel_rfl
 have hl:=run_key_look w _ _ _ .i64 rowsF 8 k _ hm hk hz hr
 rw[hv] at hl
 have hf:∀(s:ByteArray) (W:World),Sem.run Tryz.prog (Instr.field 202 (.agg #[.string s]) 0) W=.ok (.string s) W:=fun _ _=>by kernel_rfl
 clear hr hv hz hm hk
 unfold rowsF at hl
 go_enter Tryz.func75,Tryz.ntmps75
 go_wp2_with fail
 go_ret
 exact⟨rfl,(Below.refl _ _).alloc (Nat.le_refl _) _⟩
end Go.Proofs.YtfmmandlmbcncaaGreatDoor.Msg
