/-
  A part of the proof.
-/
import Derived.Deep.WholeRow
import Derived.Calls
import Derived.Tactics2
set_option maxHeartbeats 40000000
namespace Go.Proofs.YtfmmandlmbcncaaGreatDoor.Msg
def isRowT (P:Program)(t:TypeId):Bool:=match P.underlying t with | some (.struct _)=>true | some (.array _ _)=>true | _=>false
theorem isRowT_d {P:Program}{t:TypeId}(h:isRowT P t=true):∃d,P.underlying t=some d∧(match d with | .struct _ | .array _ _=>true | _=>false)=true:=by
 unfold isRowT at h
 cases hu:P.underlying t with
 | none=>rw[hu] at h;cases h
 | some d=>rw[hu] at h;exact⟨d,rfl,by cases d<;>first | rfl | cases h⟩
theorem wp_load_row {P:Program}{o:Oper}{a:Act}{next:Act→World→Prop}{Q:Exit→Act→World→Prop}{w:World}{t ty:TypeId}{p:Operand}{g:Nat}{cs:Array Value}{fr:Nat×Nat}
  (hg:w.heap[g]?=some (.cells cs t fr)) (hop:o.op=.load ty p) (hp:a.eval p=.pointer (some ⟨g,0,none⟩)) (hu:isRowT P ty=true) (hi:(P.info? ty).map (·.size)=some cs.size)
  (hn:next (a.put o.dst (.agg cs)) w):o.wp P a w next Q:=by
 obtain⟨d,h1,h2⟩:=isRowT_d hu
 have hl:(Instr.loadAt ty (.pointer (some ⟨g,0,none⟩))).run P w=.ok (.agg cs) w:=by
  simp only[Instr.loadAt,Instr.sureAddr,Sem.run_bind,Sem.run_pure,Result.andThen]
  cases d<;>first | exact run_loadVar_row w g t ty cs fr _ hg h1 rfl hi | cases h2
 have:(execOp a.eval o).run P w=.ok (.value (.agg cs)) w:=by
  unfold execOp
  rw[hop]
  simp only[hp,Sem.run_bind,hl,Result.andThen,Sem.run_pure]
 unfold Oper.wp
 rw[this]
 exact hn
theorem wp_store_new {P:Program}{o:Oper}{a:Act}{next:Act→World→Prop}{Q:Exit→Act→World→Prop}{w:World}{t:TypeId}{p v:Operand}{c c':Array Value}
  (hop:o.op=.store t p v) (hp:a.eval p=.pointer (some ⟨w.heap.size,0,none⟩)) (hv:a.eval v=.agg c') (hi:(P.info? t).map (·.size)=some c'.size) (ho:c.size=c'.size) (h1:c'.all (·.oneCell')=true)
  (hn:next (a.put o.dst undef) (w.alloc (.cells c' t))):o.wp P a (w.alloc (.cells c t)) next Q:=by
 have hl:=run_storeAt_new (P:=P) w t c c' hi ho h1
 have:(execOp a.eval o).run P (w.alloc (.cells c t))=.ok .skip (w.alloc (.cells c' t)):=by
  unfold execOp
  rw[hop]
  simp only[hp,hv,Sem.run_bind,hl,Result.andThen,Sem.run_pure]
 unfold Oper.wp
 rw[this]
 exact hn
theorem wpList_load_row {P:Program}{ops:Array Oper}{rest:List Oper}{o:Oper}{a:Act}{Q:Exit→Act→World→Prop}{w:World}{t ty:TypeId}{p:Operand}{g:Nat}{cs:Array Value}{fr:Nat×Nat}
  (hg:w.heap[g]?=some (.cells cs t fr)) (hop:o.op=.load ty p) (hw:Region.wanted o (yielded ops a.tmps)=true) (hp:a.eval p=.pointer (some ⟨g,0,none⟩)) (hu:isRowT P ty=true) (hi:(P.info? ty).map (·.size)=some cs.size)
  (hn:wpList P ops Q rest (a.put o.dst (.agg cs)) w):wpList P ops Q (o::rest) a w:=
 wpList_step fun K hK=>by rw[if_pos hw];exact wp_load_row hg hop hp hu hi (hK _ _ hn)
theorem wpList_store_new {P:Program}{ops:Array Oper}{rest:List Oper}{o:Oper}{a:Act}{Q:Exit→Act→World→Prop}{w:World}{t:TypeId}{p v:Operand}{c c':Array Value}
  (hop:o.op=.store t p v) (hw:Region.wanted o (yielded ops a.tmps)=true) (hp:a.eval p=.pointer (some ⟨w.heap.size,0,none⟩)) (hv:a.eval v=.agg c') (hi:(P.info? t).map (·.size)=some c'.size) (ho:c.size=c'.size) (h1:c'.all (·.oneCell')=true)
  (hn:wpList P ops Q rest (a.put o.dst undef) (w.alloc (.cells c' t))):wpList P ops Q (o::rest) a (w.alloc (.cells c t)):=
 wpList_step fun K hK=>by rw[if_pos hw];exact wp_store_new hop hp hv hi ho h1 (hK _ _ hn)
theorem wpList_store_row {P:Program}{ops:Array Oper}{rest:List Oper}{o:Oper}{a:Act}{Q:Exit→Act→World→Prop}{w:World}{t ty:TypeId}{p v:Operand}{g:Nat}{old cells:Array Value}
  (hg:w.heap[g]?=some (.cells old t (0,0))) (hop:o.op=.store ty p v) (hw:Region.wanted o (yielded ops a.tmps)=true) (hp:a.eval p=.pointer (some ⟨g,0,none⟩)) (hv:a.eval v=.agg cells) (hi:(P.info? ty).map (·.size)=some cells.size)
  (ho:old.size=cells.size) (h1:cells.all (·.oneCell')=true) (hn:wpList P ops Q rest (a.put o.dst undef) (w.setRow g cells)):wpList P ops Q (o::rest) a w:=by
 refine wpList_step fun K hK=>?_
 rw[if_pos hw]
 have hl:(Instr.storeAt ty (.pointer (some ⟨g,0,none⟩)) (.agg cells)).run P w=.ok () (w.setRow g cells):=by
  simp only[Instr.storeAt,Instr.sureAddr,Sem.run_bind,Sem.run_pure,Result.andThen]
  exact run_storeVar_row w g t ty old cells hg hi ho h1
 have:(execOp a.eval o).run P w=.ok .skip (w.setRow g cells):=by
  unfold execOp
  rw[hop]
  simp only[hp,hv,Sem.run_bind,hl,Result.andThen,Sem.run_pure]
 unfold Oper.wp
 rw[this]
 exact hK _ _ hn
theorem setRow_at' {W:World}{g:Nat}{old cells:Array Value}{t:TypeId}(h:W.heap[g]?=some (.cells old t (0,0))):(W.setRow g cells).heap[g]?=some (.cells cells t (0,0)):=setRow_heap W g old cells t _ h
theorem results_row2 {P:Program}{f:Func}{i j:Nat}{t:TypeId}{tmps:Array Value}{W:World}{b:Nat}{cs:Array Value}{v:Value}(hr:f.results=#[.cell i t,.tmp j])(hp:tmps.getD i undef=.pointer (some ⟨b,0,none⟩))(hv:tmps.getD j undef=v)
  (hu:isRowT P t=true) (hi:(P.info? t).map (·.size)=some cs.size) (h:W.heap[b]?=some (.cells cs t)):(results f tmps).run P W=.ok (.tuple #[.agg cs,v]) W:=by
 obtain⟨d,h1,h2⟩:=isRowT_d hu
 have hl:(loadVar t ⟨b,0,none⟩).run P W=.ok (.agg cs) W:=by
  cases d<;>first | exact run_loadVar_row W b t t cs _ _ h h1 rfl hi | cases h2
 have hp':tmps[i]?.getD undef=.pointer (some ⟨b,0,none⟩):=by simpa using hp
 have hv':tmps[j]?.getD undef=v:=by simpa using hv
 simp only[results,hr]
 simp[hp',hv',asAddr,hl,Result.andThen]
end Go.Proofs.YtfmmandlmbcncaaGreatDoor.Msg
