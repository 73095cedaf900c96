/-A part of the proof.-/
import Derived.Deep.WholeRow
import Derived.Calls
import Derived.Tactics2
import Derived.Test.YtfmmandlmbcncaaGreatDoorKfac
set_option maxHeartbeats 40000000
set_option maxRecDepth 100000
set_option linter.all false
namespace Go.Proofs.YtfmmandlmbcncaaGreatDoor
namespace Msg
variable{P:Program}{W w:World}{a:Act}{b g i:Nat}{c c' cells cs old tmps:Array Value}{fr:Nat×Nat}{o:Oper}{ops:Array Oper}{p v:Operand}{rest:List Oper}{t ty:TypeId}
def lG (P:Program)(t:TypeId):Bool:=match P.underlying t with | some (.struct _)=>true | some (.array _ _)=>true | _=>false
theorem nO(h:lG P t=true):∃d,P.underlying t=some d/\(match d with | .struct _ | .array _ _=>true | _=>false)=true:=by
 unfold lG at h;cases hu:P.underlying t with
 | none=>rw[hu] at h;cases h
 | some d=>rw[hu] at h;exact⟨d,rfl,by cases d<;>first | rfl | cases h⟩
theorem wp_load_row{next:Act->World->Prop}{Q:Exit->Act->World->Prop}
  (hg:w.heap[g]?=some (.cells cs t fr)) (hop:o.op=.load ty p) (hp:a.eval p=.pointer (some ⟨g,0,none⟩)) (hu:lG P ty=true) (hi:(P.info? ty).map (·.size)=some cs.size)
  (hn:next (a.put o.dst (.agg cs)) w):o.wp P a w next Q:=by
 obtain⟨d,h1,h2⟩:=nO hu;have hl:(Instr.loadAt ty (.pointer (some ⟨g,0,none⟩))).run P w=.ok (.agg cs) w:=by
  simp only[Instr.loadAt,Instr.sureAddr,yaY,ybp,Result.andThen];cases d<;>first | exact run_loadVar_row w g t ty cs fr _ hg h1 rfl hi | cases h2
 have:(execOp a.eval o).run P w=.ok (.value (.agg cs)) w:=by
  unfold execOp;rw[hop];simp only[hp,yaY,hl,Result.andThen,ybp]
 unfold Oper.wp;rw[this];exact hn
theorem Du{next:Act->World->Prop}{Q:Exit->Act->World->Prop}
  (hop:o.op=.store t p v) (hp:a.eval p=.pointer (some ⟨w.heap.size,0,none⟩)) (hv:a.eval v=.agg c') (hi:(P.info? t).map (·.size)=some c'.size) (ho:c.size=c'.size) (h1:c'.all (·.oneCell')=true)
  (hn:next (a.put o.dst undef) (w.alloc (.cells c' t))):o.wp P a (w.alloc (.cells c t)) next Q:=by
 have hl:=run_storeAt_new (P:=P) w t c c' hi ho h1;have:(execOp a.eval o).run P (w.alloc (.cells c t))=.ok .skip (w.alloc (.cells c' t)):=by
  unfold execOp;rw[hop];simp only[hp,hv,yaY,hl,Result.andThen,ybp]
 unfold Oper.wp;rw[this];exact hn
theorem wpList_load_row{Q:Exit->Act->World->Prop}
  (hg:w.heap[g]?=some (.cells cs t fr)) (hop:o.op=.load ty p) (hw:Region.wanted o (yielded ops a.tmps)=true) (hp:a.eval p=.pointer (some ⟨g,0,none⟩)) (hu:lG P ty=true) (hi:(P.info? ty).map (·.size)=some cs.size)
  (hn:wpList P ops Q rest (a.put o.dst (.agg cs)) w):wpList P ops Q (o::rest) a w:=
 wpList_step fun K hK=>by rw[if_pos hw];exact wp_load_row hg hop hp hu hi (hK _ _ hn)
theorem mr{Q:Exit->Act->World->Prop}
  (hop:o.op=.store t p v) (hw:Region.wanted o (yielded ops a.tmps)=true) (hp:a.eval p=.pointer (some ⟨w.heap.size,0,none⟩)) (hv:a.eval v=.agg c') (hi:(P.info? t).map (·.size)=some c'.size) (ho:c.size=c'.size) (h1:c'.all (·.oneCell')=true)
  (hn:wpList P ops Q rest (a.put o.dst undef) (w.alloc (.cells c' t))):wpList P ops Q (o::rest) a (w.alloc (.cells c t)):=
 wpList_step fun K hK=>by rw[if_pos hw];exact Du hop hp hv hi ho h1 (hK _ _ hn)
theorem wpList_store_row{Q:Exit->Act->World->Prop}
  (hg:w.heap[g]?=some (.cells old t (0,0))) (hop:o.op=.store ty p v) (hw:Region.wanted o (yielded ops a.tmps)=true) (hp:a.eval p=.pointer (some ⟨g,0,none⟩)) (hv:a.eval v=.agg cells) (hi:(P.info? ty).map (·.size)=some cells.size)
  (ho:old.size=cells.size) (h1:cells.all (·.oneCell')=true) (hn:wpList P ops Q rest (a.put o.dst undef) (w.setRow g cells)):wpList P ops Q (o::rest) a w:=by
 refine wpList_step fun K hK=>?_;rw[if_pos hw];have hl:(Instr.storeAt ty (.pointer (some ⟨g,0,none⟩)) (.agg cells)).run P w=.ok () (w.setRow g cells):=by
  simp only[Instr.storeAt,Instr.sureAddr,yaY,ybp,Result.andThen];exact run_storeVar_row w g t ty old cells hg hi ho h1
 have:(execOp a.eval o).run P w=.ok .skip (w.setRow g cells):=by
  unfold execOp;rw[hop];simp only[hp,hv,yaY,hl,Result.andThen,ybp]
 unfold Oper.wp;rw[this];exact hK _ _ hn
theorem aO(h:W.heap[g]?=some (.cells old t (0,0))):(W.setRow g cells).heap[g]?=some (.cells cells t (0,0)):=setRow_heap W g old cells t _ h
theorem aj{f:Func}{j:Nat}{v:Value}(hr:f.results=#[.cell i t,.tmp j])(hp:tmps.getD i undef=.pointer (some ⟨b,0,none⟩))(hv:tmps.getD j undef=v)
  (hu:lG P t=true) (hi:(P.info? t).map (·.size)=some cs.size) (h:W.heap[b]?=some (.cells cs t)):(results f tmps).run P W=.ok (.tuple #[.agg cs,v]) W:=by
 obtain⟨d,h1,h2⟩:=nO hu;have hl:(loadVar t ⟨b,0,none⟩).run P W=.ok (.agg cs) W:=by
  cases d<;>first | exact run_loadVar_row W b t t cs _ _ h h1 rfl hi | cases h2
 have hp':tmps[i]?.getD undef=.pointer (some ⟨b,0,none⟩):=by simpa using hp
 have hv':tmps[j]?.getD undef=v:=by simpa using hv
 simp only[results,hr];simp[hp',hv',asAddr,hl,Result.andThen]
theorem vk{f:Func}(hr:f.results=#[.cell i t])(hp:tmps.getD i undef=.pointer (some ⟨b,0,none⟩))
  (hu:lG P t=true) (hi:(P.info? t).map (·.size)=some cs.size) (h:W.heap[b]?=some (.cells cs t)):(results f tmps).run P W=.ok (.agg cs) W:=by
 obtain⟨d,h1,h2⟩:=nO hu;have hl:(loadVar t ⟨b,0,none⟩).run P W=.ok (.agg cs) W:=by
  cases d<;>first | exact run_loadVar_row W b t t cs _ _ h h1 rfl hi | cases h2
 have hp':tmps[i]?.getD undef=.pointer (some ⟨b,0,none⟩):=by simpa using hp
 simp only[results,hr];simp[hp',asAddr,hl]
end Msg
open Go Mem
section
variable {P:Program} {ops:Array Oper} {Q:Exit->Act->World->Prop} {md:Region.Mode} {S:World->Prop} {k i:Nat} {oi:Oper} {fuel:Nat} {listed:Array Bool} {a:Act} {w:World}
theorem zHp (i:Nat)(v:Value)(hi:ops[i]?=some oi)(hS:S w)(h:wpAnyH P md ops Q S fuel (listed.setIfInBounds i true) (a.put oi.dst v) w)
  (hs:Region.noSelect ops=true:=by kernel_rfl) (hf:Region.free md ops listed i=true:=by kernel_rfl) (hr:(Region.ready md ops listed).contains i=true:=by kernel_rfl)
  (hQ:∀c a w,Q (.panic c) (a.put oi.dst v) w->Q (.panic c) a w:=by first | exact fun _ _ _ h=>h | exact fun a b c h=>HQP.out a b _ _ c h) (h1:Region.wanted oi (yielded ops a.tmps)=true:=by kernel_rfl)
  (h2:∀w,S w->(execOp a.eval oi).run P w=.ok (.value v) w:=by intro _ _;kernel_rfl):wpAnyH P md ops Q S (fuel+1) listed a w:=ycr hi hs hf hr hQ (.inl ⟨h1,h2⟩) hS h
theorem zHo (i:Nat)(hi:ops[i]?=some oi)(hS:S w)(h:wpAnyH P md ops Q S fuel (listed.setIfInBounds i true) (a.put oi.dst undef) w)
  (hs:Region.noSelect ops=true:=by kernel_rfl) (hf:Region.free md ops listed i=true:=by kernel_rfl) (hr:(Region.ready md ops listed).contains i=true:=by kernel_rfl)
  (hQ:∀c a w,Q (.panic c) (a.put oi.dst undef) w->Q (.panic c) a w:=by first | exact fun _ _ _ h=>h | exact fun a b c h=>HQP.out a b _ _ c h) (h1:Region.wanted oi (yielded ops a.tmps)=false:=by kernel_rfl):wpAnyH P md ops Q S (fuel+1) listed a w:=ycr hi hs hf hr hQ (.inr ⟨h1,rfl⟩) hS h
theorem zHa (i:Nat)(v:Value)(hi:ops[i]?=some oi)(h2:∀w,S w->(execOp a.eval oi).run P w=.ok (.value v) w)(hS:S w)(h:wpAnyH P md ops Q S fuel (listed.setIfInBounds i true) (a.put oi.dst v) w)
  (hs:Region.noSelect ops=true:=by kernel_rfl) (hf:Region.free md ops listed i=true:=by kernel_rfl) (hr:(Region.ready md ops listed).contains i=true:=by kernel_rfl)
  (hQ:∀c a w,Q (.panic c) (a.put oi.dst v) w->Q (.panic c) a w:=by first | exact fun _ _ _ h=>h | exact fun a b c h=>HQP.out a b _ _ c h) (h1:Region.wanted oi (yielded ops a.tmps)=true:=by kernel_rfl):wpAnyH P md ops Q S (fuel+1) listed a w:=ycr hi hs hf hr hQ (.inl ⟨h1,h2⟩) hS h
theorem zH1 (i:Nat){o:Oper}(ho:ops[i]?=some o)
  (h:∀K:Act->World->Prop,(∀a' w',(S w'/\wpAnyH P md ops Q S fuel (listed.setIfInBounds i true) a' w')->K a' w')->if Region.wanted o (yielded ops a.tmps)=true then Oper.wp P o a w K Q else K (a.put o.dst undef) w)
  (hr:Region.ready md ops listed=[i]:=by kernel_rfl):wpAnyH P md ops Q S (fuel+1) listed a w:=
 wpAnyH_all hr (by simp) (fun j hj=>by rw[yah] at hj;subst hj;exact ybZ ho h)
theorem ztp (i:Nat)(v:Value)(hi:ops[i]?=some oi)(h:bV P md ops Q k S fuel (listed.setIfInBounds i true) (a.put oi.dst v) w)(hS:S w:=by assumption)
  (hs:Region.noSelect ops=true:=by kernel_rfl) (hf:Region.free md ops listed i=true:=by kernel_rfl) (hr:(Region.ready md ops listed).contains i=true:=by kernel_rfl)
  (hk:waits md ops i ops.size k=true:=by kernel_rfl) (hik:i≠k:=by decide) (hl:listed.getD k false=false:=by kernel_rfl) (hsh:qY md ops listed=true:=by kernel_rfl)
  (hQ:∀c a w,Q (.panic c) (a.put oi.dst v) w->Q (.panic c) a w:=by first | exact fun _ _ _ h=>h | exact fun a b c h=>hQP a b _ _ c h | exact fun a b c h=>HQP.out a b _ _ c h) (h1:Region.wanted oi (yielded ops a.tmps)=true:=by kernel_rfl)
  (h2:∀w,(execOp a.eval oi).run P w=.ok (.value v) w:=by intro _;kernel_rfl):bV P md ops Q k S (fuel+1) listed a w:=iw hi hs hf hr hk hik hl hsh hQ (.inl ⟨h1,fun w _=>h2 w⟩) hS h
theorem ztv (i:Nat)(v:Value)(hi:ops[i]?=some oi)(h:bV P md ops Q k S fuel (listed.setIfInBounds i true) (a.put oi.dst v) w)(hS:S w:=by assumption)
  (hs:Region.noSelect ops=true:=by kernel_rfl) (hf:Region.free md ops listed i=true:=by kernel_rfl) (hr:(Region.ready md ops listed).contains i=true:=by kernel_rfl)
  (hk:waits md ops i ops.size k=true:=by kernel_rfl) (hik:i≠k:=by decide) (hl:listed.getD k false=false:=by kernel_rfl) (hsh:qY md ops listed=true:=by kernel_rfl)
  (hQ:∀c a w,Q (.panic c) (a.put oi.dst v) w->Q (.panic c) a w:=by first | exact fun _ _ _ h=>h | exact fun a b c h=>hQP a b _ _ c h | exact fun a b c h=>HQP.out a b _ _ c h) (h1:Region.wanted oi (yielded ops a.tmps)=true:=by kernel_rfl)
  (h2:∀w,S w->(execOp a.eval oi).run P w=.ok (.value v) w:=by intro _ _;go_simp):bV P md ops Q k S (fuel+1) listed a w:=iw hi hs hf hr hk hik hl hsh hQ (.inl ⟨h1,h2⟩) hS h
theorem zTp (i:Nat)(v:Value)(hi:ops[i]?=some oi)(hS:S w)(h:bV P md ops Q k S fuel (listed.setIfInBounds i true) (a.put oi.dst v) w)
  (hs:Region.noSelect ops=true:=by kernel_rfl) (hf:Region.free md ops listed i=true:=by kernel_rfl) (hr:(Region.ready md ops listed).contains i=true:=by kernel_rfl)
  (hk:waits md ops i ops.size k=true:=by kernel_rfl) (hik:i≠k:=by decide) (hl:listed.getD k false=false:=by kernel_rfl) (hsh:qY md ops listed=true:=by kernel_rfl)
  (hQ:∀c a w,Q (.panic c) (a.put oi.dst v) w->Q (.panic c) a w:=by first | exact fun _ _ _ h=>h | exact fun a b c h=>HQP.out a b _ _ c h) (h1:Region.wanted oi (yielded ops a.tmps)=true:=by kernel_rfl)
  (h2:∀w,S w->(execOp a.eval oi).run P w=.ok (.value v) w:=by intro _ _;kernel_rfl):bV P md ops Q k S (fuel+1) listed a w:=iw hi hs hf hr hk hik hl hsh hQ (.inl ⟨h1,h2⟩) hS h
theorem zTa (i:Nat)(v:Value)(hi:ops[i]?=some oi)(h2:∀w,S w->(execOp a.eval oi).run P w=.ok (.value v) w)(hS:S w)(h:bV P md ops Q k S fuel (listed.setIfInBounds i true) (a.put oi.dst v) w)
  (hs:Region.noSelect ops=true:=by kernel_rfl) (hf:Region.free md ops listed i=true:=by kernel_rfl) (hr:(Region.ready md ops listed).contains i=true:=by kernel_rfl)
  (hk:waits md ops i ops.size k=true:=by kernel_rfl) (hik:i≠k:=by decide) (hl:listed.getD k false=false:=by kernel_rfl) (hsh:qY md ops listed=true:=by kernel_rfl)
  (hQ:∀c a w,Q (.panic c) (a.put oi.dst v) w->Q (.panic c) a w:=by first | exact fun _ _ _ h=>h | exact fun a b c h=>HQP.out a b _ _ c h) (h1:Region.wanted oi (yielded ops a.tmps)=true:=by kernel_rfl):bV P md ops Q k S (fuel+1) listed a w:=iw hi hs hf hr hk hik hl hsh hQ (.inl ⟨h1,h2⟩) hS h
theorem zTq (i:Nat)(v:Value)(hi:ops[i]?=some oi)(hQ:∀c a w,Q (.panic c) (a.put oi.dst v) w->Q (.panic c) a w)(hS:S w)(h:bV P md ops Q k S fuel (listed.setIfInBounds i true) (a.put oi.dst v) w)
  (hs:Region.noSelect ops=true:=by kernel_rfl) (hf:Region.free md ops listed i=true:=by kernel_rfl) (hr:(Region.ready md ops listed).contains i=true:=by kernel_rfl)
  (hk:waits md ops i ops.size k=true:=by kernel_rfl) (hik:i≠k:=by decide) (hl:listed.getD k false=false:=by kernel_rfl) (hsh:qY md ops listed=true:=by kernel_rfl)
  (h1:Region.wanted oi (yielded ops a.tmps)=true:=by kernel_rfl)
  (h2:∀w,S w->(execOp a.eval oi).run P w=.ok (.value v) w:=by intro _ _;kernel_rfl):bV P md ops Q k S (fuel+1) listed a w:=iw hi hs hf hr hk hik hl hsh hQ (.inl ⟨h1,h2⟩) hS h
theorem zT1 (i:Nat){o:Oper}(ho:ops[i]?=some o)
  (h:∀K:Act->World->Prop,(∀a' w',((listed.setIfInBounds i true).getD k false=true\/S w')/\bV P md ops Q k S fuel (listed.setIfInBounds i true) a' w'->K a' w')->if Region.wanted o (yielded ops a.tmps)=true then Oper.wp P o a w K Q else K (a.put o.dst undef) w)
  (hr:Region.ready md ops listed=[i]:=by kernel_rfl):bV P md ops Q k S (fuel+1) listed a w:=
 yJ hr (by simp) (fun j hj=>by rw[yah] at hj;subst hj;exact ybZ ho h)
theorem zA1 (i:Nat){o:Oper}(ho:ops[i]?=some o)
  (h:∀K:Act->World->Prop,(∀a' w',wpAny P md ops Q fuel (listed.setIfInBounds i true) a' w'->K a' w')->if Region.wanted o (yielded ops a.tmps)=true then Oper.wp P o a w K Q else K (a.put o.dst undef) w)
  (hr:Region.ready md ops listed=[i]:=by kernel_rfl):wpAny P md ops Q (fuel+1) listed a w:=
 wpAny_all hr (by simp) (fun j hj=>by rw[yah] at hj;subst hj;exact ybZ ho h)
end
section
variable {P:Program} {ops:Array Oper} {rest:List Oper} {o:Oper} {a:Act} {Q:Exit->Act->World->Prop} {w:World} {t ty:TypeId} {p v:Operand} {g:Nat} {cs old c c':Array Value} {fr:Nat×Nat}
open Msg
theorem zLr (hop:o.op=.load ty p)(hg:w.heap[g]?=some (.cells cs t fr))(hn:wpList P ops Q rest (a.put o.dst (.agg cs)) w)(hw:Region.wanted o (yielded ops a.tmps)=true:=by exact rfl)(hp:a.eval p=.pointer (some ⟨g,0,none⟩):=by exact rfl)(hu:lG P ty=true:=by kernel_rfl)(hi:(P.info? ty).map (·.size)=some cs.size:=by kernel_rfl):wpList P ops Q (o::rest) a w:=
 Msg.wpList_load_row hg hop hw hp hu hi hn
theorem zSr (hop:o.op=.store ty p v)(hg:w.heap[g]?=some (.cells old t (0,0)))(hn:wpList P ops Q rest (a.put o.dst undef) (w.setRow g cs))(hw:Region.wanted o (yielded ops a.tmps)=true:=by exact rfl)(hp:a.eval p=.pointer (some ⟨g,0,none⟩):=by exact rfl)(hv:a.eval v=.agg cs:=by exact rfl)(hi:(P.info? ty).map (·.size)=some cs.size:=by kernel_rfl)(ho:old.size=cs.size:=by exact rfl)(h1:cs.all (·.oneCell')=true:=by kernel_rfl):wpList P ops Q (o::rest) a w:=
 Msg.wpList_store_row hg hop hw hp hv hi ho h1 hn
theorem zNr (hop:o.op=.store t p v)(hn:wpList P ops Q rest (a.put o.dst undef) (w.alloc (.cells c' t)))(hw:Region.wanted o (yielded ops a.tmps)=true:=by exact rfl)(hp:a.eval p=.pointer (some ⟨w.heap.size,0,none⟩):=by exact rfl)(hv:a.eval v=.agg c':=by exact rfl)(hi:(P.info? t).map (·.size)=some c'.size:=by kernel_rfl)(ho:c.size=c'.size:=by exact rfl)(h1:c'.all (·.oneCell')=true:=by kernel_rfl):wpList P ops Q (o::rest) a (w.alloc (.cells c t)):=
 Msg.mr hop hw hp hv hi ho h1 hn
end
