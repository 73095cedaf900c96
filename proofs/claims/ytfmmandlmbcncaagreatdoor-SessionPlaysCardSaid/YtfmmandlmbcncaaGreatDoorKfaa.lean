/-A part of the proof.-/
import Derived.WalkKit
import Derived.OrdersHeld
import Derived.KernelRfl
import Derived.Lib.Hide
import Derived.Below
import Derived.Test.YtfmmandlmbcncaaGreatDoorProg
set_option maxHeartbeats 40000000
set_option maxRecDepth 100000
set_option linter.all false
namespace Go.Proofs.YtfmmandlmbcncaaGreatDoor
open Go Go.RowKit
variable{W W':World}{a:Act}{cs:Array Value}{f g i k:Nat}{fr:Nat×Nat}{o:Obj}{oi:Oper}{p:Operand}{t ty:TypeId}
def yaA:=@Go.RowKit.Below.heap_setCell
def yaB:=@Go.wp_region_held
def yaC:=@Go.World.ownsRow_nil
def yaD:=@List.append_nil
def yaE:=@List.take_add_one
def yaF:=@List.length_cons
def yaG:=@decide_eq_true_eq
def yaH:=@List.flatMap_cons
def yaI:=@List.head_eq_of_cons_eq
def yaJ:=@Go.results_none
def yaK:=@Go.World.cell?_of_block
def yaL:=@Go.bodyPost_end
def yaM:=@List.length_drop
def yaN:=@List.mem_append_left
def yaO:=@Go.World.block_lt_of_cell?
def yaP:=@Go.IntKind.wrap_i64
def yaQ:=@List.mem_append
def yaR:=@Nat.le_of_eq
def yaS:=@List.any_eq_false
def yaT:=@UInt8.toNat_ofNat'
def yaU:=@Bool.or_eq_false_iff
def yaV:=@List.length_take
def yaW:=@List.getD_eq_getElem?_getD
def yaX:=@Bool.true_and
def yaY:=@Go.Sem.run_bind
def yaZ:=@Nat.le_of_lt
def yaa:=@decide_eq_true
def yab:=@List.length_append
def yac:=@List.getElem?_eq_getElem
def yad:=@decide_eq_false
def yae:=@Nat.le_trans
def yaf:=@Option.some.inj
def yag:=@Nat.le_refl
def yah:=@List.mem_singleton
def yai:=@decide_eq_true_iff
def yaj:=@Go.RowKit.Below.refl
def yak:=@List.take_of_length_le
def yal:=@List.not_mem_nil
def yam:=@Nat.zero_le
def yan:=@List.mem_of_getElem?
def yao:=@List.getElem?_eq_some_iff
def yap:=@beq_eq_false_iff_ne
def yaq:=@Bool.and_eq_true
def yar:=@of_decide_eq_true
def yas:=@List.mem_cons
def yat:=@List.eq_nil_of_length_eq_zero
def yau:=@List.take_succ_eq_append_getElem
def yav:=@List.append_assoc
def yaw:=@Nat.lt_irrefl
def yax:=@And.intro
def yay:=@Go.bodyPost_ret
def yaz:=@Nat.lt_of_lt_of_le
def ybA:=@Array.getElem?_eq_some_iff
def ybB:=@List.getElem?_append_right
def ybC:=@Go.Value.slice.inj
def ybD:=@Option.getD_some
def ybE:=@List.cons_append
def ybF:=@Go.World.size_alloc
def ybG:=@List.take_length
def ybH:=@Array.getElem?_push_size
def ybI:=@List.getElem?_take_of_lt
def ybK:=@List.getElem_mem
def ybL:=@Nat.zero_add
def ybM:=@List.mem_map
def ybN:=@Option.some.injEq
def ybO:=@List.nil_append
def ybP:=@List.mem_append_right
def ybQ:=@of_decide_eq_false
def ybR:=@Go.RowKit.Below.heap_alloc
def ybS:=@List.map_cons
def ybT:=@decide_eq_false_iff_not
def ybU:=@Prod.mk.injEq
def ybV:=@List.flatMap_append
def ybW:=@Int.tmod_eq_emod_of_nonneg
def ybX:=@List.all_eq_true
def ybY:=@Nat.lt_succ_self
def ybZ:=@Go.wpOp_step
def yba:=@Go.setRow_other
def ybb:=@List.take_succ_cons
def ybc:=@Nat.mul_le_mul_right
def ybd:=@List.getElem?_cons_succ
def ybe:=@List.getElem?_append_left
def ybf:=@List.take_append_drop
def ybg:=@List.length_singleton
def ybh:=@List.getElem?_map
def ybi:=@Go.IntKind.wrap_u64
def ybj:=@List.length_nil
def ybk:=@Bool.eq_iff_iff
def ybl:=@List.length_map
def ybm:=@List.getElem?_eq_none
def ybn:=@List.flatMap_nil
def ybo:=@UInt8.toNat_lt
def ybp:=@Go.Sem.run_pure
def ybq:=@Go.ByteArray.toList_eq
def ybr:=@Int.toNat_of_nonneg
def ybs:=@Bool.not_eq_true
def ybt:=@Array.getElem?_eq_getElem
def ybu:=@Option.toList_some
def ybv:=@Go.World.size_setCell
def ybw:=@UInt8.toNat_inj
def ybx:=@List.getElem?_cons_zero
def yby:=@Go.wpAny_done
def ybz:=@Bool.not_eq_true'
def ycA:=@Array.replicate_succ
def ycB:=@Array.replicate_zero
def ycC:=@Go.IntWalk.u64_in
def ycD:=@List.map_toArray
def ycE:=@List.map_congr_left
def ycF:=@List.append_toArray
def ycG:=@Nat.le_succ
def ycH:=@Nat.lt_succ_iff_lt_or_eq
def ycI:=@Go.Addr.add_lit
def ycJ:=@Array.setIfInBounds_comm
def yca:=@List.getElem?_drop
def ycb:=@Go.run_underlying
def ycc:=@List.drop_eq_getElem_cons
def ycd:=@Array.getElem_modify_self
def ycf:=@Nat.mul_one
def ycg:=@List.all_append
def ych:=@Go.callsIn_wide
def yci:=@List.getElem?_range
def ycj:=@List.length_pos_iff
def ycl:=@List.flatMap_def
def ycm:=@List.drop_drop
def ycn:=@Go.DataW.trod_int
def yco:=@Go.World.cell?_alloc_mark
def ycq:=@List.getElem?_take
def ycr:=@Go.wpAnyH_take
def ycs:=@Exists.intro
def yct:=@Int.toNat_natCast
def ycu:=@Go.Result.andThen_ok
def ycw:=@List.all_eq_false
def ycx:=@Go.DataW.trod_string
def ycy:=@Go.RowKit.Below.setCell
def ycz:=@List.mem_of_mem_take
theorem aN(W:World)(o:Obj):(W.alloc o).heap[W.heap.size]?=some o:=by show (W.heap.push o)[W.heap.size]?=some o;exact ybH
theorem bN(W:World)(o:Obj):Below W.heap.size W (W.alloc o):=(yaj _ _).alloc (yag _) _
theorem aE(h:W.alloc o=W'):W'.heap[W.heap.size]?=some o:=by rw[<-h];exact aN _ _
theorem bE(h:W.alloc o=W'):Below W.heap.size W W':=by rw[<-h];exact bN _ _
theorem lA{α:Type}{xs:Array α}{a:α}(h:xs[i]?=some a):i<xs.size:=(ybA.1 h).1
theorem _root_.Go.RowKit.Below.q(hb:Below W.heap.size W W')(h:W.heap[i]?=some o):W'.heap[i]?=some o:=(hb.block _ (lA h)).trans h
theorem hmO:Tryz.prog.follows .mixedOrders=true:=by kernel_rfl
abbrev pp (b k:Nat):Value:=.pointer (some ⟨b,k,none⟩)
def zB (md:Region.Mode)(ops:Array Oper)(b:Nat):List Nat->Array Bool->Bool
 | [],_=>true
 | i::r,l=>(match ops[i]? with
  | none=>false
  | some o=>Region.free md ops l i&&(Region.ready md ops l).contains i&&o.dst==some (b+i))&&zB md ops b r (l.setIfInBounds i true)
def zR (P:Program)(ops:Array Oper)(b:Nat):List Nat->List Value->Act->List (World->Result Next)
 | i::r,v::vs,a=>(match ops[i]? with
  | none=>fun w=>.ok (.value undef) w
  | some o=>fun w=>if Region.wanted o (yielded ops a.tmps) then (execOp a.eval o).run P w else .ok (.value undef) w)::zR P ops b r vs (a.put (some (b+i)) v)
 | _,_,_=>[]
def zX (l:List Value):List (World->Result Next):=l.map fun v w=>.ok (.value v) w
def zL:List Nat->Array Bool->Array Bool
 | [],l=>l
 | i::r,l=>zL r (l.setIfInBounds i true)
def zF (b:Nat):List Nat->List Value->Act->Act
 | i::r,v::vs,a=>zF b r vs (a.put (some (b+i)) v)
 | _,_,a=>a
attribute [go_sem] zL zF pp
section
variable {P:Program} {ops:Array Oper} {Q:Exit->Act->World->Prop} {md:Region.Mode} {S:World->Prop} {w:World}
theorem zS'(b:Nat):∀(is:List Nat) (vs:List Value) {f:Nat} {listed:Array Bool} {a:Act},is.length=vs.length->S w->wpAnyH P md ops Q S (f-is.length) (zL is listed) (zF b is vs a) w ->
  zB md ops b is listed=true->zR P ops b is vs a=zX vs->Region.noSelect ops=true->is.length<=f ->
  (∀c a d v w,Q (.panic c) (a.put (some d) v) w->Q (.panic c) a w)->wpAnyH P md ops Q S f listed a w
 | [],vs,f,_,_,_,_,h,_,_,_,_,_=>by cases vs<;>exact h
 | i::r,[],_,_,_,hl,_,_,_,_,_,_,_=>by cases hl
 | i::r,v::vs,0,_,_,_,_,_,_,_,_,hf,_=>absurd hf (by simp)
 | i::r,v::vs,f+1,li,a,hl,hS,h,hb,hr,hs,hf,hQ=>by
  unfold zB at hb
  unfold zR zX at hr
  cases ho:ops[i]? with
  | none=>rw[ho] at hb;simp at hb
  | some o=>
   rw[ho] at hr hb
   simp only[ybS,List.cons.injEq,yaq,beq_iff_eq] at hr hb
   obtain⟨⟨⟨h1,h2⟩,h3⟩,h6⟩:=hb
   obtain⟨h4,h5⟩:=hr
   have hd:o.dst=some (b+i):=h3
   refine ycr (v:=v) ho hs h1 h2 (fun c a w=>by rw[hd];exact hQ c a _ _ w) ?_ hS ?_
   ·by_cases hw:Region.wanted o (yielded ops a.tmps)=true
    ·exact .inl ⟨hw,fun w _=>by have:=congrFun h4 w;rw[if_pos hw] at this;exact this⟩
    ·refine .inr ⟨by simpa using hw,?_⟩
     have:=congrFun h4 w
     rw[if_neg hw] at this
     injection this with this
     injection this with this
     exact this.symm
   ·rw[hd]
    refine zS' b r vs (by simpa using hl) hS ?_ h6 h5 hs (by simpa using hf) hQ
    simpa [zL,zF] using h
theorem zS(b:Nat)(is:List Nat)(vs:List Value){listed:Array Bool}(hS:S w)(h:wpAnyH P md ops Q S (f-is.length) (zL is listed) (zF b is vs a) w)
  (hr:zR P ops b is vs a=zX vs:=by kernel_rfl) (hb:zB md ops b is listed=true:=by decide +kernel) (hs:Region.noSelect ops=true:=by decide +kernel) (hf:Nat.ble is.length f=true:=by decide +kernel) (hl:is.length=vs.length:=by exact rfl)
  (hQ:∀c a d v w,Q (.panic c) (a.put (some d) v) w->Q (.panic c) a w:=by first | exact fun _ _ _ _ _ h=>h | exact HQP.out):wpAnyH P md ops Q S f listed a w:=zS' b is vs hl hS h hb hr hs (Nat.le_of_ble_eq_true hf) hQ
def ldV (P:Program)(ty:TypeId)(cs:Array Value)(k:Nat):Option Value:=
 match P.underlying ty with
 | some (.struct _) | some (.array _ _)=>match P.info? ty with
  | some i=>if k+i.size<=cs.size then some (.agg (cs.extract k (k+i.size))) else none
  | none=>none
 | some _=>cs[k]?
 | none=>none
theorem Qv{o:Oper}{v:Value}
  (hg:w.heap[g]?=some (.cells cs t fr)) (hop:o.op=.load ty p) (hp:a.eval p=.pointer (some ⟨g,k,none⟩)) (hv:ldV P ty cs k=some v):(execOp a.eval o).run P w=.ok (.value v) w:=by
 have hl:(Instr.loadAt ty (.pointer (some ⟨g,k,none⟩))).run P w=.ok v w:=by
  simp only[Instr.loadAt,Instr.sureAddr,yaY,ybp,Result.andThen]
  have hc:∀j,w.cell? ⟨g,j,none⟩=cs[j]?:=fun j=>cell_of_row w g j cs t fr hg
  unfold ldV at hv
  cases hu:P.underlying ty with
  | none=>rw[hu] at hv;cases hv
  | some d=>
   rw[hu] at hv
   by_cases hd:(match d with | .struct _ | .array _ _=>true | _=>false)=true
   ·have hagg:(isAgg ty).run P w=.ok true w:=by
     unfold isAgg
     rw[yaY,ycb hu w]
     cases d<;>simp_all
    have hv':(match P.info? ty with | some i=>if k+i.size<=cs.size then some (.agg (cs.extract k (k+i.size))) else none | none=>none)=some v:=by
     cases d<;>first | exact hv | simp at hd
    cases hq:P.info? ty with
    | none=>rw[hq] at hv';cases hv'
    | some i=>
     rw[hq] at hv'
     dsimp only at hv'
     by_cases hk:k+i.size<=cs.size
     ·rw[if_pos hk] at hv'
      obtain rfl:=yaf hv'
      have hlen:(cs.extract k (k+i.size)).toList.length=i.size:=by simp;omega
      have h2:(loadCells ⟨g,k,none⟩ (cs.extract k (k+i.size)).toList.length).run P w=.ok (cs.extract k (k+i.size)).toList.toArray w:=
       run_loadCells_list (P:=P) w ⟨g,k,none⟩ _ (fun j v hv=>by
        have hadd:(⟨g,k,none⟩:Addr).add j=⟨g,k+j,none⟩:=by unfold Addr.add;split<;>simp_all
        rw[hadd,hc]
        rw[Array.getElem?_toList,Array.getElem?_extract] at hv
        split at hv
        ·exact hv
        ·cases hv)
      rw[hlen,Array.toArray_toList] at h2
      simp[loadVar,yaY,hagg,sizeOf,typeInfo,hq,h2]
     ·rw[if_neg hk] at hv'
      cases hv'
   ·have hagg:(isAgg ty).run P w=.ok false w:=by
     unfold isAgg
     rw[yaY,ycb hu w]
     cases d<;>simp_all
    have hv':cs[k]?=some v:=by
     cases d<;>first | exact hv | simp at hd
    have:=hc k
    simp[loadVar,yaY,hagg,this,hv']
 unfold execOp
 rw[hop]
 simp only[hp,yaY,hl,Result.andThen,ybp]
theorem zHc(i:Nat)(v:Value){listed:Array Bool}(hi:ops[i]?=some oi)(hg:∀w,S w->w.heap[g]?=some (.cells cs t fr))(hS:S w)
  (h:wpAnyH P md ops Q S f (listed.setIfInBounds i true) (a.put oi.dst v) w) (hop:oi.op=.load ty p:=by exact rfl) (hp:a.eval p=.pointer (some ⟨g,k,none⟩):=by exact rfl) (hv:ldV P ty cs k=some v:=by kernel_rfl)
  (hs:Region.noSelect ops=true:=by decide +kernel) (hf:Region.free md ops listed i=true:=by decide +kernel) (hr:(Region.ready md ops listed).contains i=true:=by decide +kernel)
  (hQ:∀c a w,Q (.panic c) (a.put oi.dst v) w->Q (.panic c) a w:=by first | exact fun _ _ _ h=>h | exact fun a b c h=>HQP.out a b _ _ c h) (h1:Region.wanted oi (yielded ops a.tmps)=true:=by kernel_rfl):wpAnyH P md ops Q S (f+1) listed a w:=
 ycr hi hs hf hr hQ (.inl ⟨h1,fun w h=>Qv (hg w h) hop hp hv⟩) hS h
theorem zNe(i:Nat)(v:Value){listed:Array Bool}{t1 t2:TypeId}{x y:Operand}(hi:ops[i]?=some oi)(hS:S w)
  (h:wpAnyH P md ops Q S f (listed.setIfInBounds i true) (a.put oi.dst (.bool false)) w) (hop:oi.op=.binOp .neq t1 x y t2:=by exact rfl) (hx:a.eval x=v:=by exact rfl) (hy:a.eval y=v:=by exact rfl) (hv:(match v with | .int _ _=>true | _=>false)=true:=by exact rfl)
  (hs:Region.noSelect ops=true:=by decide +kernel) (hf:Region.free md ops listed i=true:=by decide +kernel) (hr:(Region.ready md ops listed).contains i=true:=by decide +kernel)
  (hQ:∀c a w,Q (.panic c) (a.put oi.dst (.bool false)) w->Q (.panic c) a w:=by first | exact fun _ _ _ h=>h | exact fun a b c h=>HQP.out a b _ _ c h) (h1:Region.wanted oi (yielded ops a.tmps)=true:=by kernel_rfl):wpAnyH P md ops Q S (f+1) listed a w:=
 ycr hi hs hf hr hQ (.inl ⟨h1,fun w _=>by
  unfold execOp
  rw[hop]
  cases v with
  | int k n=>simp only[hx,hy];simp[go_sem]
  | _=>cases hv⟩) hS h
theorem zp(i:Nat)(v:Value){listed:Array Bool}(hi:ops[i]?=some oi)(h:wpAnyH P md ops Q S f (listed.setIfInBounds i true) (a.put oi.dst v) w)(hS:S w:=by assumption)
  (hs:Region.noSelect ops=true:=by decide +kernel) (hf:Region.free md ops listed i=true:=by decide +kernel) (hr:(Region.ready md ops listed).contains i=true:=by decide +kernel)
  (hQ:∀c a w,Q (.panic c) (a.put oi.dst v) w->Q (.panic c) a w:=by first | exact fun _ _ _ h=>h | exact fun a b c h=>HQP.out a b _ _ c h) (h1:Region.wanted oi (yielded ops a.tmps)=true:=by kernel_rfl)
  (h2:∀w,(execOp a.eval oi).run P w=.ok (.value v) w:=by intro _;kernel_rfl):wpAnyH P md ops Q S (f+1) listed a w:=ycr hi hs hf hr hQ (.inl ⟨h1,fun w _=>h2 w⟩) hS h
theorem zv(i:Nat)(v:Value){listed:Array Bool}(hi:ops[i]?=some oi)(h:wpAnyH P md ops Q S f (listed.setIfInBounds i true) (a.put oi.dst v) w)(hS:S w:=by assumption)
  (hs:Region.noSelect ops=true:=by decide +kernel) (hf:Region.free md ops listed i=true:=by decide +kernel) (hr:(Region.ready md ops listed).contains i=true:=by decide +kernel)
  (hQ:∀c a w,Q (.panic c) (a.put oi.dst v) w->Q (.panic c) a w:=by first | exact fun _ _ _ h=>h | exact fun a b c h=>HQP.out a b _ _ c h) (h1:Region.wanted oi (yielded ops a.tmps)=true:=by kernel_rfl)
  (h2:∀w,S w->(execOp a.eval oi).run P w=.ok (.value v) w:=by intro _ _;go_simp):wpAnyH P md ops Q S (f+1) listed a w:=ycr hi hs hf hr hQ (.inl ⟨h1,h2⟩) hS h
theorem zo(i:Nat){listed:Array Bool}(hi:ops[i]?=some oi)(h:wpAnyH P md ops Q S f (listed.setIfInBounds i true) (a.put oi.dst undef) w)(hS:S w:=by assumption)
  (hs:Region.noSelect ops=true:=by decide +kernel) (hf:Region.free md ops listed i=true:=by decide +kernel) (hr:(Region.ready md ops listed).contains i=true:=by decide +kernel)
  (hQ:∀c a w,Q (.panic c) (a.put oi.dst undef) w->Q (.panic c) a w:=by first | exact fun _ _ _ h=>h | exact fun a b c h=>HQP.out a b _ _ c h) (h1:Region.wanted oi (yielded ops a.tmps)=false:=by kernel_rfl):wpAnyH P md ops Q S (f+1) listed a w:=ycr hi hs hf hr hQ (.inr ⟨h1,rfl⟩) hS h
theorem zC(i:Nat){o:Oper}{listed:Array Bool}{g:FuncId}{args:Array Value}{G:Ending->World->Prop}(ho:ops[i]?=some o)(hc:Calls P g args w G)
  (h:∀e w',G e w'->match e with
   | .returned v=>S w'/\wpAnyH P md ops Q S f (listed.setIfInBounds i true) (a.put o.dst v) w'
   | .panicked c=>Q (.panic c) a w'
   | .outgrown=>LetsOut Q)
  (he:(execOp a.eval o).run P w=.ok (.enter g args) w:=by kernel_rfl) (hr:Region.ready md ops listed=[i]:=by decide +kernel) (hw:Region.wanted o (yielded ops a.tmps)=true:=by kernel_rfl):wpAnyH P md ops Q S (f+1) listed a w:=by
 refine wpAnyH_all hr (by simp) (fun j hj=>?_)
 rw[yah] at hj
 subst hj
 unfold wpOp
 rw[ho]
 dsimp only
 rw[if_pos hw]
 refine .inl ?_
 unfold Oper.wp
 rw[he]
 refine hc.mono fun e w' hg=>?_
 have:=h e w' hg
 cases e<;>exact this
theorem zd{listed:Array Bool}(h:Q .normal a w)(hr:Region.ready md ops listed=[]:=by decide +kernel):wpAnyH P md ops Q S f listed a w:=wpAnyH_done hr h f
end
