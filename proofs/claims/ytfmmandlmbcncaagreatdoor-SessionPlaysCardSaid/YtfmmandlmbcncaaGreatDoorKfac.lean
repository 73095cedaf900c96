/-A part of the proof.-/
import Derived.Test.YtfmmandlmbcncaaGreatDoorKfab
set_option maxHeartbeats 40000000
set_option maxRecDepth 100000
set_option linter.all false
namespace Go.Proofs.YtfmmandlmbcncaaGreatDoor
namespace Mem
open Go
variable{a:Act}{fuel i:Nat}{oi:Oper}{v:Value}{w:World}
section
variable {P:Program} {ops:Array Oper} {Q:Exit->Act->World->Prop} {md:Region.Mode} {S:World->Prop} {k:Nat}
def bV (P:Program)(md:Region.Mode)(ops:Array Oper)(Q:Exit->Act->World->Prop)(k:Nat)(S:World->Prop):Nat->Array Bool->Act->World->Prop
 | 0,listed,a,w=>Region.ready md ops listed=[]/\Q .normal a w
 | fuel+1,listed,a,w=>
  (Region.ready md ops listed=[]->Q .normal a w) /\
  ∀i∈Region.ready md ops listed,wpOp P ops Q i (fun a' w'=>((listed.setIfInBounds i true).getD k false=true\/S w')/\bV P md ops Q k S fuel (listed.setIfInBounds i true) a' w') a w
theorem yE:∀(fuel:Nat) (listed:Array Bool) (a:Act) (w:World),bV P md ops Q k S fuel listed a w->wpAny P md ops Q fuel listed a w
 | 0,_,_,_,h=>h
 | fuel+1,_,_,_,h=>⟨h.1,fun i hi=>wpOp_mono (fun a' w' h'=>yE fuel _ a' w' h'.2) (h.2 i hi)⟩
theorem uZ:∀(fuel:Nat) (listed:Array Bool) (a:Act) (w:World),listed.getD k false=true->wpAny P md ops Q fuel listed a w->bV P md ops Q k S fuel listed a w
 | 0,_,_,_,_,h=>h
 | fuel+1,_,_,_,hk,h=>⟨h.1,fun i hi=>wpOp_mono (fun a' w' h'=>⟨.inl (getD_set_true hk),uZ fuel _ a' w' (getD_set_true hk) h'⟩) (h.2 i hi)⟩
theorem nM{listed:Array Bool}(hr:Region.ready md ops listed=[k])(hk:(listed.setIfInBounds k true).getD k false=true)(h:wpAny P md ops Q fuel listed a w):bV P md ops Q k S fuel listed a w:=by
 cases fuel with
 | zero=>exact h
 | succ fuel=>
  refine⟨h.1,fun i hi=>?_⟩;have he:=hi;rw[hr,yah] at he;subst he;exact wpOp_mono (fun a' w' h'=>⟨.inl hk,uZ fuel _ a' w' hk h'⟩) (h.2 i hi)
def waits (md:Region.Mode)(ops:Array Oper)(i:Nat):Nat->Nat->Bool
 | 0,_=>false
 | f+1,k=>match ops[k]? with
  | some o=>o.after.toList.any fun e=>Region.binds md e&&(e.on==i||waits md ops i f e.on)
  | none=>false
def Shut (md:Region.Mode)(ops:Array Oper)(listed:Array Bool):Prop:=
 ∀j o,ops[j]?=some o->listed.getD j false=true->∀e∈o.after,Region.binds md e=true->listed.getD e.on false=true
theorem DY{listed:Array Bool}(hs:Shut md ops listed)(hi:listed.getD i false=false):∀(f k:Nat),waits md ops i f k=true->∃o,ops[k]?=some o/\∃e∈o.after,Region.binds md e=true/\listed.getD e.on false=false
 | 0,_,h=>by cases h
 | f+1,k,h=>by
  unfold waits at h;cases ho:ops[k]? with
  | none=>rw[ho] at h;cases h
  | some o=>
   rw[ho] at h;simp only[List.any_eq_true,yaq,Bool.or_eq_true,beq_iff_eq] at h;obtain⟨e,he,hb,h2⟩:=h;refine⟨o,rfl,e,by simpa using he,hb,?_⟩;rcases h2 with rfl | h2
   ·exact hi
   obtain⟨o',ho',e',he',hb',hf'⟩:=DY hs hi f e.on h2;cases hc:listed.getD e.on false with
   | false=>rfl
   | true=>rw[hs e.on o' ho' hc e' he' hb'] at hf';cases hf'
theorem Shut.next{j:Nat}{listed:Array Bool}(hs:Shut md ops listed)(hj:j∈Region.ready md ops listed):Shut md ops (listed.setIfInBounds j true):=by
 intro j' o' ho' hl e he hb;obtain⟨_,oj,hoj,hall⟩:=mem_ready.1 hj;by_cases hjj:j=j'
 ·subst hjj;rw[hoj] at ho';obtain rfl:=yaf ho';exact getD_set_true (hall e he hb)
 rw[getD_set_ne false hjj] at hl;exact getD_set_true (hs j' o' ho' hl e he hb)
def qY (md:Region.Mode)(ops:Array Oper)(listed:Array Bool):Bool:=
 (List.range ops.size).all fun j=>!listed.getD j false||((ops[j]?).map fun o=>o.after.toList.all fun e=>!Region.binds md e||listed.getD e.on false).getD true
theorem PQ{listed:Array Bool}(h:qY md ops listed=true):Shut md ops listed:=by
 intro j o ho hl e he hb;unfold qY at h;rw[ybX] at h;have h1:=h j (by rw[List.mem_range];exact (lA ho));rw[hl,ho] at h1;simp only[Option.map_some,ybD,Bool.not_true,Bool.false_or,ybX] at h1;have h2:=h1 e (by simpa using he);rw[hb] at h2;simpa using h2
theorem DT(hi:ops[i]?=some oi)(hsel:∀(j:Nat) (o:Oper) cs b,ops[j]?=some o->o.op≠.select cs b)
  (hQ:∀c a w,Q (.panic c) (a.put oi.dst v) w->Q (.panic c) a w) (hik:i≠k) {f:Nat} (hdep:waits md ops i f k=true) :
  ∀(fuel:Nat) (listed:Array Bool) (a:Act) (w:World),
   (∀j oj,ops[j]?=some oj->j≠i->listed.getD j true=false->(∀e∈oj.after,Region.binds md e=true->e.on≠i)->oi.apart ops oj=true) ->
   i∈Region.ready md ops listed->YieldsIf P ops S oi v a->S w->listed.getD k false=false->Shut md ops listed ->
   bV P md ops Q k S fuel (listed.setIfInBounds i true) (a.put oi.dst v) w->bV P md ops Q k S (fuel+1) listed a w:=by
 intro fuel;induction fuel with
 | zero=>
  intro listed a w _ hr hy hS hk _ H;refine⟨fun h=>(by rw[h] at hr;cases hr),fun j hj=>?_⟩;by_cases hji:j=i
  ·subst hji;exact hy.wpOp hi hS ⟨.inr hS,H⟩
  have:=ready_mono hj hji;rw[H.1] at this;cases this
 | succ fuel ih=>
  intro listed a w hfree hr hy hS hk hsh H;refine⟨fun h=>(by rw[h] at hr;cases hr),fun j hj=>?_⟩;by_cases hji:j=i
  ·subst hji;exact hy.wpOp hi hS ⟨.inr hS,H⟩
  have h1:=H.2 j (ready_mono hj hji);obtain⟨hjun,oj,hoj,hall⟩:=mem_ready.1 hj;have hnot:∀e∈oj.after,Region.binds md e=true->e.on≠i:=fun e he hb heq=>by
   have h1:=hall e he hb;have h0:=(mem_ready.1 hr).1;rw[heq] at h1;rcases Nat.lt_or_ge i listed.size with h' | h'
   ·simp[h'] at h0 h1;rw[h0] at h1;cases h1
   simp[Array.getElem?_eq_none h'] at h1
  have hjk:j≠k:=by
   rintro rfl;have h0:=(mem_ready.1 hr).1;have h0':listed.getD i false=false:=by
    rcases Nat.lt_or_ge i listed.size with h' | h'
    ·simpa [h'] using h0
    simp[Array.getElem?_eq_none h'] at h0
   obtain⟨o',ho',e,he,hb,hf⟩:=DY hsh h0' f j hdep;rw[hoj] at ho';obtain rfl:=yaf ho';rw[hall e he hb] at hf;cases hf
  have hk2:(listed.setIfInBounds j true).getD k false=false:=by rw[getD_set_ne false hjk];exact hk
  have h2:=wpOp_putIf hoj (hfree j oj hoj hji hjun hnot) (fun cs b=>hsel i oi cs b hi) (fun cs b=>hsel j oj cs b hoj) hQ hy h1;have hfree':∀k ok,ops[k]?=some ok->k≠i->(listed.setIfInBounds j true).getD k true=false ->
    (∀e∈ok.after,Region.binds md e=true->e.on≠i)->oi.apart ops ok=true:=fun k ok hk hki hun hno=>by
   refine hfree k ok hk hki ?_ hno;by_cases hjk:j=k
   ·subst hjk;exact hjun
   rw[getD_set_ne true hjk] at hun;exact hun
  refine wpOp_mono (fun a' w' h3=>?_) h2;have hS':S w':=by
   rcases h3.2.1 with h | h
   ·rw[getD_set_ne false hjk,getD_set_ne false hik] at h;rw[hk] at h;cases h
   exact h
  refine⟨.inr hS',ih (listed.setIfInBounds j true) a' w' hfree' (ready_mono hr (Ne.symm hji)) h3.1 hS' hk2 (hsh.next hj) ?_⟩;rw[ycJ _ _ hji];exact h3.2.2
theorem iw{listed:Array Bool}(hi:ops[i]?=some oi)
  (hs:Region.noSelect ops=true) (hf:Region.free md ops listed i=true) (hr:(Region.ready md ops listed).contains i=true)
  (hk:waits md ops i ops.size k=true) (hik:i≠k) (hl:listed.getD k false=false) (hsh:qY md ops listed=true)
  (hQ:∀c a w,Q (.panic c) (a.put oi.dst v) w->Q (.panic c) a w) (hy:YieldsIf P ops S oi v a) (hS:S w)
  (h:bV P md ops Q k S fuel (listed.setIfInBounds i true) (a.put oi.dst v) w):bV P md ops Q k S (fuel+1) listed a w:=
 DT hi (Region.noSelect_spec hs) hQ hik hk fuel listed a w (Region.free_spec hi hf) (by simpa using hr) hy hS hl (PQ hsh) h
theorem yJ{rs:List Nat}{listed:Array Bool}(hr:Region.ready md ops listed=rs)(hne:rs≠[])
  (h:∀i∈rs,wpOp P ops Q i (fun a' w'=>((listed.setIfInBounds i true).getD k false=true\/S w')/\bV P md ops Q k S fuel (listed.setIfInBounds i true) a' w') a w):bV P md ops Q k S (fuel+1) listed a w:=
 ⟨fun h0=>absurd (hr▸h0) hne,hr▸h⟩
theorem dN{id:Nat}(hm:P.follows .mixedOrders=true)
  (h:bV P .any ops Q k S ops.size (Array.replicate ops.size false) a { w with drawn:=w.drawn+1 }):(Code.region id ops true).wp P Q a w:=
 wp_region_any hm (yE _ _ _ _ h)
end
end Mem
namespace Mem
open Go Go.RowKit
variable{a:Act}{i:Nat}{oi:Oper}{v:Value}{w:World}
section
variable {P:Program} {ops:Array Oper} {Q:Exit->Act->World->Prop} {md:Region.Mode} {S:World->Prop} {k:Nat}
theorem BO(hi:ops[i]?=some oi)(hsel:∀(j:Nat) (o:Oper) cs b,ops[j]?=some o->o.op≠.select cs b)
  (hQ:∀c a w,Q (.panic c) (a.put oi.dst v) w->Q (.panic c) a w) (hik:i≠k) :
  ∀(fuel:Nat) (listed:Array Bool) (a:Act) (w:World),
   (∀j oj,ops[j]?=some oj->j≠i->listed.getD j true=false->(∀e∈oj.after,Region.binds md e=true->e.on≠i)->oi.apart ops oj=true) ->
   i∈Region.ready md ops listed->YieldsIf P ops (fun _=>True) oi v a->(listed.getD k false=true\/S w) ->
   bV P md ops Q k S fuel (listed.setIfInBounds i true) (a.put oi.dst v) w->bV P md ops Q k S (fuel+1) listed a w:=by
 intro fuel;induction fuel with
 | zero=>
  intro listed a w _ hr hy hS H;refine⟨fun h=>(by rw[h] at hr;cases hr),fun j hj=>?_⟩;by_cases hji:j=i
  ·subst hji;exact hy.wpOp hi trivial ⟨hS.imp (fun h=>getD_set_true h) id,H⟩
  have:=ready_mono hj hji;rw[H.1] at this;cases this
 | succ fuel ih=>
  intro listed a w hfree hr hy hS H;refine⟨fun h=>(by rw[h] at hr;cases hr),fun j hj=>?_⟩;by_cases hji:j=i
  ·subst hji;exact hy.wpOp hi trivial ⟨hS.imp (fun h=>getD_set_true h) id,H⟩
  have h1:=H.2 j (ready_mono hj hji);obtain⟨hjun,oj,hoj,hall⟩:=mem_ready.1 hj;have hnot:∀e∈oj.after,Region.binds md e=true->e.on≠i:=fun e he hb heq=>by
   have h1:=hall e he hb;have h0:=(mem_ready.1 hr).1;rw[heq] at h1;rcases Nat.lt_or_ge i listed.size with h' | h'
   ·simp[h'] at h0 h1;rw[h0] at h1;cases h1
   simp[Array.getElem?_eq_none h'] at h1
  have h2:=wpOp_putIf hoj (hfree j oj hoj hji hjun hnot) (fun cs b=>hsel i oi cs b hi) (fun cs b=>hsel j oj cs b hoj) hQ hy h1;have hfree':∀k ok,ops[k]?=some ok->k≠i->(listed.setIfInBounds j true).getD k true=false ->
    (∀e∈ok.after,Region.binds md e=true->e.on≠i)->oi.apart ops ok=true:=fun k ok hk hki hun hno=>by
   refine hfree k ok hk hki ?_ hno;by_cases hjk:j=k
   ·subst hjk;exact hjun
   rw[getD_set_ne true hjk] at hun;exact hun
  refine wpOp_mono (fun a' w' h3=>?_) h2;have hS':(listed.setIfInBounds j true).getD k false=true\/S w':=by
   rcases h3.2.1 with h | h
   ·rw[ycJ _ _ (Ne.symm hji),getD_set_ne false hik] at h;exact .inl h
   exact .inr h
  refine⟨hS',ih (listed.setIfInBounds j true) a' w' hfree' (ready_mono hr (Ne.symm hji)) h3.1 hS' ?_⟩;rw[ycJ _ _ hji];exact h3.2.2
theorem iC{fuel:Nat}{listed:Array Bool}(hi:ops[i]?=some oi)
  (hs:Region.noSelect ops=true) (hf:Region.free md ops listed i=true) (hr:(Region.ready md ops listed).contains i=true) (hik:i≠k)
  (hQ:∀c a w,Q (.panic c) (a.put oi.dst v) w->Q (.panic c) a w) (hy:YieldsIf P ops (fun _=>True) oi v a) (hS:listed.getD k false=true\/S w)
  (h:bV P md ops Q k S fuel (listed.setIfInBounds i true) (a.put oi.dst v) w):bV P md ops Q k S (fuel+1) listed a w:=
 BO hi (Region.noSelect_spec hs) hQ hik fuel listed a w (Region.free_spec hi hf) (by simpa using hr) hy hS h
theorem di{o:Oper}{K:Act->World->Prop}{E:Prop}(hgd:o.guard=none)(s x:Operand)(t:TypeId)
  (ho:o.op=.call { callee:=.builtin .append,args:=#[s,x],argTypes:=#[t,t] }) (base:Nat) (e:TypeId) (z:Value) (size bytes:Nat) (T:SliceT P t e z size bytes)
  (v:Value) (n:Nat) (xs:List Value) (hs:a.eval s=v) (hown:w.ownsRow base e size v n xs) (ao:Option Addr) (m c:Nat) (news:List Value) (hx:a.eval x=.slice ao m c) (hr:Rd w size ao m c news) (h1:∀u∈news,u.oneCell'=true)
  (h63:n+m<=maxLen) (hbytes:(n+m)*bytes<=140737488355328) (hbase:base<=w.heap.size)
  (h:∀ao' cap' w',w'.ownsRow base e size (.slice ao' (n+m) cap') (n+m) (xs++news)->w.grownBy w' v.ownBlock->Below base w w'->(ao'=none↔v=.slice none 0 0/\m=0)->K (a.put o.dst (.slice ao' (n+m) cap')) w') :
  if Region.wanted o (yielded ops a.tmps)=true then Oper.wp P o a w K Q else E:=by
 have hw:Region.wanted o (yielded ops a.tmps)=true:=by simp[Region.wanted,hgd]
 rw[if_pos hw];obtain⟨ao',cap',w',hrun,r1,r2,r3,r4⟩:=xk (P:=P) w base t o.type e z size bytes T v n xs hown ao m c news hr h1 h63 hbytes hbase;unfold Oper.wp execOp;simp only[ho,resolve,invoke,builtin,yaY,ybp,ycu,ycD,ybS,List.map_nil,hs,hx,hrun];exact h ao' cap' w' r1 r2 r3 r4
end
