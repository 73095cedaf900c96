/-A part of the proof.-/
import Derived.RangeFuncFrom
import Derived.Sort.QuietIn
import Derived.Deep.OwnRows
import Derived.Handy
import Derived.WalkMore
import Derived.Deep.LoopGhost
import Derived.Test.YtfmmandlmbcncaaGreatDoorKfae
set_option maxHeartbeats 40000000
set_option maxRecDepth 100000
set_option linter.all false
namespace Go.Proofs.YtfmmandlmbcncaaGreatDoor
namespace Tlv
open Go Go.RowKit
variable{A B W W':World}{D:Nat}
def CelKept (W W':World):Prop:=∀(k:Nat) (o:Obj),W.heap[k]?=some o->o.isCells=true->W'.heap[k]?=some o
theorem CelKept.of_below(h:Below W.heap.size W W'):CelKept W W':=fun k _ hk _=>(h.block k (lA hk)).trans hk
theorem CelKept.trans{C:World}(h:CelKept A B)(k:CelKept B C):CelKept A C:=fun j o h1 h2=>k j o (h j o h1 h2) h2
theorem CelKept.put(h:CelKept A B){l:Nat}{o o':Obj}(hl:B.heap[l]?=some o)(ho:o.isCells=false):CelKept A (B.putObj l o'):=by
 intro j u h1 h2;have h3:=h j u h1 h2;have:j≠l:=by rintro rfl;rw[h3] at hl;cases hl;rw[h2] at ho;cases ho
 exact (World.putObj_heap_other this).trans h3
def SI {α:Type}(F:Fence)(n:Nat)(P:Program)(g:Nat)(lb:Array Value)(encs:α->Array Value)(Kp:World->World->Prop)(G Fr:α->World->Prop)(S Sp:List α->Prop)(N:Nat)(w:World):Prop:=
 ∀(l:Nat) (J Jx:List α->World->Prop) (W:World),Below w.heap.size w W->AbidesFrom W.heap.size J->AbidesFrom W.heap.size Jx ->
  (∀pre x W1,G x W1->Sp (pre++[x])->(∃W0,J pre W0/\Fr x W0/\CelKept W0 W1)->J pre W1->pre.length<N->YieldAt F (n-1) P l (encs x) W1 fun e W'=>
   (e=.returned (.bool true)/\J (pre++[x]) W'/\Kp W1 W')\/(e=.returned (.bool false)/\Jx (pre++[x]) W')) ->
  J [] W->CallsIn F n P g (#[.func (.yield l) #[] #[]]++lb) W fun e W'=>(∃v,e=.returned v)/\((∃xs,S xs/\J xs W')\/(∃pre,Sp pre/\Jx pre W'))
def Tt {α:Type}(Kp:World->World->Prop)(I:List α->World->Prop)(Ix:List α->World->Prop)(xs:List α)(W:World):Exit->Act->World->Prop
 | .normal,_,W'=>KeepsOthers W W'/\Kp W W'/\I xs W'
 | .ret,_,W'=>KeepsOthers W W'/\Ix xs W'
 | _,_,_=>False
def tu (fn:Nat)(a:Act)(ps:Array Tmp)(assign body:Code)(D:Nat)(st:LoopState)(pe:Option Code):Loop:={ state:=st,pending:=pe,fn,tmps:=a.tmps,params:=ps,assign,body,defers:=D }
structure LaidG (D:Nat)(lp:Loop)(W:World):Prop where
 loop:W.heap[D+1]?=some (.loop lp)
 defers:W.heap[D]?=some (.deferred (some []))
theorem LaidG.lt{lp:Loop}(h:LaidG D lp W):D+1<W.heap.size:=lA h.loop
theorem LaidG.turn{lp:Loop}(h:LaidG D lp W)(lp':Loop):LaidG D lp' (W.putObj (D+1) (.loop lp')):=
 ⟨World.putObj_heap_same h.lt,(World.putObj_heap_other (by omega)).trans h.defers⟩
theorem LaidG.keeps{lp:Loop}(h:LaidG D lp W)(k:KeepsOthers W W'):LaidG D lp W':=⟨k.same _ _ h.loop rfl,k.same _ _ h.defers rfl⟩
theorem LaidG.walks{B:Nat}{lp:Loop}{row:Option Nat}(h:LaidG D lp W)(hg:W.grownBy W' row)(hr:∀r,row=some r->B<=r/\∃o:Obj,W.heap[r]?=some o/\o.isWalk=true):LaidG D lp W':=
 ⟨(grownBy_keeps hg (fun r e=>(hr r e).2) h.loop rfl).trans h.loop,(grownBy_keeps hg (fun r e=>(hr r e).2) h.defers rfl).trans h.defers⟩
theorem QY{α:Type}{F:Fence}{n:Nat}{P:Program}{g:Operand}{ps:Array Tmp}{assign body:Code}{Q:Exit->Act->World->Prop}{a:Act}{w:World}
  (hro:F.round=none) (h1:1<=n) {gf:Nat} {lb:Array Value} (hg:a.eval g=.func (.func gf) #[] lb) (hFg:F.fn gf) (eg:∀args w,(callFunc gf args).run P w=.ok (.enter gf args) w)
  {encs:α->Array Value} {Kp:World->World->Prop} {G Fr:α->World->Prop} {S Sp:List α->Prop} {N:Nat} {w0:World} (hseq:SI F (n-1) P gf lb encs Kp G Fr S Sp N w0)
  (hKt:∀ {A B C:World},Kp A B->Kp B C->Kp A C) (hKb:∀(W:World) (l:Nat) (o o':Obj),w.heap.size<=l->W.heap[l]?=some o->o.isCells=false->o.isWalk=false->Kp W (W.putObj l o'))
  (hb0:Below w0.heap.size w0 w) (hps:∀x,(encs x).size=ps.size)
  (I Ix:List α->World->Prop) (hI:OwnFrom w.heap.size I) (hIx:OwnFrom w.heap.size Ix) (hG:OwnFrom w.heap.size G) (h0:I [] w) (a₁:α->Act)
  (hassign:∀(l:Nat) (x:α) (W:World) (K:Act->World->Prop),K (a₁ x) W ->
   assign.wpIn (F.inRound l) (n-1-1) P (Exit.then K (fun _ _ _=>False)) { tmps:=(ps.zip (encs x)).foldl (fun t (p,v)=>t.setIfInBounds p v) a.tmps,defers:=[] } W)
  (hbody:∀(l:Nat) (pre:List α) (x:α) (W:World),G x W->Sp (pre++[x])->(∃W0,I pre W0/\Fr x W0/\CelKept W0 W)->I pre W->pre.length<N->body.wpIn (F.inRound l) (n-1-1) P (Tt Kp I Ix (pre++[x]) W) (a₁ x) W)
  (hdone:∀(D:Nat) (xs:List α) (W:World),w.heap.size<=D->S xs->I xs W->W.heap[D]?=some (.deferred (some []))->Q .normal { a with defers:={ target:=.collected D,args:=#[] }::a.defers } W)
  (hstop:∀(D:Nat) (pre:List α) (W:World),w.heap.size<=D->Sp pre->Ix pre W->W.heap[D]?=some (.deferred (some []))->Code.ret.wpIn F n P Q { a with defers:={ target:=.collected D,args:=#[] }::a.defers } W) :
  (Code.rangeFunc g ps assign body).wpIn F n P Q a w:=by
 refine wpIn_rangeFunc fun fn hfn=>?_;rw[hro];obtain⟨V,hV⟩:∃V,V=(w.alloc (.deferred (some []))).alloc (.loop (tu fn a ps assign body w.heap.size .ready none)):=⟨_,rfl⟩
 have hsz:V.heap.size=w.heap.size+2:=by rw[hV];simp
 have laid:LaidG w.heap.size (tu fn a ps assign body w.heap.size .ready none) V:=by
  rw[hV];exact⟨by have:=World.alloc_heap_new (w.alloc (.deferred (some []))) (.loop (tu fn a ps assign body w.heap.size .ready none));rwa [ybF] at this,
   (ybR _ _ _ (by simp)).trans (World.alloc_heap_new w _)⟩
 have hIV:I [] V:=by rw[hV];exact hI.alloc _ (hI.alloc _ h0)
 have hbV:Below w0.heap.size w0 V:=by
  rw[hV];exact hb0.trans ((((yaj _ w).alloc (yag _) _).alloc (by simp) _).mono hb0.size)
 have notWalk:∀ {A:World} {row:Option Nat},(∀r,row=some r->V.heap.size<=r/\∃o:Obj,A.heap[r]?=some o/\o.isWalk=true)->∀r,row=some r->w.heap.size<=r/\∃o:Obj,A.heap[r]?=some o/\o.isCells=false:=
  fun hr r e=>by obtain⟨hB,o,ho,hw⟩:=hr r e;exact⟨by omega,o,ho,Obj.not_cells_of_walk hw⟩
 refine⟨w.heap.size+1,[{ target:=.collected w.heap.size,args:=#[] }],V,{ target:=.fn (.func gf) lb,args:=#[.func (.yield (w.heap.size+1)) #[] #[]] },V,gf,
  #[.func (.yield (w.heap.size+1)) #[] #[]]++lb,V,by rw[hV];exact run_enterLoop_outer _ _ _ _ _,by simp only[resolve,hg];simp[go_sem],?_,by simp[invoke,go_sem,eg],fun _=>h1,?_⟩
 ·intro f' hf';simp[Target.leads] at hf';subst hf';exact hFg
 refine (hseq (w.heap.size+1) (fun pre W=>I pre W/\LaidG w.heap.size (tu fn a ps assign body w.heap.size .ready none) W)
  (fun pre W=>Ix pre W/\LaidG w.heap.size (tu fn a ps assign body w.heap.size .done (some .ret)) W) V hbV
  (fun s A B row h hg' hr=>⟨hI s A B row h.1 hg' (notWalk hr),h.2.walks hg' hr⟩) (fun s A B row h hg' hr=>⟨hIx s A B row h.1 hg' (notWalk hr),h.2.walks hg' hr⟩) ?round ⟨hIV,laid⟩).mono ?behind
 case round=>
  rintro pre x W hGx hSx ⟨W0,⟨hI0,_⟩,hF0,hk0⟩ ⟨hIW,lW⟩ hlen;have hy:=run_yield (P:=P) (args:=encs x) lW.loop (by exact hps x);refine⟨fn,_,assign,body,hy,roundIn_of_wpIn hfn (hassign _ x W _ ⟨_,run_beginRound lW.loop rfl,?_⟩)⟩;have lB:=lW.turn { tu fn a ps assign body w.heap.size .ready none with state:=.busy };have kB:=hKb W (w.heap.size+1) _ (.loop { tu fn a ps assign body w.heap.size .ready none with state:=.busy }) (by omega) lW.loop rfl rfl;refine wpIn_mono (hbody _ pre x _ (hG.putObj _ hGx (by omega) lW.loop rfl) hSx ⟨W0,hI0,hF0,hk0.put lW.loop rfl⟩ (hI.putObj _ hIW (by omega) lW.loop rfl) hlen) ?_;rintro e a3 W3 hp;cases e with
  | normal=>
   obtain⟨k3,kp3,hI3⟩:=hp;have l3:=lB.keeps k3;exact⟨_,_,run_endRound (P:=P) none l3.loop,.inl ⟨rfl,⟨hI.putObj _ hI3 (by omega) l3.loop rfl,l3.turn _⟩,hKt (hKt kB kp3) (hKb _ _ _ _ (by omega) l3.loop rfl rfl)⟩⟩
  | ret=>
   obtain⟨k3,hI3⟩:=hp;have l3:=lB.keeps k3;exact⟨_,_,run_endRound (P:=P) (some .ret) l3.loop,.inr ⟨rfl,hIx.putObj _ hI3 (by omega) l3.loop rfl,l3.turn _⟩⟩
  | exit id=>exact hp.elim
  | goto t=>exact hp.elim
  | panic ch=>exact hp.elim
  | outgrown=>exact hp.elim
 case behind=>
  rintro e W2 ⟨⟨v,rfl⟩,(⟨xs,hS,hi,lW⟩ | ⟨pre,hSp,hi,lW⟩)⟩
  ·exact⟨none,_,run_endLoop (P:=P) lW.loop (by simp[tu]),hdone _ xs _ (yag _) hS (hI.putObj _ hi (by omega) lW.loop rfl) ((World.putObj_heap_other (by omega)).trans lW.defers)⟩
  exact⟨some .ret,_,run_endLoop (P:=P) lW.loop (by simp[tu]),hstop _ pre _ (yag _) hSp (hIx.putObj _ hi (by omega) lW.loop rfl) ((World.putObj_heap_other (by omega)).trans lW.defers)⟩
end Tlv
namespace Tlv
open Go.RowKit Mem
variable{B cap f k n:Nat}{W W' w:World}{ao:Option Addr}{l:List UInt8}
attribute [local go_sem] Oper.semAt_some
structure El where
 it:It
 ao:Option Addr
 cap:Nat
def elV (x:El):Array Value:=#[.int .u8 (x.it.1.toNat:Int),.slice x.ao x.it.2.length x.cap]
def elG (x:El)(W:World):Prop:=Rd W 1 x.ao x.it.2.length x.cap (byV x.it.2)
theorem sF{row:Option Nat}{xs:List Value}(h:Rd W 1 ao n cap xs)(hg:W.grownBy W' row)(hr:∀r,row=some r->∃o:Obj,W.heap[r]?=some o/\o.isCells=false):Rd W' 1 ao n cap xs:=by
 obtain⟨h1,h2,h3,h4,h5⟩:=h;refine⟨h1,h2,h3,h4,fun h0 a ha=>?_⟩;obtain⟨s,l,c⟩:=h5 h0 a ha;exact⟨s,yaz l hg.size,fun j u hu=>cell_kept (c j u hu) hg hr⟩
theorem TJ(h:ao=none\/∃b,n<=b/\ao=some ⟨b,0,none⟩):∀a,ao=some a->n<=a.block:=by
 rintro a ha;rcases h with h | ⟨b,h1,h2⟩
 ·rw[h] at ha;cases ha
 rw[h2] at ha;cases ha;exact h1
def RF (x:El)(W:World):Prop:=∀a,x.ao=some a->W.heap.size<=a.block
theorem QM(B:Nat):OwnFrom B elG:=fun _ _ _ _ hs hg hr=>sF hs hg (fun r e=>(hr r e).2)
def came (pre:List El):List It:=pre.map El.it
def SA (rs:List It)(xs:List El):Prop:=came xs=rs
def C9 (rs:List It)(pre:List El):Prop:=∃k,1<=k/\k<=rs.length/\came pre=rs.take k
theorem OA{rs:List It}{x:It}(hk:k<rs.length)(hx:rs[k]?.getD (0,[])=x):rs[k]?=some x:=by
 rw[yac hk] at hx ⊢;simpa using hx
theorem CY{pre:List El}{rs:List It}(h:came pre=rs.take k)(hk:k<=rs.length):pre.length=k:=by
 have:=congrArg List.length h;simp only[came,ybl,yaV] at this;omega
theorem oG{pre:List El}{rs:List It}{x:El}(h:came pre=rs.take k)(hk:k<rs.length)(hx:rs[k]?.getD (0,[])=x.it):came (pre++[x])=rs.take (k+1):=by
 rw[yaE,<-h,OA hk hx];simp[came]
theorem pq{b off:Nat}(h:Rd w 1 (some ⟨b,off,none⟩) n cap (byV l))(hf:f<=n):Rd w 1 (some ⟨b,off+f,none⟩) (n-f) (cap-f) (byV (l.drop f)):=by
 have hl:=h.1;rw[aV] at hl;have:=MF h f (n-f) (cap-f) (by omega) (by have:=h.le;omega) (by have:=h.le;omega)
 rwa [yak (by rw[yaM];omega)] at this
theorem DX{a:Addr}(h:Rd w 1 (some a) n cap (byV l))(hf:f<=n)(hc:cap=f):Rd w 1 (some a) 0 0 (byV (l.drop f)):=by
 have hl:=h.1;rw[aV] at hl;have:=h.le;rw[List.drop_eq_nil_of_le (by omega)];exact FK _ _
def lenOf:Value->Nat
 | .slice _ n _=>n
 | _=>0
theorem KD(h:Below W.heap.size W W'):W.grownBy W' none:=⟨h.os,h.tape,h.output,h.size,fun k hk _=>h.block k hk⟩
theorem qw{J:List El->World->Prop}{pre:List El}(hJ:AbidesFrom B J)(h:J pre W)(hb:Below W.heap.size W W'):J pre W':=hJ _ _ _ none h (KD hb) (fun _ e=>by cases e)
theorem all1_in(m:Nat)(hm:1<=m)(l Bn n0:Nat)(ao:Option Addr)(n cap:Nat)(b:List UInt8)(hn:n<=1000000000)(J Jx:List El->World->Prop)
  (hY:∀pre x W,elG x W->C9 (its b) (pre++[x])->(∃W0,J pre W0/\RF x W0/\CelKept W0 W)->J pre W->pre.length<(its b).length->YieldAt Fence.wide (m-1) Tryz.prog l (elV x) W fun e W'=>
   (e=.returned (.bool true)/\J (pre++[x]) W'/\Below n0 W W')\/(e=.returned (.bool false)/\Jx (pre++[x]) W'))
  (W:World) (hJa:AbidesFrom W.heap.size J) (hBn:W.cell? ⟨Bn,0,none⟩=some (.slice ao n cap)) (hrd:Rd W 1 ao n cap (byV b)) (hlow:0<cap->∀a,ao=some a->a.block<n0) (hn0:n0<=W.heap.size) (h0:J [] W) :
  CallsIn Fence.wide m Tryz.prog 242 #[.func (.yield l) #[] #[],.pointer (some ⟨Bn,0,none⟩)] W fun e W'=>(∃v,e=.returned v) /\
   ((∃xs,SA (its b) xs/\J xs W')\/(∃pre,C9 (its b) pre/\Jx pre W')):=by
 have hb:b.length=n:=by have:=hrd.1;rw[aV] at this;omega
 have HB:=Lib.hid hb;have hAt:=Lib.hid (DK b);have hLast:=Lib.hid (yx b);have hJ:=Lib.hid hY;clear hY hb;generalize hrs:its b=rs at *;clear hrs;refine callsIn_of_wp Tryz.func242 rfl trivial ?_ rfl;simp only[Tryz.ntmps242,List.size_toArray,yaF,ybj,Nat.reduceAdd,Nat.reduceSub,ycA,ycB,List.push_toArray,ycF,ybO,ybE]
 gi_wp2
 gi_loopw [3] (fun p wr=>∃(k:Nat) (pre:List El) (ao':Option Addr) (q c':Nat),k<=rs.length/\p=.slice ao' q c'/\Hid (q=n-ip rs k)/\q<=n/\Rd wr 1 ao' q c' (byV (b.drop (ip rs k))) /\
  (0<c'->∀a,ao'=some a->a.block<n0)/\Hid (came pre=rs.take k)/\J pre wr/\n0<=wr.heap.size) (fun p _=>lenOf p)
 case atStart=>exact⟨0,[],ao,n,cap,yam _,rfl,(by show n=n-ip rs 0;rw[pI];rfl),yag _,(by rw[pI];exact hrd),hlow,rfl,h0,hn0⟩
 case round=>
  obtain⟨k,pre,ao',q,c',hk,rfl,Hq,hqn,hrd',hlow',Hpre,hj,hn0'⟩:=hrel
  gi_wp2_with fail
  refine⟨trivial,?_⟩
  gi_at_call 151
  refine (ych.2 (first_any ao' q c' _ wr hrd' (by omega))).mono ?_;rintro e w1 ⟨hb1,hc1⟩;by_cases hkr:k<rs.length
  ·obtain⟨hx,hf,hip,hle⟩:=hAt.out k hkr;rcases hc1 with ⟨h00,_⟩ | ⟨_,ao2,cap2,rfl,hrd2,_⟩
   ·exact absurd h00 hf
   have hfl:=pK _ hf;have hfp:=iH _ hf;have Hx:=Lib.hid hx;have hip2:=Lib.hid hip;have hq2:fs (b.drop (ip rs k))<=q:=by rw[Hq.out];have:=HB.out;omega
   have hqn2:q-fs (b.drop (ip rs k))=n-ip rs (k+1):=by rw[hip,Hq.out];omega
   have Hqn2:=Lib.hid hqn2;have hdr:b.drop (ip rs (k+1))=(b.drop (ip rs k)).drop (fs (b.drop (ip rs k))):=by rw[ycm,hip]
   have Hdr:=Lib.hid hdr;clear hx hip hle hdr hqn2;generalize hit:hd1 (b.drop (ip rs k))=it at *;generalize hff:fs (b.drop (ip rs k))=f at *;clear hit hff;have f1:((f:Int)==0)=false:=by simp;omega
   have hj1:=qw hJa hj hb1
   gi_wp2_with fail
   refine⟨trivial,?_⟩
   gi_at_call 98
   refine (ych.2 (clone_any ao2 _ cap2 it.2 w1 hrd2 (by omega))).mono ?_;rintro e w2 ⟨ao3,cap3,rfl,hrd3,hb2,hfr⟩;have hj2:=qw hJa hj1 hb2;have hY:=hJ.out pre ⟨it,ao3,cap3⟩ w2 hrd3 ⟨k+1,by omega,by omega,oG Hpre.out hkr Hx.out⟩ ⟨w1,hj1,TJ hfr,CelKept.of_below hb2⟩ hj2 (by rw[CY Hpre.out (yaZ hkr)];exact hkr);obtain⟨fn,tmps,assign,body,hy,hR⟩:=hY;dsimp only[elV] at hy;have HR:=Lib.hid hR;clear hR;obtain⟨b1,o1,e1,hlt1,hcc1⟩:=hrd'.some (by have:=hrd'.le;omega);subst e1;have hqc:=hrd'.le;have hcm:=hrd'.2.2.1;unfold maxLen at hcm;have i0:(0:Int)<=(f:Int):=by omega
   have i1:(f:Int)<=(q:Int):=by omega
   have i2:(f:Int)<=(c':Int):=by omega
   gi_wp2_with fail
   refine HR.out.mono ?_;rintro e W' (⟨rfl,hJ',hb3⟩ | ⟨rfl,hJx'⟩)
   ·have hb12:=(hb1.mono hn0').trans ((hb2.mono (yae hn0' hb1.size)).trans hb3);have hrdW:=hrd'.below hb12 hlow';have hW':=yae hn0' hb12.size;by_cases hcf:c'=f
    ·subst hcf
     gi_wp2
     go_roundw
     case rel=>exact⟨k+1,pre++[_],some ⟨b1,o1,none⟩,q-c',0,by omega,(by simp;omega),Hqn2.out,by omega,(by rw[Hdr.out,show q-c'=0 by omega];exact DX hrdW (by omega) rfl),(fun h=>absurd h (yaw 0)),oG Hpre.out hkr Hx.out,hJ',hW'⟩
     case measure=>simp[lenOf];omega
    have hcf2:¬c' - f=0:=by omega
    gi_wp2
    go_roundw
    case rel=>exact⟨k+1,pre++[_],some ⟨b1,o1+f,none⟩,q-f,c' - f,by omega,by simp,Hqn2.out,by omega,(by rw[Hdr.out];exact pq hrdW (by omega)),(fun h a ha=>by cases ha;exact hlow' (by omega) ⟨b1,o1,none⟩ rfl),oG Hpre.out hkr Hx.out,hJ',hW'⟩
    case measure=>simp[lenOf];omega
   gi_wp2
   refine yay (yaJ rfl _ _ _) rfl ?_;exact⟨⟨_,rfl⟩,.inr ⟨pre++[_],⟨k+1,by omega,by omega,oG Hpre.out hkr Hx.out⟩,hJx'⟩⟩
  obtain rfl:k=rs.length:=by omega
  rcases hc1 with ⟨_,rfl⟩ | ⟨h00,_⟩
  case inr=>exact absurd hLast.out.1 h00
  have hj1:=qw hJa hj hb1;have hend:came pre=rs:=by rw[Hpre.out,yak (yag _)]
  have Hend:=Lib.hid hend;clear hend
  gi_wp2_with fail
  refine⟨trivial,?_⟩
  gi_wp2_with fail
  refine⟨fun _ h=>(by cases h),?_⟩
  gi_wp2
  refine yay (yaJ rfl _ _ _) rfl ?_;exact⟨⟨_,rfl⟩,.inl ⟨pre,Hend.out,hj1⟩⟩
theorem NZ(ao:Option Addr)(n cap:Nat)(w:World):Calls Tryz.prog 232 #[.slice ao n cap] w fun e w'=>e=.returned (.func (.func 242) #[] #[.pointer (some ⟨w.heap.size,0,none⟩)])/\w.alloc (.cells #[.slice ao n cap] 34)=w':=by
 go_in;go_wp2;go_ret;exact⟨rfl,rfl⟩
def itV (xs:List El):List Value:=xs.flatMap fun x=>[.int .u8 (x.it.1.toNat:Int),.slice x.ao x.it.2.length x.cap]
theorem Rt(a b:List El):itV (a++b)=itV a++itV b:=by simp[itV]
theorem itT:SliceT Tryz.prog 222 226 (.agg #[.int .u8 0,.slice none 0 0]) 2 32:=⟨Tryz.underlying222,by kernel_rfl,rfl,by decide⟩
def U4 (B:Nat)(x:El):Prop:=0<x.cap->∀a,x.ao=some a->a.block<B
def allEl (B:Nat)(xs:List El)(W:World):Prop:=∀x∈xs,elG x W/\U4 B x
theorem allEl.below{xs:List El}(h:allEl B xs W)(hb:Below B W W'):allEl B xs W':=fun x hx=>⟨Rd.below (h x hx).1 hb (h x hx).2,(h x hx).2⟩
theorem allEl.snoc{xs:List El}{x:El}(h:allEl B xs W)(h1:elG x W)(h2:U4 B x):allEl B (xs++[x]) W:=by
 intro y hy;rcases yaQ.1 hy with hy | hy
 ·exact h y hy
 rw[yah] at hy;subst hy;exact⟨h1,h2⟩
end Tlv
namespace Tlv
open Go Go.RowKit
variable{a:Act}{l:List Oper}{w:World}
variable {F:Fence} {n:Nat} {P:Program} {ops:Array Oper} {C:World->Prop} {md:Region.Mode}
def Fe (l:List Oper):Bool:=l.all fun o=>match o.op with | .defer _=>false | _=>true
theorem Iw(h:Fe l=true)(i:Nat)(o:Oper)(ho:l.toArray[i]?=some o)(c):o.op≠.defer c:=by
 intro e;have hm:o∈l:=by simp at ho;exact yan ho
 have:=ybX.1 h o hm;rw[e] at this;cases this
theorem ML{l:Nat}{o:Oper}{K:Act->World->Prop}{Q:Exit->Act->World->Prop}(hp:∀c,o.op≠.defer c)(h:o.wpIn F n P a w K Q):o.wpIn (F.inRound l) n P a w K Q:=by
 unfold Oper.wpIn at *;refine⟨h.1,?_⟩;have h2:=h.2;rw[Oper.semAt_plain _ _ _ hp] at h2;rw[Oper.semAt_plain _ _ _ hp];generalize (execOp a.eval o).run P w=r at *;cases r with
 | ok x w'=>cases x<;>exact h2
 | halt x w'=>cases x<;>exact h2
theorem qM{l:Nat}{Q:Exit->Act->World->Prop}(hp:∀(i:Nat) (o:Oper),ops[i]?=some o->∀c,o.op≠.defer c):∀(fuel:Nat) (listed:Array Bool) (a:Act) (w:World),
  wpAnyIn F n P md ops Q fuel listed a w->wpAnyIn (F.inRound l) n P md ops Q fuel listed a w
 | 0,_,_,_,h=>h
 | fuel+1,listed,a,w,h=>by
  refine⟨h.1,fun i hi=>?_⟩;have hh:=h.2 i hi;unfold wpOpIn at *;cases ho:ops[i]? with
  | none=>simp only[ho] at hh ⊢;exact qM hp fuel _ _ _ hh
  | some o=>
   simp only[ho] at hh ⊢;split
   ·rename_i hwd;simp only[hwd,if_true] at hh;exact Oper.wpIn_mono (fun a' w'=>qM hp fuel _ a' w') (ML (hp i o ho) hh)
   rename_i hwd;simp only[hwd] at hh;exact⟨hh.1,qM hp fuel _ _ _ hh.2⟩
theorem yw{r id:Nat}{Q:Exit->Act->World->Prop}(hm:P.follows .mixedOrders=true)(hd:Fe l=true)
  (h:wpAnyIn F n P .any l.toArray Q l.toArray.size (Array.replicate l.toArray.size false) a w.drew):(Code.region id l.toArray true).wpIn (F.inRound r) n P Q a w:=
 wpIn_region_any hm (qM (Iw hd) _ _ _ _ h)
end Tlv
namespace Tlv
open Go.RowKit Go.Shelf Mem
attribute [local go_sem] Oper.semAt_some
theorem jc (ao:Option Addr)(n cap:Nat)(l:List UInt8)(w:World)(hr:Rd w 1 ao n cap (byV l)) :
  (convert 34 9 (.slice ao n cap)).run Tryz.prog w=.ok (.string ⟨l.toArray⟩) w:=
 Ak w 34 9 5 Tryz.underlying34 (by kernel_rfl) (by kernel_rfl) ao n cap l hr
theorem JL {pre:List El}{x:El}{rs:List It}{k:Nat}(hk:pre.length=k)(h:came (pre++[x])=rs.take (pre++[x]).length):rs[k]?.getD (0,[])=x.it:=by
 have h2:=congrArg (fun l=>l[k]?) h;have h3:(pre++[x]).length=k+1:=by simp[hk]
 simp only[h3] at h2;rw[ybI (ybY k)] at h2;rw[<-h2,came,ybh,ybB (by omega)];simp[hk]
theorem O8 (m:Nat)(hm:1<=m)(n0:Nat)(ao:Option Addr)(n cap:Nat)(b:List UInt8)(hn:n<=1000000000)(w:World)(hrd:Rd w 1 ao n cap (byV b))(hlow:0<cap->∀a,ao=some a->a.block<n0)(hn0:n0<=w.heap.size)(Bn:Nat)(hBn:w.cell? ⟨Bn,0,none⟩=some (.slice ao n cap)) :
  SI Fence.wide m Tryz.prog 242 #[.pointer (some ⟨Bn,0,none⟩)] elV (Below n0) elG RF (SA (its b)) (C9 (its b)) (its b).length w:=
 fun l J Jx W hW hJa _ hY h0=>all1_in m hm l Bn n0 ao n cap b hn J Jx hY W hJa ((hW.cell (p:=⟨Bn,0,none⟩) (yaO w _ hBn)).trans hBn) (hrd.later hW) hlow (yae hn0 hW.size) h0
end Tlv
namespace Tlv
open Go.RowKit Mem
variable{B cap g k n size:Nat}{W W' a b w w':World}{ao:Option Addr}{bad:Int}{e:TypeId}{l:List UInt8}{v:Value}{xs:List Value}
def val (t:UInt8)(b:List UInt8):List UInt8:=[t,UInt8.ofNat (b.length / 16777216),UInt8.ofNat (b.length / 65536),UInt8.ofNat (b.length / 256),UInt8.ofNat b.length]++b
theorem zK(t:UInt8)(b:List UInt8)(n:Nat)(hb:b.length=n)(hn:n<=4194304) :
  byV (val t b)=[.int .u8 (t.toNat:Int),.int .u8 ((n:Int) / 16777216),.int .u8 ((n:Int) / 65536),.int .u8 ((n:Int) / 256 % 256),.int .u8 ((n:Int) % 256)]++byV b:=by
 subst hb;have h1:(b.length:Int) / 16777216=((UInt8.ofNat (b.length / 16777216)).toNat:Int):=by rw[yaT];omega
 have h2:(b.length:Int) / 65536=((UInt8.ofNat (b.length / 65536)).toNat:Int):=by rw[yaT];omega
 have h3:(b.length:Int) / 256 % 256=((UInt8.ofNat (b.length / 256)).toNat:Int):=by rw[yaT];omega
 have h4:(b.length:Int) % 256=((UInt8.ofNat b.length).toNat:Int):=by rw[yaT];omega
 rw[h1,h2,h3,h4];rfl
theorem ae(t:UInt8)(b:List UInt8):(val t b).length=5+b.length:=by simp[val];omega
theorem own_ne{ty:TypeId}{cs:Array Value}{fr:Nat×Nat}(hg:W.heap[g]?=some (.cells cs ty fr))(hte:ty≠e)(ho:W.ownsRow B e size v n xs):v.ownBlock≠some g:=by
 rcases ho.2 with ⟨rfl,_⟩ | ⟨g',cap,cur,rfl,_,hg',_⟩
 ·simp[Value.ownBlock]
 intro h;have:g'=g:=by simpa [Value.ownBlock] using h
 subst this;rw[hg] at hg';simp only[ybN,Obj.cells.injEq] at hg';exact hte hg'.2.1
theorem fO{row:Option Nat}(h:Rd W 1 ao n cap xs)(hg:W.grownBy W' row)(hd:0<cap->∀a,ao=some a->some a.block≠row):Rd W' 1 ao n cap xs:=by
 obtain⟨h1,h2,h3,h4,h5⟩:=h;refine⟨h1,h2,h3,h4,fun h0 a ha=>?_⟩;obtain⟨s,l,c⟩:=h5 h0 a ha;exact⟨s,yaz l hg.size,fun j u hu=>(yaK (a:=⟨a.block,a.off+j,none⟩) (hg.block _ l (hd h0 a ha))).trans (c j u hu)⟩
theorem zY{o:Obj}(hk:W.heap[k]?=some o)(hte:∀c fr,o≠.cells c e fr)(ho:W.ownsRow B e size v n xs):v.ownBlock≠some k:=by
 rcases ho.2 with ⟨rfl,_⟩ | ⟨g',cap,cur,rfl,_,hg',_⟩
 ·simp[Value.ownBlock]
 intro h;have:g'=k:=by simpa [Value.ownBlock] using h
 subst this;rw[hk] at hg';exact hte _ _ (yaf hg')
def Stays (g:Nat)(W w':World):Prop:=∀k o,W.heap[k]?=some o->k≠g->(∀c fr,o≠.cells c 5 fr)->w'.heap[k]?=some o
theorem Stays.trans{c:World}(h:Stays g a b)(k:Stays g b c):Stays g a c:=fun j o h1 h2 h3=>k j o (h j o h1 h2 h3) h2 h3
theorem Stays.refl(g:Nat)(a:World):Stays g a a:=fun _ _ h _ _=>h
theorem Stays.of_below(h:Below a.heap.size a b):Stays g a b:=fun j _ hj _ _=>(h.block j (lA hj)).trans hj
theorem Stays.grown(hg:a.grownBy b v.ownBlock)(ho:a.ownsRow B 5 size v n xs):Stays g a b:=fun j _ hj _ hb=>(hg.block j (lA hj) (fun e=>zY hj hb ho e.symm)).trans hj
theorem Stays.set(h:Stays g a b)(i:Nat)(v:Value):Stays g a (b.setCell ⟨g,i,none⟩ v):=fun j o hj hg hb=>(yaA b ⟨g,i,none⟩ v j hg).trans (h j o hj hg hb)
structure WrAt (B g:Nat)(l:List UInt8)(bad:Int)(v:Value)(W:World):Prop where
 at_:W.heap[g]?=some (.cells #[v,.int .i64 bad] 177)
 le:B<=g
 own:W.ownsRow B 5 1 v l.length (byV l)
theorem WrAt.ne(h:WrAt B g l bad v W):v.ownBlock≠some g:=own_ne h.at_ (by decide) h.own
theorem WrAt.lt(h:WrAt B g l bad v W):g<W.heap.size:=lA h.at_
theorem WrAt.store{l':List UInt8}{v':Value}(hat:W.heap[g]?=some (.cells #[v,.int .i64 bad] 177))(hB:B<=g)(ho:W.ownsRow B 5 1 v' l'.length (byV l')):WrAt B g l' bad v' (W.setCell ⟨g,0,none⟩ v'):=by
 have hlt:g<W.heap.size:=lA hat;refine⟨?_,hB,ownsRow_setCell_other ho (own_ne hat (by decide) ho) _⟩;have h2:=(ybA.1 hat).2;simp only[World.setCell,ybt,Array.size_modify,hlt,ycd,h2];rfl
theorem Iz(B g:Nat)(l b:List UInt8)(v:Value)(t:UInt8)(ao:Option Addr)(n cap:Nat)(W:World)(hw:WrAt B g l 0 v W)(ht:0<t.toNat)(hl:l.length<=100000000)(hn:n<=4194304)(hr:Rd W 1 ao n cap (byV b))
  (hdis:0<cap->∀a,ao=some a->some a.block≠v.ownBlock) :
  Calls Tryz.prog 147 #[.pointer (some ⟨g,0,none⟩),.int .u8 (t.toNat:Int),.slice ao n cap] W fun e w'=>e=.returned (.pointer (some ⟨g,0,none⟩))/\∃v',WrAt B g (l++val t b) 0 v' w'/\Below B W w'/\Stays g W w':=by
 have k63:l.length+5+n<=maxLen:=by unfold maxLen;omega
 have kby:(l.length+5+n)*1<=140737488355328:=by omega
 have hat:=hw.at_;have hlt:=hw.lt;have hne:=hw.ne;have hown:=hw.own;have hB:=hw.le;have hBW:B<=W.heap.size:=by omega
 have hbl:b.length=n:=by have:=hr.1;rw[aV] at this;omega
 have Hbl:=Lib.hid hbl;clear hw hbl;have c0:W.cell? ⟨g,0,none⟩=some v:=by simp[World.cell?,hat]
 have c1:W.cell? ⟨g,1,none⟩=some (.int .i64 0):=by simp[World.cell?,hat]
 have g0:W.frozen? ⟨g,0,none⟩=false:=by simp[World.frozen?,hat]
 have f1:decide ((4194304:Int)<(n:Int))=false:=yad (by omega);have ht2:t.toNat<256:=t.toNat_lt;have f2:((t.toNat:Int)==0)=false:=by simp;omega
 have hpe:∀(w:World),Sem.run Tryz.prog (binOp BinOp.eql 175 (.pointer (some ⟨g,0,none⟩)) (.pointer none)) w=.ok (.bool false) w:=fun _=>by kernel_rfl
 go_in;go_wp2_with (first | (at_builtin;refine fM _ rfl (.tmp 14) (.tmp 27) 34 rfl B 5 (.int .u8 0) 1 1 byT (by decide) v l.length (byV l) rfl hown 5 [.int .u8 (t.toNat:Int),.int .u8 ((n:Int) / 16777216),.int .u8 ((n:Int) / 65536),.int .u8 ((n:Int) / 256 % 256),.int .u8 ((n:Int) % 256)] rfl rfl (fun u hu=>by simp at hu;rcases hu with rfl|rfl|rfl|rfl|rfl<;>rfl) hBW (by omega) ?_;intro ao1 cap1 w1 ho1 hg1 hb1 _;have hr1:=fO (hr.later ((yaj _ W).alloc (yag _) _)) hg1 hdis;have hat1:=(hg1.block g (by simp;omega) (fun e=>hne e.symm)).trans ((ybR W _ g hlt).trans hat)) | (at_builtin;refine dZ _ rfl (.tmp 28) (.tmp 29) 34 rfl B 5 (.int .u8 0) 1 1 byT _ (l.length+5) _ rfl ho1 ao n cap (byV b) rfl hr1 (bM _) k63 kby (yae hBW hb1.size) ?_;intro ao2 cap2 w2 ho2 hg2 hb2 _;have hat2:w2.heap[g]?=some (.cells #[v,.int .i64 0] 177):=(hg2.block g (lA hat1) (fun e=>own_ne hat1 (by decide) ho1 e.symm)).trans hat1;have d0:w2.cell? ⟨g,0,none⟩=some v:=(by simp[World.cell?,hat2]);have e0:w2.frozen? ⟨g,0,none⟩=false:=(by simp[World.frozen?,hat2])));go_ret;refine⟨rfl,_,WrAt.store (l':=l++val t b) hat2 hB ?_,?_,?_⟩
 ·have hbl:=Hbl.out;rw[dS,zK t b n hbl hn,show (l++val t b).length=l.length+5+n from (by rw[yab,ae,hbl];omega)];rw[yav] at ho2;exact ho2
 ·exact (hb1.trans hb2).setCell hB _
 exact (((Stays.of_below ((yaj _ W).alloc (yag _) _)).trans (Stays.grown hg1 (hown.alloc _))).trans (Stays.grown hg2 ho1)).set 0 _
def au (n:Nat):List UInt8:=(List.range 8).map fun i=>UInt8.ofNat (n / 256 ^ (7-i))
def jX (n k j:Nat):Value:=if 8<=j+k then .int .u8 ((n / 256 ^ (7-j) % 256:Nat):Int) else .int .u8 0
theorem _root_.Go.World.rowIs.own{b:Nat}{t:TypeId}{f:Nat->Value}(h:w.rowIs b t n f)(hm:n<=maxLen)(hl:xs.length=n)(hx:∀j,j<n->xs[j]?=some (f j)):w.ownsRow b t 1 (.slice (some ⟨b,0,none⟩) n n) n xs:=by
 obtain⟨c,h1,h2,h3⟩:=h;have hc:c.toList=xs:=by
  apply List.ext_getElem?;intro i;by_cases hi:i<n
  ·rw[hx i hi,<-h3 i hi];simp
  rw[ybm (by simp;omega),ybm (by omega)]
 exact⟨by omega,.inr ⟨b,n,c,rfl,yag _,h1,yag _,hm,by omega,by rw[hc,yak (by omega)]⟩⟩
theorem WrAt.later(h:WrAt B g l bad v W)(hb:Below W.heap.size W w'):WrAt B g l bad v w':=⟨(hb.block g h.lt).trans h.at_,h.le,ag h.own hb⟩
theorem iP(ho:W.ownsRow B e size v n xs):v.ownBlock≠some W.heap.size:=by
 rcases ho.2 with ⟨rfl,_⟩ | ⟨g',cap,cur,rfl,_,hg',_⟩
 ·simp[Value.ownBlock]
 intro h;have:g'=W.heap.size:=by simpa [Value.ownBlock] using h
 subst this;simp at hg'
theorem ai(n:Nat):(au n).length=8:=by simp[au]
def SN (w:World)(l:List UInt8)(bad:Int)(e:Ending)(w':World):Prop:=∃v,e=.returned (.tuple #[v,.int .i64 bad])/\w'.ownsRow w.heap.size 5 1 v l.length (byV l)/\Below w.heap.size w w'
theorem sD(B g:Nat)(l:List UInt8)(v:Value)(W:World)(hw:WrAt B g l 0 v W)(hl:l.length<=100000000):Calls Tryz.prog 108 #[.pointer (some ⟨g,0,none⟩)] W (SN W l 0):=by
 have hat:=hw.at_;have c0:W.cell? ⟨g,0,none⟩=some v:=by simp[World.cell?,hat]
 have c1:W.cell? ⟨g,1,none⟩=some (.int .i64 0):=by simp[World.cell?,hat]
 have hpe:∀(w:World),Sem.run Tryz.prog (binOp BinOp.eql 175 (.pointer (some ⟨g,0,none⟩)) (.pointer none)) w=.ok (.bool false) w:=fun _=>by kernel_rfl
 obtain⟨ao,cap,rfl,hr⟩:=Rd.of_own hw.own;go_in;go_wp2_with fail;refine (vW ao l.length cap l W hr (by omega)).mono ?_;rintro e w' ⟨v',rfl,ho,hb⟩;go_wp2;go_ret2;exact⟨v',rfl,ho,hb⟩
structure WS where
 l:List UInt8
 bad:Int
def WS.fail (s:WS)(e:Int):WS:=if s.bad=0 then ⟨s.l,e⟩ else s
def WS.put (s:WS)(t:UInt8)(b:List UInt8):WS:=if s.bad=0 then (if t.toNat=0 then ⟨s.l,2⟩ else ⟨s.l++val t b,0⟩) else s
def WrS (B g:Nat)(s:WS)(W:World):Prop:=∃v,WrAt B g s.l s.bad v W
def Turns (B g:Nat)(s:WS)(W:World)(e:Ending)(w':World):Prop:=e=.returned (.pointer (some ⟨g,0,none⟩))/\WrS B g s w'/\Below B W w'/\Stays g W w'
theorem WrAt.mark(h:WrAt B g l bad v W)(e:Int):WrAt B g l e v (W.setCell ⟨g,1,none⟩ (.int .i64 e)):=by
 have hlt:=h.lt;refine⟨?_,h.le,ownsRow_setCell_other h.own h.ne _⟩;have h2:=(ybA.1 h.at_).2;simp only[World.setCell,ybt,Array.size_modify,hlt,ycd,h2];rfl
theorem Ko(B g:Nat)(s:WS)(e:Int)(W:World)(hw:WrS B g s W):Calls Tryz.prog 179 #[.pointer (some ⟨g,0,none⟩),.int .i64 e] W (Turns B g (s.fail e) W):=by
 obtain⟨v,hw⟩:=hw;obtain⟨l,bad⟩:=s;dsimp only at hw;have hat:=hw.at_;have c0:W.cell? ⟨g,0,none⟩=some v:=by simp[World.cell?,hat]
 have c1:W.cell? ⟨g,1,none⟩=some (.int .i64 bad):=by simp[World.cell?,hat]
 have g1:W.frozen? ⟨g,1,none⟩=false:=by simp[World.frozen?,hat]
 have hpe:∀(w:World),Sem.run Tryz.prog (binOp BinOp.eql 175 (.pointer (some ⟨g,0,none⟩)) (.pointer none)) w=.ok (.bool false) w:=fun _=>by kernel_rfl
 by_cases hb:bad=0
 ·subst hb;go_in;go_wp2_with fail;go_ret;exact⟨rfl,⟨v,hw.mark e⟩,(yaj _ _).setCell hw.le _,(Stays.refl g W).set 1 _⟩
 have f1:(bad==0)=false:=by simp[hb]
 go_in;go_wp2_with fail;go_ret;refine⟨rfl,?_,yaj _ _,Stays.refl g W⟩;rw[show WS.fail ⟨l,bad⟩ e=⟨l,bad⟩ from by simp[WS.fail,hb]];exact⟨v,hw⟩
theorem kV(B g:Nat)(s:WS)(t:UInt8)(b:List UInt8)(ao:Option Addr)(n cap:Nat)(W:World)(hw:WrS B g s W)(hl:s.l.length<=100000000)(hn:n<=4194304)(hr:Rd W 1 ao n cap (byV b))
  (hdis:0<cap->∀a,ao=some a->∀v,WrAt B g s.l s.bad v W->some a.block≠v.ownBlock) :
  Calls Tryz.prog 147 #[.pointer (some ⟨g,0,none⟩),.int .u8 (t.toNat:Int),.slice ao n cap] W (Turns B g (s.put t b) W):=by
 have hws:=hw;obtain⟨v,hw⟩:=hw;obtain⟨l,bad⟩:=s;dsimp only at hw hl hdis;by_cases hb:bad=0
 ·subst hb;by_cases ht:t.toNat=0
  ·rw[show WS.put ⟨l,0⟩ t b=WS.fail ⟨l,0⟩ 2 from by simp[WS.put,WS.fail,ht]];have hat:=hw.at_;have c1:W.cell? ⟨g,1,none⟩=some (.int .i64 0):=by simp[World.cell?,hat]
   have f1:decide ((4194304:Int)<(n:Int))=false:=yad (by omega);have f2:((t.toNat:Int)==0)=true:=by simp[ht]
   have hpe:∀(w:World),Sem.run Tryz.prog (binOp BinOp.eql 175 (.pointer (some ⟨g,0,none⟩)) (.pointer none)) w=.ok (.bool false) w:=fun _=>by kernel_rfl
   go_in;go_wp2_with fail;refine (Ko B g ⟨l,0⟩ 2 W hws).mono ?_;rintro e w' ⟨rfl,h1,h2,h3⟩;go_wp2;go_ret;exact⟨rfl,h1,h2,h3⟩
  rw[show WS.put ⟨l,0⟩ t b=⟨l++val t b,0⟩ from by simp[WS.put,ht]];refine (Iz B g l b v t ao n cap W hw (by omega) hl hn hr (fun h0 a ha=>hdis h0 a ha v hw)).mono ?_;rintro e w' ⟨rfl,v',h1,h2,h3⟩;exact⟨rfl,⟨v',h1⟩,h2,h3⟩
 rw[show WS.put ⟨l,bad⟩ t b=⟨l,bad⟩ from by simp[WS.put,hb]];have hat:=hw.at_;have c1:W.cell? ⟨g,1,none⟩=some (.int .i64 bad):=by simp[World.cell?,hat]
 have f1:(bad==0)=false:=by simp[hb]
 have hpe:∀(w:World),Sem.run Tryz.prog (binOp BinOp.eql 175 (.pointer (some ⟨g,0,none⟩)) (.pointer none)) w=.ok (.bool false) w:=fun _=>by kernel_rfl
 go_in;go_wp2_with fail;go_ret;exact⟨rfl,hws,yaj _ _,Stays.refl g W⟩
theorem ou{s:WS}(hw:WrS B g s W)(hb:Below W.heap.size W W')(hk:W.heap.size<=k)(h:WrAt B g s.l s.bad v W'):some k≠v.ownBlock:=by
 obtain⟨v0,h0⟩:=hw;have h1:=(h0.later hb).at_;rw[h.at_] at h1;simp only[ybN,Obj.cells.injEq] at h1;obtain rfl:v=v0:=by simpa using h1.1
 intro e;rcases h0.own.2 with ⟨rfl,_⟩ | ⟨g',cap,cur,rfl,_,hg',_⟩
 ·cases e
 have:k=g':=by simpa [Value.ownBlock] using e
 have:=lA hg';omega
theorem WrS.later{s:WS}(h:WrS B g s W)(hb:Below W.heap.size W w'):WrS B g s w':=by
 obtain⟨v,h⟩:=h;exact⟨v,h.later hb⟩
theorem WrS.le{s:WS}(h:WrS B g s W):B<=W.heap.size:=by
 obtain⟨v,h⟩:=h;have:=h.le;have:=h.lt;omega
theorem Turns.after{s:WS}{W1:World}{e:Ending}(h:Turns B g s W1 e w')(hB:B<=W.heap.size)(hb:Below W.heap.size W W1):Turns B g s W e w':=
 ⟨h.1,h.2.1,(hb.mono hB).trans h.2.2.1,(Stays.of_below hb).trans h.2.2.2⟩
theorem MR{m:Nat}{ys:List Value}(h:Rd w size ao m cap (xs++ys))(hl:xs.length=n*size)(hn:n<=m):Rd w size ao n cap xs:=by
 obtain⟨h1,h2,h3,h4,h5⟩:=h;refine⟨hl,by omega,h3,h4,fun h0 a ha=>?_⟩;obtain⟨s,l,c⟩:=h5 h0 a ha;exact⟨s,l,fun j u hu=>c j u (by rw[ybe (yao.1 hu).1];exact hu)⟩
theorem gI(x:ByteArray)(hx:x.size<=maxLen)(W:World):∃cap W1,(convert 9 34 (.string x)).run Tryz.prog W=.ok (.slice (some ⟨W.heap.size,0,none⟩) x.size cap) W1/\Rd W1 1 (some ⟨W.heap.size,0,none⟩) x.size cap (byV x.data.toList)/\Below W.heap.size W W1:=by
 have hsz:x.data.size=x.size:=rfl;refine⟨_,_,run_bytes_of_string W 9 34 5 x (by kernel_rfl) Tryz.underlying34 (by kernel_rfl),?_,(Below.drew (yaj _ W)).alloc (yag _) _⟩;have hge:=grownCap_ge W x.size 0 5;have hle:=grownCap_le_maxLen W x.size 0 5 hx;generalize grownCap W x.size 0 5=cap at *;have he:(bytesRow x cap).toList=byV x.data.toList++List.replicate (cap-x.size) (.int .u8 0):=by simp[bytesRow,byV]
 have hr:=Rd.new W.drew (bytesRow x cap).toList 5 ((bytesRow x cap).size,(bytesRow x cap).size+1) 1 cap (by rw[he];simp[aV,hsz];omega) hle;rw[he,<-he,Array.toArray_toList] at hr;rw[he] at hr;exact MR hr (by rw[aV];simp[hsz]) hge
theorem mJ(B g:Nat)(s:WS)(t:UInt8)(x:ByteArray)(W:World)(hw:WrS B g s W)(hl:s.l.length<=100000000)(hn:x.size<=4194304) :
  Calls Tryz.prog 222 #[.pointer (some ⟨g,0,none⟩),.int .u8 (t.toNat:Int),.string x] W (Turns B g (s.put t x.data.toList) W):=by
 have hm:x.size<=maxLen:=by unfold maxLen;omega
 obtain⟨cap,W1,hrun,hr,hb⟩:=gI x hm W;have hk:(0<cap->∀a,some (⟨W.heap.size,0,none⟩:Addr)=some a->∀v,WrAt B g s.l s.bad v W1->some a.block≠v.ownBlock):=fun _ a ha v hv=>by cases ha;exact ou hw hb (yag _) hv
 have hc:=kV B g s t x.data.toList _ x.size cap W1 (hw.later hb) hl hn hr hk;clear hn hm;go_in;go_wp2_with fail;refine hc.mono ?_;rintro e w' h;have h2:=h.after hw.le hb;obtain⟨rfl,h2⟩:=h2;go_wp2;go_ret;exact⟨rfl,h2⟩
theorem Jr(B g:Nat)(s:WS)(t:UInt8)(is:Bool)(W:World)(hw:WrS B g s W)(hl:s.l.length<=100000000) :
  Calls Tryz.prog 175 #[.pointer (some ⟨g,0,none⟩),.int .u8 (t.toNat:Int),.bool is] W (Turns B g (s.put t [if is then 1 else 0]) W):=by
 have hB:=hw.le;have hb:∀v,Below W.heap.size W (W.alloc (.cells #[v] 5)):=fun _=>(yaj _ W).alloc (yag _) _;have hc:∀x:UInt8,Calls Tryz.prog 147 #[.pointer (some ⟨g,0,none⟩),.int .u8 (t.toNat:Int),.slice (some ⟨W.heap.size,0,none⟩) 1 1] (W.alloc (.cells #[.int .u8 (x.toNat:Int)] 5)) (Turns B g (s.put t [x]) W):=fun x=>
  (kV B g s t [x] _ 1 1 _ (hw.later (hb _)) hl (by decide) (Rd.new W [.int .u8 (x.toNat:Int)] 5 (0,0) 1 1 rfl (by decide)) (fun _ a ha v hv=>by cases ha;exact ou hw (hb _) (yag _) hv)).mono fun e w' h=>h.after hB (hb _)
 cases is with
 | true=>
  have hc1:=hc 1;go_in;go_wp2_with fail;refine hc1.mono ?_;rintro e w' ⟨rfl,h2⟩;go_wp2;go_ret;exact⟨rfl,h2⟩
 | false=>
  have hc1:=hc 0;go_in;go_wp2_with fail;refine hc1.mono ?_;rintro e w' ⟨rfl,h2⟩;go_wp2;go_ret;exact⟨rfl,h2⟩
theorem qg(B g:Nat)(s:WS)(t:UInt8)(n:Nat)(W:World)(hw:WrS B g s W)(hl:s.l.length<=100000000) :
  Calls Tryz.prog 107 #[.pointer (some ⟨g,0,none⟩),.int .u8 (t.toNat:Int),.int .u64 (n:Int)] W (Turns B g (s.put t (au n)) W):=by
 have hmk:(Instr.makeSlice 34 (.int .i64 8) (.int .i64 8)).run Tryz.prog W=.ok (.slice (some ⟨W.heap.size,0,none⟩) 8 8) (W.alloc (.cells (madeCells #[.int .u8 0] 8) 5)):=run_make_row' (P:=Tryz.prog) 34 5 (.int .u8 0) 1 rfl (by kernel_rfl) rfl .i64 .i64 8 (by decide) (by decide) W;have hrow0:=World.rowIs_made W (.int .u8 0) 8 5;have hb0:Below W.heap.size W (W.alloc (.cells (madeCells #[.int .u8 0] 8) 5)):=(yaj _ W).alloc (yag _) _;go_in;go_wp2_with fail;go_loopw [12] (fun p wr=>∃k:Nat,k<=8/\p=.int .i64 (k:Int)/\wr.rowIs W.heap.size 5 8 (jX n k)/\Below W.heap.size W wr) (fun p _=>(8-intOf p).toNat)
 case atStart=>exact⟨0,by omega,rfl,hrow0.congr (fun i hi=>by simp only[jX];rw[if_neg (by omega)]),hb0⟩
 case round=>
  obtain⟨k,hk,rfl,hrow,hbr⟩:=hrel;by_cases hk8:k=8
  ·subst hk8;have hown:wr.ownsRow W.heap.size 5 1 (.slice (some ⟨W.heap.size,0,none⟩) 8 8) 8 (byV (au n)):=hrow.own (by decide) rfl (by intro j hj;simp[jX,au,byV,ybh,yci hj,yaT]);go_wp2_with fail;refine (kV B g s t (au n) _ 8 8 wr (hw.later hbr) hl (by decide) (Rd.of_own_slice hown) (fun _ a ha v hv=>by cases ha;exact ou hw hbr (yag _) hv)).mono ?_;rintro e w' h;obtain⟨rfl,h2⟩:=h.after hw.le hbr;go_wp2;go_ret;exact⟨rfl,h2⟩
  have hk7:k<8:=by omega
  have hcell:=hrow.cell (i:=7-k) (by omega);have hfr:=hrow.frozen (7-k);go_wp2_with fail
  case roundEnd=>
   have hs:=hrow.set (7-k) (.int .u8 ((n:Int) / 2 ^ (8*k) % 256));refine⟨⟨k+1,by omega,by go_num,hs.congr ?_,hbr.setCell (yag _) _⟩,by simp[intOf];omega⟩;intro j hj;by_cases hjk:j=7-k
   ·subst hjk;have e1:7-(7-k)=k:=by omega
    have e2:256 ^ k=2 ^ (8*k):=by rw[Nat.pow_mul]
    rw[if_pos rfl];unfold jX;rw[if_pos (by omega),e1,e2];simp
   simp only[jX,if_neg hjk];by_cases h8:8<=j+k
   ·rw[if_pos h8,if_pos (by omega)]
   rw[if_neg h8,if_neg (by omega)]
end Tlv
namespace Tlv
open Go.RowKit Go.Shelf Mem
attribute [local go_sem] Oper.semAt_some
def lH (b:List UInt8):Int:=if ip (its b) (its b).length=b.length then ((its b).length:Int) else -1
theorem QN {b:List UInt8}{k:Nat}{pre:List El}{x:El}(hk:pre.length=k)(h:C9 (its b) (pre++[x])):k<(its b).length/\came (pre++[x])=(its b).take (k+1)/\ip (its b) (k+1)=ip (its b) k+5+x.it.2.length/\ip (its b) (k+1)<=b.length:=by
 obtain⟨j,h1,h2,h3⟩:=h;have hj:=CY h3 h2;simp only[yab,yaF,ybj] at hj;have hjk:j=k+1:=by omega
 subst hjk;have hkl:k<(its b).length:=by omega
 obtain⟨a1,a2,a3,a4⟩:=DK b k hkl;have h4:=JL (rs:=its b) (k:=k) hk (by rw[h3];simp[hk]);rw[h4] at a1;have h5:=pK _ a2;rw[<-a1] at h5;exact⟨hkl,h3,by omega,a4⟩
structure ManyAt (w:World)(rs:List It)(pre:List El)(W:World):Prop where
 bn:Boxed W w.heap.size 3 (.int .i64 (pre.length:Int))
 ba:Boxed W (w.heap.size+1) 3 (.int .i64 (ip rs pre.length:Int))
 bel:Below w.heap.size w W
theorem Hw (w:World)(rs:List It)(B:Nat)(hB:w.heap.size<=B):OwnFrom B (ManyAt w rs):=by
 intro pre X Y row h hg hr;have hr2:∀r,row=some r->∃o:Obj,X.heap[r]?=some o/\o.isCells=false:=fun r e=>(hr r e).2;have hb:∀(b:Nat) (t:TypeId) (v:Value),Boxed X b t v->Boxed Y b t v:=fun b t v hx=>boxed_own b t (fun _:Unit=>v) () X Y row hx hg hr2;exact⟨hb _ _ _ h.bn,hb _ _ _ h.ba,h.bel.grown hg h.bel.size (fun k e=>by have:=(hr k e).1;omega)⟩
theorem SK (B:Nat):OwnFrom B (fun (_:List El) (_:World)=>False):=fun _ _ _ _ h _ _=>h.elim
theorem Di (ao:Option Addr)(n cap:Nat)(b:List UInt8)(w:World)(hn:n<=1000000000)(hrd:Rd w 1 ao n cap (byV b)) :
  Calls Tryz.prog 221 #[.slice ao n cap] w (fun e w'=>e=.returned (.int .i64 (lH b))/\Below w.heap.size w w'):=by
 refine (ych (n:=9)).1 ?_;refine callsIn_of_wp_marks Tryz.func221 rfl trivial ?_ rfl;simp only[Tryz.ntmps221,List.size_toArray,yaF,ybj,Nat.reduceAdd,Nat.reduceSub,ycA,ycB,List.push_toArray,ycF,ybO,ybE]
 gi_wp2_with (refine⟨trivial,?_⟩;gi_at_call 232;refine (ych.2 (NZ _ _ _ _)).mono ?_;rintro e w' ⟨rfl,rfl⟩)
 have hlow:0<cap->∀a,ao=some a->a.block<w.heap.size:=hrd.lt;have hbn:b.length=n:=by have:=hrd.1;rw[aV] at this;omega
 have hA:ManyAt w (its b) [] (((w.alloc (Obj.cells #[.int .i64 0] 3)).alloc (Obj.cells #[.int .i64 0] 3)).alloc (Obj.cells #[.slice ao n cap] 34)):=by
  have b0:=Boxed.new w 3 (.int .i64 0);have b1:=Boxed.new (w.alloc (Obj.cells #[.int .i64 0] 3)) 3 (.int .i64 0);simp only[ybF] at b1;refine⟨(b0.alloc _).alloc _,?_,(((yaj _ w).alloc (yag _) _).alloc (by simp<;>omega) _).alloc (by simp<;>omega) _⟩;rw[show ip (its b) ([]:List El).length=0 from pI _];exact b1.alloc _
 have bb:=(Boxed.new ((w.alloc (Obj.cells #[.int .i64 0] 3)).alloc (Obj.cells #[.int .i64 0] 3)) 34 (.slice ao n cap)).cell;simp only[ybF] at bb;refine QY (F:=Fence.wide) (n:=9) rfl (by omega) (gf:=242) (lb:=#[.pointer (some ⟨w.heap.size+1+1,0,none⟩)]) rfl trivial (enters_of Tryz.func242 (by kernel_rfl) rfl)
  (O8 8 (by omega) w.heap.size ao n cap b (by omega) _ (hrd.later hA.bel) hlow hA.bel.size _ bb) (fun h k=>belowK_t h k) (fun W l o o' hl h h1 h2=>belowK_b (w:=w) (yag _) W l o o' (yae hA.bel.size hl) h h1 h2) (yaj _ _) (fun _=>rfl)
  (ManyAt w (its b)) (fun _ _=>False) (Hw w _ _ hA.bel.size) (SK _) (QM _) hA ?a1 ?assign ?body ?done ?stop
 case assign=>
  intro l x W K hK;simp only[elV]
  gi_wp2
  exact hK
 case body=>
  rintro l pre x W hgx hSx _ hI hlen;obtain⟨bn,ba,ibel⟩:=hI;obtain⟨k,hk⟩:∃k,pre.length=k:=⟨_,rfl⟩
  obtain⟨hkl,_,hip,hib⟩:=QN hk hSx;have hln:(pre++[x]).length=k+1:=by simp[hk]
  have Hln:=Lib.hid hln;rw[hk] at bn ba;clear hk hln hlen hSx;have cn:=bn.cell;have ca:=ba.cell;have gn:=bn.frozen;have ga:=ba.frozen;have ik:(k:Int)<1000000000:=by have:=zQ b;omega
  have ia:((ip (its b) k:Nat):Int)+5+(x.it.2.length:Int)<=1000000000:=by omega
  have Hip:=Lib.hid hip;clear hip hib hbn hkl;generalize ip (its b) k=at0 at *;have e1:IntKind.i64.wrap ((k:Int)+1)=(k:Int)+1:=by rw[IntWalk.i64_in]<;>omega
  have e2:IntKind.i64.wrap ((at0:Int)+5)=(at0:Int)+5:=by rw[IntWalk.i64_in]<;>omega
  have e3:IntKind.i64.wrap ((at0:Int)+5+(x.it.2.length:Int))=(at0:Int)+5+(x.it.2.length:Int):=by rw[IntWalk.i64_in]<;>omega
  have hmo:=hmO
  have hfin:KeepsOthers W ((W.drew.setCell ⟨w.heap.size,0,none⟩ (.int .i64 ((k:Int)+1))).setCell ⟨w.heap.size+1,0,none⟩ (.int .i64 ((at0:Int)+5+(x.it.2.length:Int)))) /\
    Below w.heap.size W ((W.drew.setCell ⟨w.heap.size,0,none⟩ (.int .i64 ((k:Int)+1))).setCell ⟨w.heap.size+1,0,none⟩ (.int .i64 ((at0:Int)+5+(x.it.2.length:Int)))) /\
    ManyAt w (its b) (pre++[x]) ((W.drew.setCell ⟨w.heap.size,0,none⟩ (.int .i64 ((k:Int)+1))).setCell ⟨w.heap.size+1,0,none⟩ (.int .i64 ((at0:Int)+5+(x.it.2.length:Int)))):=by
   have bn2:=(((show Boxed W.drew _ _ _ from bn).set (.int .i64 ((k:Int)+1))).other (B':=w.heap.size+1) (by simp) (.int .i64 ((at0:Int)+5+(x.it.2.length:Int))))
   have ba2:=(((show Boxed W.drew _ _ _ from ba).other (B':=w.heap.size) (by simp) (.int .i64 ((k:Int)+1))).set (.int .i64 ((at0:Int)+5+(x.it.2.length:Int))))
   refine⟨((KeepsOthers.drew W).trans (KeepsOthers.setCell _ _ _)).trans (KeepsOthers.setCell _ _ _),(((yaj _ W).drew).setCell (p:=⟨w.heap.size,0,none⟩) (yag _) _).setCell (p:=⟨w.heap.size+1,0,none⟩) (by dsimp only;omega) _,?_,?_,
    ((ibel.drew).setCell (p:=⟨w.heap.size,0,none⟩) (yag _) _).setCell (p:=⟨w.heap.size+1,0,none⟩) (by dsimp only;omega) _⟩
   ·rw[Hln.out];exact bn2
   rw[Hln.out,Hip.out];exact ba2
  gi_wp2
  refine yw hmo (by kernel_rfl) ?_;refine wpAnyIn_take (i:=4) (v:=.slice x.ao x.it.2.length x.cap) rfl rfl (by kernel_rfl) (by kernel_rfl) (by kernel_rfl) (fun _ _ _ h=>h) ⟨Or.inl ⟨by rfl,by intro w;go_simp⟩,fun _=>rfl⟩ ?_;refine wpAnyIn_take (i:=5) (v:=.int .i64 (x.it.2.length:Int)) rfl rfl (by kernel_rfl) (by kernel_rfl) (by kernel_rfl) (fun _ _ _ h=>h) ⟨Or.inl ⟨by rfl,by intro w;go_simp⟩,fun _=>rfl⟩ ?_;refine wpAnyIn_ready (rs:=[0,2]) (by kernel_rfl) (by simp) ?_;refine AllReadyIn.cons rfl (fun K hK=>?_) ?_
  ·go_simp;refine hK _ _ ?_;clear hK K;refine wpAnyIn_take (i:=1) (v:=.int .i64 ((k:Int)+1)) rfl rfl (by kernel_rfl) (by kernel_rfl) (by kernel_rfl) (fun _ _ _ h=>h) ⟨Or.inl ⟨by rfl,by intro w;go_simp⟩,fun _=>rfl⟩ ?_;refine wpAnyIn_ready (rs:=[2,7]) (by kernel_rfl) (by simp) ?_;refine AllReadyIn.cons rfl (fun K hK=>?_) ?_
   ·go_simp;refine hK _ _ ?_;clear hK K;refine wpAnyIn_take (i:=3) (v:=.int .i64 ((at0:Int)+5)) rfl rfl (by kernel_rfl) (by kernel_rfl) (by kernel_rfl) (fun _ _ _ h=>h) ⟨Or.inl ⟨by rfl,by intro w;go_simp⟩,fun _=>rfl⟩ ?_;refine wpAnyIn_take (i:=6) (v:=.int .i64 ((at0:Int)+5+(x.it.2.length:Int))) rfl rfl (by kernel_rfl) (by kernel_rfl) (by kernel_rfl) (fun _ _ _ h=>h) ⟨Or.inl ⟨by rfl,by intro w;go_simp⟩,fun _=>rfl⟩ ?_;refine wpAnyIn_ready (rs:=[7]) (by kernel_rfl) (by simp) ?_;refine AllReadyIn.cons rfl (fun K hK=>?_) ?_
    ·go_simp;refine hK _ _ ?_;clear hK K;refine wpAnyIn_ready (rs:=[8]) (by kernel_rfl) (by simp) ?_;refine AllReadyIn.cons rfl (fun K hK=>?_) ?_
     ·go_simp;refine hK _ _ ?_;clear hK K;refine wpAnyIn_done (by kernel_rfl) ?_ _;exact hfin
     exact AllReadyIn.nil
    exact AllReadyIn.nil
   refine AllReadyIn.cons rfl (fun K hK=>?_) ?_
   ·go_simp;refine hK _ _ ?_;clear hK K;refine wpAnyIn_ready (rs:=[2]) (by kernel_rfl) (by simp) ?_;refine AllReadyIn.cons rfl (fun K hK=>?_) ?_
    ·go_simp;refine hK _ _ ?_;clear hK K;refine wpAnyIn_take (i:=3) (v:=.int .i64 ((at0:Int)+5)) rfl rfl (by kernel_rfl) (by kernel_rfl) (by kernel_rfl) (fun _ _ _ h=>h) ⟨Or.inl ⟨by rfl,by intro w;go_simp⟩,fun _=>rfl⟩ ?_;refine wpAnyIn_take (i:=6) (v:=.int .i64 ((at0:Int)+5+(x.it.2.length:Int))) rfl rfl (by kernel_rfl) (by kernel_rfl) (by kernel_rfl) (fun _ _ _ h=>h) ⟨Or.inl ⟨by rfl,by intro w;go_simp⟩,fun _=>rfl⟩ ?_;refine wpAnyIn_ready (rs:=[8]) (by kernel_rfl) (by simp) ?_;refine AllReadyIn.cons rfl (fun K hK=>?_) ?_
     ·go_simp;refine hK _ _ ?_;clear hK K;refine wpAnyIn_done (by kernel_rfl) ?_ _;exact hfin
     exact AllReadyIn.nil
    exact AllReadyIn.nil
   exact AllReadyIn.nil
  refine AllReadyIn.cons rfl (fun K hK=>?_) ?_
  ·go_simp;refine hK _ _ ?_;clear hK K;refine wpAnyIn_take (i:=3) (v:=.int .i64 ((at0:Int)+5)) rfl rfl (by kernel_rfl) (by kernel_rfl) (by kernel_rfl) (fun _ _ _ h=>h) ⟨Or.inl ⟨by rfl,by intro w;go_simp⟩,fun _=>rfl⟩ ?_;refine wpAnyIn_take (i:=6) (v:=.int .i64 ((at0:Int)+5+(x.it.2.length:Int))) rfl rfl (by kernel_rfl) (by kernel_rfl) (by kernel_rfl) (fun _ _ _ h=>h) ⟨Or.inl ⟨by rfl,by intro w;go_simp⟩,fun _=>rfl⟩ ?_;refine wpAnyIn_ready (rs:=[0]) (by kernel_rfl) (by simp) ?_;refine AllReadyIn.cons rfl (fun K hK=>?_) ?_
   ·go_simp;refine hK _ _ ?_;clear hK K;refine wpAnyIn_take (i:=1) (v:=.int .i64 ((k:Int)+1)) rfl rfl (by kernel_rfl) (by kernel_rfl) (by kernel_rfl) (fun _ _ _ h=>h) ⟨Or.inl ⟨by rfl,by intro w;go_simp⟩,fun _=>rfl⟩ ?_;refine wpAnyIn_ready (rs:=[7]) (by kernel_rfl) (by simp) ?_;refine AllReadyIn.cons rfl (fun K hK=>?_) ?_
    ·go_simp;refine hK _ _ ?_;clear hK K;refine wpAnyIn_ready (rs:=[8]) (by kernel_rfl) (by simp) ?_;refine AllReadyIn.cons rfl (fun K hK=>?_) ?_
     ·go_simp;refine hK _ _ ?_;clear hK K;refine wpAnyIn_done (by kernel_rfl) ?_ _;exact hfin
     exact AllReadyIn.nil
    exact AllReadyIn.nil
   exact AllReadyIn.nil
  exact AllReadyIn.nil
 case done=>
  rintro D xs W hD hS hI hK;obtain⟨bn,ba,ibel⟩:=hI;have hlx:xs.length=(its b).length:=by have:=congrArg List.length hS;rw[came,ybl] at this;exact this
  rw[hlx] at bn ba;have hD2:=yae hA.bel.size hD;have cn:=bn.cell;have ca:=ba.cell;have hfin:Below w.heap.size w (W.putObj D (.deferred none)):=ibel.trans (belowK_b (w:=w) (yag _) _ D _ _ hD2 hK rfl rfl);by_cases hip:ip (its b) (its b).length=b.length
  ·have f1:(((ip (its b) (its b).length:Nat):Int) != (n:Int))=false:=by rw[hip,hbn];simp
   have hmy:lH b=((its b).length:Int):=if_pos hip;have Hmy:=Lib.hid hmy;clear hmy hip hlx
   gi_wp2
   refine⟨by simp,.inl ⟨_,_,rfl,run_takeDeferred hK,?_⟩⟩;exact⟨_,results_tmp rfl _ _ _,by rw[Hmy.out];rfl,hfin⟩
  have f1:(((ip (its b) (its b).length:Nat):Int) != (n:Int))=true:=by rw[<-hbn];simp;omega
  have hmy:lH b=-1:=if_neg hip;have Hmy:=Lib.hid hmy;clear hmy hip hlx
  gi_wp2
  refine⟨by simp,.inl ⟨_,_,rfl,run_takeDeferred hK,?_⟩⟩;exact⟨_,results_tmp rfl _ _ _,by rw[Hmy.out];rfl,hfin⟩
 case stop=>
  rintro D pre W hD hS hI hK;exact hI.elim
end Tlv
namespace Tlv
open Go.RowKit Mem
def bK (it:Nat->List UInt8)(k:Nat):List UInt8:=(List.range k).flatMap it
theorem ed (it:Nat->List UInt8)(k:Nat):bK it (k+1)=bK it k++it k:=by simp[bK,List.range_succ]
theorem mX (it:Nat->List UInt8){j k:Nat}(h:j<=k):(bK it j).length<=(bK it k).length:=by
 induction k with
 | zero=>
  obtain rfl:j=0:=by omega
  exact yag _
 | succ k ih=>
  by_cases hj:j=k+1
  ·subst hj;exact yag _
  have:=ih (by omega);rw[ed,yab];omega
theorem uF (B g:Nat)(s:WS)(t:UInt8)(n:Nat)(f:FuncId)(caps:Array Value)(it:Nat->List UInt8)(W:World)(hw:WrS B g s W)(hs:s.bad=0)(hn:n<=1000000)
  (hf:∀args w,(callFunc f args).run Tryz.prog w=.ok (.enter f args) w)
  (hone:∀i,i<n->lH (it i)=1/\0<(it i).length) (hlen:(bK it n).length<=4194304) (hl:s.l.length<=100000000)
  (hput:∀i W',i<n->Below W.heap.size W W'->WrS W.heap.size W.heap.size ⟨bK it i,0⟩ W' ->
   Calls Tryz.prog f (#[.pointer (some ⟨W.heap.size,0,none⟩),.int .i64 (i:Int)]++caps) W' fun e w'=>(∃r,e=.returned r)/\WrS W.heap.size W.heap.size ⟨bK it (i+1),0⟩ w'/\Below W.heap.size W' w') :
  Calls Tryz.prog 176 #[.pointer (some ⟨g,0,none⟩),.int .u8 (t.toNat:Int),.int .i64 (n:Int),.func (.func f) #[] caps] W (Turns B g (s.put t (bK it n)) W):=by
 have hws:=hw;obtain⟨v,hw⟩:=hw;obtain⟨l,bad⟩:=s;dsimp only at hw hs hl;subst hs;have hat:=hw.at_;have c1:W.cell? ⟨g,1,none⟩=some (.int .i64 0):=by simp[World.cell?,hat]
 have hpe:∀(w:World),Sem.run Tryz.prog (binOp BinOp.eql 175 (.pointer (some ⟨g,0,none⟩)) (.pointer none)) w=.ok (.bool false) w:=fun _=>by kernel_rfl
 have hfn:∀(w:World),Sem.run Tryz.prog (binOp BinOp.neq 257 (.func (.func f) #[] caps) .nilFunc) w=.ok (.bool true) w:=fun _=>by kernel_rfl
 have hnew:WrS W.heap.size W.heap.size ⟨[],0⟩ (W.alloc (.cells #[.slice none 0 0,.int .i64 0] 177)):=⟨_,⟨by show (W.heap.push _)[W.heap.size]?=some _;simp,yag _,yaC _ _ _ _⟩⟩
 have hb0:Below W.heap.size W (W.alloc (.cells #[.slice none 0 0,.int .i64 0] 177)):=(yaj _ W).alloc (yag _) _;have Hput:=Lib.hid hput;have Hone:=Lib.hid hone;clear hput hone;have hnn:decide ((n:Int)<0)=false:=yad (by omega);go_in;go_wp2_with fail
 go_step3
 go_wp2_with fail
 go_step3
 go_wp2_with fail;go_loopw [29] (fun p wr=>∃k:Nat,k<=n/\p=.int .i64 (k:Int)/\WrS W.heap.size W.heap.size ⟨bK it k,0⟩ wr/\Below W.heap.size W wr) (fun p _=>(n-intOf p).toNat)
 case atStart=>exact⟨0,by omega,rfl,hnew,hb0⟩
 case round=>
  obtain⟨k,hk,rfl,hwr,hbr⟩:=hrel;obtain⟨vi,hwi⟩:=hwr;have hati:=hwi.at_;have d0:wr.cell? ⟨W.heap.size,0,none⟩=some vi:=by simp[World.cell?,hati]
  have d1:wr.cell? ⟨W.heap.size,1,none⟩=some (.int .i64 0):=by simp[World.cell?,hati]
  obtain⟨aoi,capi,rfl,hri⟩:=Rd.of_own hwi.own;by_cases hkn:k=n
  ·have f0:decide ((k:Int)<(n:Int))=false:=yad (by omega);subst hkn;go_wp2_with fail;have hdis:0<capi->∀a,aoi=some a->∀v',WrAt B g l 0 v' wr->some a.block≠v'.ownBlock:=by
    intro _ a ha v' hv';subst ha;refine ou hws hbr ?_ hv';rcases hwi.own.2 with ⟨h,_⟩ | ⟨g',c,cur,h,hg,_⟩
    ·cases h
    have:=(ybC h).1;cases this;exact hg
   refine (kV B g ⟨l,0⟩ t _ aoi _ capi wr (hws.later hbr) hl hlen hri hdis).mono ?_;rintro e w' h;obtain⟨rfl,h2⟩:=h.after hws.le hbr;go_wp2;rw[Exit.noGoto_ret];go_ret;exact⟨rfl,h2⟩
  have f0:decide ((k:Int)<(n:Int))=true:=yaa (by omega);have hkl:k<n:=by omega
  go_wp2_with fail;refine (Hput.out k wr hkl hbr ⟨_,hwi⟩).mono ?_;rintro e w1 ⟨⟨r,rfl⟩,⟨vj,hwj⟩,hb1⟩;have hatj:=hwj.at_;have d2:w1.cell? ⟨W.heap.size,0,none⟩=some vj:=by simp[World.cell?,hatj]
  have d3:w1.cell? ⟨W.heap.size,1,none⟩=some (.int .i64 0):=by simp[World.cell?,hatj]
  obtain⟨hm1,hpos⟩:=Hone.out k hkl;have hsucc:=ed it k;have hln:(bK it (k+1)).length=(bK it k).length+(it k).length:=by rw[hsucc,yab]
  have hle:(bK it (k+1)).length<=4194304:=yae (mX it (by omega)) hlen;obtain⟨bj,capj,rfl⟩:∃bj capj,vj=.slice (some ⟨bj,0,none⟩) (bK it (k+1)).length capj:=by
   obtain⟨q,hq⟩:∃q,(bK it (k+1)).length=q+1:=⟨(bK it (k+1)).length-1,by omega⟩
   have ho:=hwj.own;dsimp only at ho;rw[hq] at ho ⊢;exact ownsRow_succ ho
  have hrj:=Rd.of_own_slice hwj.own;dsimp only at hrj;have hcj:=hrj.le;have hrs:=pq hrj (f:=(bK it k).length) (by omega);rw[hsucc,List.drop_left,<-hsucc,ybL] at hrs;have Hm1:=Lib.hid hm1;have Hsucc:=Lib.hid hsucc;clear hm1 hsucc;have i0:(0:Int)<=((bK it k).length:Int):=by omega
  have i1:((bK it k).length:Int)<=((bK it (k+1)).length:Int):=by omega
  have i2:((bK it k).length:Int)<=(capj:Int):=by omega
  have i3:¬capj-(bK it k).length=0:=by omega
  have Hln:=Lib.hid hln;clear hln;go_wp2_with fail;refine (Di _ _ _ (it k) w1 (by omega) hrs).mono ?_;rintro e w2 ⟨rfl,hb2⟩;rw[Hm1.out];have hwj2:=hwj.later hb2;go_wp2;go_roundw
  case rel=>exact⟨k+1,by omega,by go_num,⟨_,hwj2⟩,hbr.trans (hb1.trans (hb2.mono (yae hbr.size hb1.size)))⟩
  case measure=>simp[intOf];omega
end Tlv
namespace Tlv
theorem La (t:UInt8)(b r:List UInt8)(hb:b.length<=4194304):ln (val t b++r)=b.length:=by
 simp only[ln,val,ybE,ybx,ybd,ybD,yaT];omega
theorem yI (t:UInt8)(b r:List UInt8)(ht:0<t.toNat)(hb:b.length<=4194304):fs (val t b++r)=5+b.length:=by
 have hl:(val t b++r).length=5+b.length+r.length:=by rw[yab,ae]
 have h0:¬(val t b++r)[0]?.getD 0=0:=by
  intro h;have h2:t=0:=h;rw[h2] at ht;exact absurd ht (by decide)
 rw[zh,La t b r hb];rw[La t b r hb,hl];rintro (h | h | h | h)
 ·omega
 ·exact h0 h
 ·omega
 omega
theorem A8 (t:UInt8)(b r:List UInt8)(ht:0<t.toNat)(hb:b.length<=4194304):hd1 (val t b++r)=(t,b):=by
 unfold hd1;rw[yI t b r ht hb,show 5+b.length-5=b.length by omega];exact Prod.ext rfl (by show (b++r).take b.length=b;simp)
theorem N7 (f:Nat):∀l:List UInt8,l.length<=f->eG f l=its l:=by
 suffices h:∀f g (l:List UInt8),l.length<=f->l.length<=g->eG f l=eG g l from fun l hl=>h f l.length l hl (yag _)
 intro f;induction f with
 | zero=>
  intro g l hl _;have:l=[]:=yat (by omega);subst this;cases g with
  | zero=>rfl
  | succ g=>rw[eG,eG,if_pos (by decide)]
 | succ f ih=>
  intro g l hl hg;cases g with
  | zero=>
   have:l=[]:=yat (by omega);subst this;rw[eG,eG,if_pos (by decide)]
  | succ g=>
   rw[eG,eG];by_cases h0:fs l=0
   ·rw[if_pos h0,if_pos h0]
   rw[if_neg h0,if_neg h0];have h5:=iH l h0;have hle:=lq l;rw[ih g (l.drop (fs l)) (by rw[yaM];omega) (by rw[yaM];omega)]
theorem xW (l:List UInt8)(h:fs l≠0):its l=hd1 l::its (l.drop (fs l)):=by
 have h5:=iH l h;have hle:=lq l;obtain⟨m,hm⟩:∃m,l.length=m+1:=⟨l.length-1,by omega⟩
 unfold its;rw[hm,eG,if_neg h,N7 m _ (by rw[yaM];omega)];rfl
theorem Dt (l:List UInt8)(h:fs l=0):its l=[]:=by
 unfold its;cases l.length with
 | zero=>rfl
 | succ m=>rw[eG,if_pos h]
theorem FX (t:UInt8)(b r:List UInt8)(ht:0<t.toNat)(hb:b.length<=4194304):its (val t b++r)=(t,b)::its r:=by
 have hf:=yI t b r ht hb;rw[xW _ (by rw[hf];omega),A8 t b r ht hb,hf]
 congr 2
 rw[<-ae t b];exact List.drop_left
theorem QQ:its []=[]:=rfl
def vals (rs:List It):List UInt8:=rs.flatMap fun x=>val x.1 x.2
theorem qL (x:It)(rs:List It):vals (x::rs)=val x.1 x.2++vals rs:=rfl
theorem Dz (rs:List It):ip rs rs.length=(vals rs).length:=by
 induction rs with
 | nil=>rfl
 | cons x rs ih=>
  rw[qL,yab,ae,<-ih];rfl
def Dw (x:It):Prop:=0<x.1.toNat/\x.2.length<=4194304
theorem O1 (rs:List It)(h:∀x∈rs,Dw x)(r:List UInt8):its (vals rs++r)=rs++its r:=by
 induction rs with
 | nil=>rfl
 | cons x rs ih=>
  obtain⟨h1,h2⟩:=h x List.mem_cons_self;rw[qL,yav,FX _ _ _ h1 h2,ih (fun y hy=>h y (List.mem_cons_of_mem _ hy))];rfl
theorem Pq (rs:List It)(h:∀x∈rs,Dw x):its (vals rs)=rs:=by
 have:=O1 rs h [];rw[yaD,QQ,yaD] at this;exact this
theorem EL (rs:List It)(h:∀x∈rs,Dw x):lH (vals rs)=(rs.length:Int):=by
 unfold lH;rw[Pq rs h,if_pos (Dz rs)]
theorem kD (t:UInt8)(b:List UInt8)(ht:0<t.toNat)(hb:b.length<=4194304):lH (val t b)=1:=by
 have:=EL [(t,b)] (fun x hx=>by rw[yah] at hx;subst hx;exact⟨ht,hb⟩);simpa [vals] using this
end Tlv
namespace Tlv
open Go.RowKit Mem
theorem Fv (w:World)(e:TypeId)(xs:List Value)(n:Nat)(hl:xs.length=n)(hm:n<=maxLen):(w.alloc (.cells xs.toArray e)).ownsRow w.heap.size e 1 (.slice (some ⟨w.heap.size,0,none⟩) n n) n xs:=
 ⟨by omega,.inr ⟨w.heap.size,n,xs.toArray,rfl,yag _,(by show (w.heap.push _)[w.heap.size]?=some _;simp),yag _,hm,by simp[hl],by rw[yak (by simp[hl])]⟩⟩
theorem own_base {w:World}{B B' n size:Nat}{e:TypeId}{v:Value}{xs:List Value}(h:w.ownsRow B e size v n xs)(hB:B'<=B):w.ownsRow B' e size v n xs:=by
 refine⟨h.1,?_⟩;rcases h.2 with h2 | ⟨g,cap,cur,h1,h2,h3⟩
 ·exact .inl h2
 exact .inr ⟨g,cap,cur,h1,yae hB h2,h3⟩
theorem aW (t:UInt8)(b:List UInt8)(ao:Option Addr)(n cap:Nat)(W:World)(hn:n<=4194304)(hr:Rd W 1 ao n cap (byV b)) :
  Calls Tryz.prog 84 #[.int .u8 (t.toNat:Int),.slice ao n cap] W (jw W (val t b)):=by
 have hbl:b.length=n:=by have:=hr.1;rw[aV] at this;omega
 have k63:5+n<=maxLen:=by unfold maxLen;omega
 have kby:(5+n)*1<=140737488355328:=by omega
 have hv:byV (val t b)=[.int .u8 (t.toNat:Int),.int .u8 ((n:Int) / 16777216),.int .u8 ((n:Int) / 65536 % 256),.int .u8 ((n:Int) / 256 % 256),.int .u8 ((n:Int) % 256)]++byV b:=by
  rw[zK t b n hbl hn,show (n:Int) / 65536 % 256=(n:Int) / 65536 from by omega]
 have hvl:=ae t b;rw[hbl] at hvl;have Hv:=Lib.hid hv;have Hvl:=Lib.hid hvl;clear hv hvl;have hb0:∀o,Below W.heap.size W (W.alloc o):=fun o=>(yaj _ W).alloc (yag _) _;have ho0:=Fv W 5 [.int .u8 (t.toNat:Int),.int .u8 ((n:Int) / 16777216),.int .u8 ((n:Int) / 65536 % 256),.int .u8 ((n:Int) / 256 % 256),.int .u8 ((n:Int) % 256)] 5 rfl (by decide);have hr1:=hr.later (hb0 (.cells [Value.int .u8 (t.toNat:Int),.int .u8 ((n:Int) / 16777216),.int .u8 ((n:Int) / 65536 % 256),.int .u8 ((n:Int) / 256 % 256),.int .u8 ((n:Int) % 256)].toArray 5));have hsz:W.heap.size<=(W.alloc (.cells [Value.int .u8 (t.toNat:Int),.int .u8 ((n:Int) / 16777216),.int .u8 ((n:Int) / 65536 % 256),.int .u8 ((n:Int) / 256 % 256),.int .u8 ((n:Int) % 256)].toArray 5)).heap.size:=by simp
 go_in;go_wp2_with (at_builtin;refine dZ _ rfl (.tmp 25) (.tmp 26) 34 rfl W.heap.size 5 (.int .u8 0) 1 1 byT _ 5 _ rfl ho0 ao n cap (byV b) rfl hr1 (bM _) k63 kby hsz ?_;intro ao2 cap2 w2 ho2 hg2 hb2 _);go_ret;refine⟨_,rfl,?_,(hb0 _).trans hb2⟩;rw[Hvl.out,Hv.out];exact ho2
theorem Bv (t:UInt8)(is:Bool)(W:World) :
  Calls Tryz.prog 88 #[.int .u8 (t.toNat:Int),.bool is] W (jw W (val t [if is then 1 else 0])):=by
 have hb:∀v,Below W.heap.size W (W.alloc (.cells #[v] 5)):=fun _=>(yaj _ W).alloc (yag _) _;have hc:∀x:UInt8,Calls Tryz.prog 84 #[.int .u8 (t.toNat:Int),.slice (some ⟨W.heap.size,0,none⟩) 1 1] (W.alloc (.cells #[.int .u8 (x.toNat:Int)] 5)) (jw W (val t [x])):=fun x=>
  (aW t [x] _ 1 1 _ (by decide) (Rd.new W [.int .u8 (x.toNat:Int)] 5 (0,0) 1 1 rfl (by decide))).mono fun e w' h=>by
   obtain⟨v,rfl,h1,h2⟩:=h;exact⟨v,rfl,own_base h1 (hb _).size,(hb _).trans (h2.mono (hb _).size)⟩
 cases is with
 | true=>
  have hc1:=hc 1;go_in;go_wp2_with fail;refine hc1.mono ?_;rintro e w' ⟨v,rfl,h2⟩;go_wp2;go_ret;exact⟨v,rfl,h2⟩
 | false=>
  have hc1:=hc 0;go_in;go_wp2_with fail;refine hc1.mono ?_;rintro e w' ⟨v,rfl,h2⟩;go_wp2;go_ret;exact⟨v,rfl,h2⟩
theorem iY (t:UInt8)(n:Nat)(W:World)(hn:n<18446744073709551616) :
  Calls Tryz.prog 52 #[.int .u8 (t.toNat:Int),.int .u64 (n:Int)] W (jw W (val t (au n))):=by
 have hmk:(Instr.makeSlice 34 (.int .i64 8) (.int .i64 8)).run Tryz.prog W=.ok (.slice (some ⟨W.heap.size,0,none⟩) 8 8) (W.alloc (.cells (madeCells #[.int .u8 0] 8) 5)):=run_make_row' (P:=Tryz.prog) 34 5 (.int .u8 0) 1 rfl (by kernel_rfl) rfl .i64 .i64 8 (by decide) (by decide) W;have hrow0:=World.rowIs_made W (.int .u8 0) 8 5;have hb0:Below W.heap.size W (W.alloc (.cells (madeCells #[.int .u8 0] 8) 5)):=(yaj _ W).alloc (yag _) _;go_in;go_wp2_with fail;go_loopw [1,6] (fun q p wr=>∃k:Nat,k<=8/\q=.int .u64 ((n / 256 ^ k:Nat):Int)/\p=.int .i64 (7-(k:Int))/\wr.rowIs W.heap.size 5 8 (jX n k)/\Below W.heap.size W wr) (fun _ p _=>(intOf p+1).toNat)
 case atStart=>exact⟨0,by omega,by simp,rfl,hrow0.congr (fun i hi=>by simp only[jX];rw[if_neg (by omega)]),hb0⟩
 case round=>
  obtain⟨k,hk,rfl,rfl,hrow,hbr⟩:=hrel;by_cases hk8:k=8
  ·subst hk8;have hown:wr.ownsRow W.heap.size 5 1 (.slice (some ⟨W.heap.size,0,none⟩) 8 8) 8 (byV (au n)):=hrow.own (by decide) rfl (by intro j hj;simp[jX,au,byV,ybh,yci hj,yaT]);go_wp2_with fail;refine (aW t (au n) _ 8 8 wr (by decide) (Rd.of_own_slice hown)).mono ?_;rintro e w' ⟨v,rfl,h1,h2⟩;go_wp2;go_ret;exact⟨v,rfl,own_base h1 hbr.size,hbr.trans (h2.mono hbr.size)⟩
  have hk7:k<8:=by omega
  have hcell:=hrow.cell (i:=7-k) (by omega);have hfr:=hrow.frozen (7-k);have f0:decide ((0:Int)<=7-(k:Int))=true:=yaa (by omega);have i0:(0:Int)<=7-(k:Int):=by omega
  have i1:7-(k:Int)<8:=by omega
  have hqn:n / 256 ^ k<=n:=Nat.div_le_self _ _;have hcl:((n / 256 ^ k:Nat):Int) % 256=((n / 256 ^ (7-(7-k)) % 256:Nat):Int):=by rw[show 7-(7-k)=k by omega];simp
  have hcs:((n / 256 ^ k:Nat):Int) / 256=((n / 256 ^ (k+1):Nat):Int):=by rw[Nat.pow_succ,<-Nat.div_div_eq_div_mul];simp
  have Hcl:=Lib.hid hcl;have Hcs:=Lib.hid hcs;clear hcl hcs;generalize hq:n / 256 ^ k=q at *;clear hq;have hu:IntKind.u64.wrap ((q:Int) / 256)=(q:Int) / 256:=by rw[ycC]<;>omega
  go_wp2_with fail
  case roundEnd=>
   have hs:=hrow.set (7-k) (.int .u8 ((q:Int) % 256));refine⟨⟨k+1,by omega,by rw[Hcs.out],by congr 1;omega,hs.congr ?_,hbr.setCell (yag _) _⟩,by simp[intOf];omega⟩;intro j hj;by_cases hjk:j=7-k
   ·subst hjk;rw[if_pos rfl];unfold jX;rw[if_pos (by omega),Hcl.out]
   simp only[jX,if_neg hjk];by_cases h8:8<=j+k
   ·rw[if_pos h8,if_pos (by omega)]
   rw[if_neg h8,if_neg (by omega)]
