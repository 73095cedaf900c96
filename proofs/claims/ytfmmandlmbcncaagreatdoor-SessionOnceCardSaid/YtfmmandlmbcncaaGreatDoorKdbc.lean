/-
  A part of the proof.
-/
import Derived.Test.YtfmmandlmbcncaaGreatDoorKdbb
set_option maxHeartbeats 40000000
set_option maxRecDepth 100000
namespace Go.Proofs.YtfmmandlmbcncaaGreatDoor.Msg
open Go.RowKit Go.Lib Mem Tlv
theorem ru:SliceT Tryz.prog 37 124 zeroE.val 2 40:=⟨Tryz.underlying37,by kernel_rfl,rfl,by decide⟩
theorem qg {W:World}{b i:Nat}{cs:Array Value}{t:TypeId}{fr:Nat×Nat}{x:Value}(h:W.heap[b]?=some (.cells cs t fr))(ht:∀t':TypeId,(t'=5\/t'=9\/t'=106)->t≠t'):KeepR W (W.setCell ⟨b,i,none⟩ x):=by
 refine⟨Nat.le_of_eq (World.size_setCell _ _ _).symm,fun k c t' fr' ht' hk=>?_⟩;have hne:k≠b:=fun e=>by
  subst e;rw[h] at hk;cases hk;exact ht _ ht' rfl
 exact af hk hne
def QV.ents (v:QV)(a:Option Addr)(n k:Nat):QV:=⟨v.code,v.yes,a,n,k,v.co,v.cn,v.cc⟩
def EnTy (W:World)(l:List EP):Prop:=∀p∈l,EAt W p.1 p.2/\TyX 106 W p.1.ao p.1.ac
theorem EnTy.kpr {W W':World}{l:List EP}(h:EnTy W l)(hk:KeepR W W'):EnTy W' l:=fun p hp=>⟨⟨jI (.inr (.inr rfl)) (h p hp).1.a (h p hp).2 hk,(h p hp).1.la⟩,(h p hp).2.kpr (.inr (.inr rfl)) hk⟩
theorem EnTy.snoc {W:World}{l:List EP}{p:EP}(h:EnTy W l)(h1:EAt W p.1 p.2)(h2:TyX 106 W p.1.ao p.1.ac):EnTy W (l++[p]):=by
 intro q hq;rcases List.mem_append.1 hq with hq | hq
 ·exact h q hq
 rw[List.mem_singleton] at hq;subst hq;exact⟨h1,h2⟩
structure StE (ob:Nat)(v:QV)(q:Nat)(l:List EP)(W:World):Prop where
 ex:∃a k,W.heap[ob]?=some (v.ents a l.length k).box/\W.ownsRow q 124 2 (.slice a l.length k) l.length (enV l)
 ty:EnTy W l
def elE (p:EP):List UInt8:=val 1 (eu p.1 p.2)
def rH (p:EP):Prop:=au p.1 p.2=true
theorem NV (p:EP):0<(elE p).length:=by unfold elE;rw[ae];omega
theorem NF (z z':EP)(r r':List UInt8)(h:rH z)(h':rH z')(e:elE z++r=elE z'++r'):r=r':=by
 have l1:=iL h;have l2:=iL h';exact (ak (by decide) (by omega) (by omega) e).2
theorem wG (l:List EP)(p:EP):enV (l++[p])=enV l++[.string p.1.name,.slice p.1.ao p.1.an p.1.ac]:=by simp[enV,EV.cells]
theorem Mc {w w':World}{y:List UInt8}{e:Ending}(h:uP (.int .i64 0) (.int .i64 4) y w e w'):∃(f:Int) (Y:EV) (x:List (ByteArray×ByteArray)),e=.returned (.tuple #[Y.val,.int .i64 f])/\EAt w' Y x/\TyX 106 w' Y.ao Y.ac/\Below w.heap.size w w'/\((f=0/\au Y x=true/\eu Y x=y)\/(f=4/\qU y)):=by
 obtain⟨hb,⟨Y,x,rfl,h1,h2,h3,h4⟩ | ⟨rfl,n1⟩⟩:=h
 ·exact⟨0,Y,x,rfl,h1,h2,hb,.inl ⟨rfl,h3,h4⟩⟩
 exact⟨4,zeroE,[],rfl,⟨Rd.nil _ _,Nat.zero_le _⟩,fun h=>absurd h (Nat.lt_irrefl 0),hb,.inr ⟨rfl,n1⟩⟩
theorem StE.set {ob g q i:Nat}{v:QV}{l:List EP}{W:World}{cs:Array Value}{x:Value}(h:StE ob v q l W)(hg:W.heap[g]?=some (.cells cs 237)):StE ob v q l (W.setCell ⟨g,i,none⟩ x):=by
 obtain⟨⟨a,k,h1,h2⟩,h3⟩:=h;refine⟨⟨a,k,af h1 (fun e=>?_),dO h2 (fun j hj=>Below.heap_setCell _ _ _ _ (fun e=>?_))⟩,h3.kpr (qg hg (fun t ht e=>by rcases ht with rfl|rfl|rfl<;>exact absurd e (by decide)))⟩
 ·rw[e,hg] at h1;cases h1
 obtain⟨-,-,cur,h4⟩:=bz h2 hj;have e:j=g:=e;rw[e,hg] at h4;cases h4
theorem NU (ob q:Nat)(v:QV)(l:List EP)(b:List UInt8)(wr:World)(hob:ob<q)(hst:StE ob v q l wr)(hr:RdS q q ⟨b,false⟩ wr)(hb:b.length<=4194304)(hl:l.length<=4194304) :
  Calls Tryz.prog 230 #[.pointer (some ⟨q,0,none⟩),.pointer (some ⟨ob,0,none⟩)] wr (rU q [ob] elE rH 1000 (StE ob v) l b wr):=by
 obtain⟨⟨a,k,ho,hown⟩,hE⟩:=hst;have T:=bI ⟨b,false⟩ 1 (by decide);have hl3:=iM ⟨b,false⟩ 1;have hby:=gK q q ⟨b,false⟩ 1 wr hr (by dsimp only;omega);generalize RS.bytes ⟨b,false⟩ 1=y at *;obtain⟨y,s'⟩:=y;dsimp only at T hby hl3;have hqs:q<wr.heap.size:=by obtain⟨_,_,h⟩:=hr;exact h.lt
 have HT:=hid T;clear T;go_in;go_wp2_with fail;refine hby.mono ?_;rintro e W1 ⟨a1,c1,rfl,hrd1,hty1,hr1,hg1⟩;have hE1:=hE.kpr (xg hr hg1);have ho1:W1.heap[ob]?=some (v.ents a l.length k).box:=(hg1.block _ (by omega) (fun e=>by have:=Option.some.inj e;omega)).trans ho;have own1:W1.ownsRow q 124 2 (.slice a l.length k) l.length (enV l):=dO hown (fun k hk=>hg1.block k (bz hown hk).2.1 (fun e=>by obtain⟨_,_,cur,h3⟩:=bz hown hk;obtain⟨_,_,h⟩:=hr;have h4:=h.at_;rw[<-Option.some.inj e,h3] at h4;cases h4));have X1:BelX q [ob] wr W1:=(iI hg1 (M:=q) (by omega)).mono (Nat.le_refl _) (fun k hk h=>by rw[List.mem_singleton.1 hk] at h;omega);clear hby hE ho hown hr;go_wp2_with fail;refine (IX y a1 y.length c1 W1 hrd1 (by omega)).mono ?_;rintro e W2 hO;obtain⟨f,Y,xY,rfl,eY,tY,hb2,hans⟩:=Mc hO;have HA:=hid hans;have hz1:=hg1.size;clear hO hans hrd1 hty1;unfold EV.val EV.cells;go_upto_region 2 with (refine zNr rfl ?_;go_simp);generalize hg:W2.alloc _=W3;have e3:W2.alloc Y.box=W3:=hg;have hb3':Below W2.heap.size W2 W3:=by rw[<-e3];exact (Below.refl _ _).alloc (Nat.le_refl _) _
 have hb3:=hb2.trans (hb3'.mono hb2.size);have q3:W3.heap[W2.heap.size]?=some Y.box:=by rw[<-e3];show (W2.heap.push _)[W2.heap.size]?=some _;exact Array.getElem?_push_size
 have ho3:=(hb3.block _ (by omega)).trans ho1;have own3:=aF own1 hb3;have hr3:=hr1.later hb3;have hE3:=(hE1.kpr (KeepR.of_below hb3)).snoc (p:=(Y,xY)) (eY.later hb3') (tY.kpr (.inr (.inr rfl)) (KeepR.of_below hb3'));have X3:BelX q [ob] wr W3:=X1.trans ((BelX.of_below hb3 [ob]).mono (by omega) (fun _ hk _=>hk));have z3:q<=W3.heap.size:=Nat.le_trans (Nat.le_of_lt hqs) (Nat.le_trans hz1 hb3.size);clear hg e3 hb3' hb3 hb2 ho1 own1 hr1 hE1 eY tY X1 hg1;generalize W2.heap.size=yb at *;obtain⟨c0,c1,c2,c3,c4⟩:=aj ho3;dsimp only[QV.ents] at c0 c1 c2 c3;obtain⟨g0,g1,-⟩:=dF q3;go_upto_region 3 with (at_builtin;refine fD _ rfl (.tmp 13) (.tmp 15) 37 rfl q 124 zeroE.val 2 40 ru (by decide) (.slice a l.length k) l.length (enV l) rfl own3 1 [.string Y.name,.slice Y.ao Y.an Y.ac] rfl rfl (fun x hx=>by simp at hx;rcases hx with rfl|rfl<;>rfl) z3 (by omega) ?_;intro a4 k4 W4 own4 hg4 hb4 _;have ho4:W4.heap[ob]?=some (v.ents a l.length k).box:=(hb4.block _ hob).trans ho3;obtain⟨d0,d1,d2,d3,d4⟩:=aj ho4;dsimp only[QV.ents] at d0 d1 d2 d3);have hba:Below W3.heap.size W3 (W3.alloc (.cells #[.string Y.name,.slice Y.ao Y.an Y.ac] 124)):=(Below.refl _ _).alloc (Nat.le_refl _) _;have owna:=aF own3 hba;have hr4:RdS q q s' W4:=uN (hr3.later hba) hg4 owna (by decide) (by decide);have hE4:=hE3.kpr ((KeepR.of_below hba).trans (uT hg4 owna (fun t ht e=>by rcases ht with rfl|rfl|rfl<;>exact absurd e (by decide))));have X4:BelX q [ob] wr W4:=X3.trans (BelX.of_below hb4 [ob]);have ho5:(W4.setCell ⟨ob,2,none⟩ (.slice a4 (l.length+1) k4)).heap[ob]?=some (v.ents a4 (l.length+1) k4).box:=(at_set ho4).trans (by kernel_rfl);have hr5:RdS q q s' (W4.setCell ⟨ob,2,none⟩ (.slice a4 (l.length+1) k4)):=hr4.grown (ai _ _ _ _) ho4 (fun c fr h=>by cases h) (by omega);have hE5:=hE4.kpr (qg (i:=2) (x:=.slice a4 (l.length+1) k4) ho4 (fun t ht e=>by rcases ht with rfl|rfl|rfl<;>exact absurd e (by decide)));have X5:BelX q [ob] wr (W4.setCell ⟨ob,2,none⟩ (.slice a4 (l.length+1) k4)):=X4.set _ _ _ (.inl (by simp));have own5:(W4.setCell ⟨ob,2,none⟩ (.slice a4 (l.length+1) k4)).ownsRow q 124 2 (.slice a4 (l.length+1) k4) (l.length+1) (enV (l++[(Y,xY)])):=by
  rw[wG];exact dO own4 (fun k hk=>Below.heap_setCell _ _ _ _ (by have:=(bz own4 hk).1;show k≠ob;omega))
 clear hba owna hr4 hE4 X4 ho4 hr3 hE3 X3 ho3 own3 own4 hg4 hb4 c0 c1 c2 c3 c4 d0 d1 d2 d3 d4 q3 z3 g0 g1;generalize W4.setCell _ _=W5 at *;obtain⟨c0,c1,c2,c3,c4⟩:=aj ho5;dsimp only[QV.ents] at c0 c1 c2 c3;have hG:Hid (∀bb:Bool,(bb=true->l.length<1000/\au Y xY=true/\eu Y xY=y)->(bb=false->qU y\/1000<=l.length)->rU q [ob] elE rH 1000 (StE ob v) l b wr (.returned (.bool bb)) W5):=hid (by
  intro bb h1 h2;have eln:(l++[(Y,xY)]).length=l.length+1:=by simp
  refine⟨bb,s',(Y,xY),rfl,hr5,⟨⟨a4,k4,by rw[eln];exact ho5,by rw[eln];exact own5⟩,hE5⟩,X5,HT.out.le,fun hb hs=>?_,fun h=>?_⟩
  ·obtain⟨k1,k2,k3⟩:=h1 hb;obtain⟨-,k4,-⟩:=HT.out.yes hs;refine⟨k1,?_,k2⟩;unfold elE;dsimp only at k4 ⊢;rw[k3];exact k4
  have hno:s'.bad=true->∀z rest,rH z->b≠elE z++rest:=fun hs z rest hz=>by
   rcases HT.out.no hs with h | h
   ·cases h
   exact h (eu z.1 z.2) rest (by have:=iL hz;omega)
  cases hs:s'.bad with
  | true=>exact .inr (hno hs)
  | false=>
   rw[hs] at h;rcases h with rfl | h
   ·rcases h2 rfl with h3 | h3
    ·obtain⟨-,k4,k5⟩:=HT.out.yes hs;refine .inr (fun z rest hz e=>?_);rw[show b=val 1 y++s'.l from k4] at e;exact h3 z.1 z.2 hz (ak (by decide) k5 (by have:=iL hz;omega) e).1.symm
    exact .inl h3
   cases h)
 clear ho5 hr5 hE5 X5 own5 HT;rcases HA.out with ⟨rfl,mY,lY⟩ | ⟨rfl,nY⟩
 ·have HM:=hid (And.intro mY lY);clear mY lY;by_cases h8:l.length<1000
  ·have f0:decide ((l.length:Int)+1<=1000)=true:=decide_eq_true (by omega);go_wp2_with fail;go_ret;exact hG.out true (fun _=>⟨h8,HM.out.1,HM.out.2⟩) (fun h=>by cases h)
  have f0:decide ((l.length:Int)+1<=1000)=false:=decide_eq_false (by omega);go_wp2_with fail;go_ret;exact hG.out false (fun h=>by cases h) (fun _=>.inr (by omega))
 have HM:=hid nY;clear nY;go_wp2_with fail;go_ret;exact hG.out false (fun h=>by cases h) (fun _=>.inl HM.out)
theorem Ia (B g ob:Nat)(s:RS)(t:UInt8)(v:QV)(W:World)(ht:0<t.toNat)(hr:RdS B g s W)(hl:s.l.length<=100000000)(ho:W.heap[ob]?=some (v.ents none 0 0).box)(hg:g≠ob) :
  Calls Tryz.prog 207 #[.pointer (some ⟨g,0,none⟩),.int .u8 (t.toNat:Int),.func (.func 230) #[] #[.pointer (some ⟨ob,0,none⟩)]] W (Dt B g t s [ob] elE rH 1000 (StE ob v) W):=by
 have hls:=(Array.getElem?_eq_some_iff.1 ho).1;refine ut B g s t 230 #[.pointer (some ⟨ob,0,none⟩)] W ht hr hl (enters_of Tryz.func230 (by kernel_rfl) rfl) [ob] (fun k hk=>?_) elE rH 1000 NF NV (StE ob v) (fun q w1 h=>?_) (fun q l wx cs x _ h1 h2=>h1.set h2) (fun q l b wr hq h1 h2 h3 h4 _=>NU ob q v l b wr (by omega) h1 h2 h3 h4)
 ·rw[List.mem_singleton.1 hk];exact⟨fun e=>hg e.symm,_,ho,fun c fr h=>by cases h⟩
 exact⟨⟨none,0,(h.block _ hls (fun e=>hg (Option.some.inj e).symm)).trans ho,World.ownsRow_nil _ _ _ _⟩,fun p hp=>by cases hp⟩
def gW (t:TypeId):Prop:=t=5\/t=9\/t=106\/t=124\/t=55\/t=22
structure KeepM (W W':World):Prop where
 size:W.heap.size<=W'.heap.size
 rows:∀(k:Nat) (c:Array Value) (t:TypeId) (fr:Nat×Nat),gW t->W.heap[k]?=some (Obj.cells c t fr)->W'.heap[k]?=some (Obj.cells c t fr)
theorem KeepM.of_below {a b:World}(h:Below a.heap.size a b):KeepM a b:=⟨h.size,fun k _ _ _ _ hk=>(h.block k (Array.getElem?_eq_some_iff.1 hk).1).trans hk⟩
theorem KeepM.kr {a b:World}(h:KeepM a b):KeepR a b:=⟨h.size,fun k c t fr ht hk=>h.rows k c t fr (by rcases ht with h | h | h<;>simp[gW,h]) hk⟩
theorem KeepM.of_belX {a b:World}{xs:List Nat}(h:BelX a.heap.size xs a b)(hx:∀k∈xs,∃o,a.heap[k]?=some o/\∀(c:Array Value) (t:TypeId) (fr:Nat×Nat),gW t->o≠.cells c t fr):KeepM a b:=by
 refine⟨h.size,fun k c t fr ht hk=>h.at_ hk (Array.getElem?_eq_some_iff.1 hk).1 (fun hm=>?_)⟩;obtain⟨o,h1,h2⟩:=hx k hm;rw[hk] at h1;exact h2 c t fr ht (Option.some.inj h1).symm
theorem KeepM.box {a b:World}{j:Nat}{cs:Array Value}{t:TypeId}{fr:Nat×Nat}(h:a.heap[j]?=some (.cells cs t fr))(ht:¬gW t)(hs:a.heap.size<=b.heap.size)(ho:∀k,k≠j->b.heap[k]?=a.heap[k]?):KeepM a b:=by
 refine⟨hs,fun k c t' fr' ht' hk=>?_⟩;have hne:k≠j:=fun e=>by
  subst e;rw[h] at hk;cases hk;exact ht ht'
 exact (ho k hne).trans hk
theorem KeepM.set {W:World}{b i:Nat}{cs:Array Value}{t:TypeId}{fr:Nat×Nat}{x:Value}(h:W.heap[b]?=some (.cells cs t fr))(ht:¬gW t):KeepM W (W.setCell ⟨b,i,none⟩ x):=
 KeepM.box h ht (Nat.le_of_eq (World.size_setCell _ _ _).symm) (fun _ hk=>Below.heap_setCell _ _ _ _ hk)
theorem KeepM.grown {W W':World}{b:Nat}{cs:Array Value}{t:TypeId}{fr:Nat×Nat}(hg:W.grownBy W' (some b))(h:W.heap[b]?=some (.cells cs t fr))(ht:¬gW t):KeepM W W':=by
 refine⟨hg.size,fun k c t' fr' ht' hk=>(hg.block k (Array.getElem?_eq_some_iff.1 hk).1 (fun e=>?_)).trans hk⟩;have e:=Option.some.inj e;subst e;rw[h] at hk;cases hk;exact ht ht'
theorem kC {a b:World}{size:Nat}{ao:Option Addr}{n cap:Nat}{xs:List Value}{t:TypeId}(ht:gW t)(h:Rd a size ao n cap xs)(hy:TyX t a ao cap)(hk:KeepM a b):Rd b size ao n cap xs:=by
 obtain⟨h1,h2,h3,h4,h5⟩:=h;refine⟨h1,h2,h3,h4,fun h0 x hx=>?_⟩;obtain⟨s1,l,c⟩:=h5 h0 x hx;obtain⟨c',fr,h6⟩:=hy h0 x hx;exact⟨s1,Nat.lt_of_lt_of_le l hk.size,fun j u hu=>(World.cell?_of_block (a:=⟨x.block,x.off+j,none⟩) ((hk.rows _ _ _ _ ht h6).trans h6.symm)).trans (c j u hu)⟩
theorem TyX.kpm {a b:World}{ao:Option Addr}{cap:Nat}{t:TypeId}(ht:gW t)(hy:TyX t a ao cap)(hk:KeepM a b):TyX t b ao cap:=fun h0 x hx=>by
 obtain⟨c',fr,h6⟩:=hy h0 x hx;exact⟨c',fr,hk.rows _ _ _ _ ht h6⟩
theorem iq:gW 5:=.inl rfl
theorem wB:gW 124:=.inr (.inr (.inr (.inl rfl)))
theorem qI:gW 55:=.inr (.inr (.inr (.inr (.inl rfl))))
theorem qR:gW 22:=.inr (.inr (.inr (.inr (.inr rfl))))
theorem iW:¬gW 39:=fun h=>by rcases h with h | h | h | h | h | h<;>exact absurd h (by decide)
theorem oh:¬gW 237:=fun h=>by rcases h with h | h | h | h | h | h<;>exact absurd h (by decide)
structure QTy (W:World)(v:QV)(c:QC):Prop where
 e:TyX 124 W v.eo v.ec
 a:∀p∈c.ents,TyX 106 W p.1.ao p.1.ac
 c:TyX 5 W v.co v.cc
theorem QTy.kpm {a b:World}{v:QV}{c:QC}(h:QTy a v c)(hk:KeepM a b):QTy b v c:=⟨h.e.kpm wB hk,fun p hp=>(h.a p hp).kpr (.inr (.inr rfl)) hk.kr,h.c.kpm iq hk⟩
theorem EnAt.kpm {a b:World}{ao:Option Addr}{n cap:Nat}{l:List EP}(h:EnAt a ao n cap l)(h1:TyX 124 a ao cap)(h2:∀p∈l,TyX 106 a p.1.ao p.1.ac)(hk:KeepM a b):EnAt b ao n cap l:=
 ⟨kC wB h.r h1 hk,fun p hp=>⟨jI (.inr (.inr rfl)) (h.each p hp).a (h2 p hp) hk.kr,(h.each p hp).la⟩⟩
theorem QAt.kpm {a b:World}{v:QV}{c:QC}(h:QAt a v c)(hy:QTy a v c)(hk:KeepM a b):QAt b v c:=⟨h.e.kpm hy.e hy.a hk,kC iq h.c hy.c hk,h.lc⟩
theorem qQ {M B:Nat}{xs:List Nat}{a b:World}(h:BelX M xs a b)(hM:B<=M)(hx:∀k∈xs,B<=k):Below B a b:=⟨h.os,h.tape,h.output,h.size,fun k hk=>h.block k (by omega) (fun hm=>by have:=hx k hm;omega)⟩
def uS (T:World->QV->QC->Prop)(ok bad:Value)(b:List UInt8)(w:World)(e:Ending)(w':World):Prop:=Below w.heap.size w w' /\
 ((∃v c,e=.returned (.tuple #[QV.val v,ok])/\QAt w' v c/\T w' v c/\bf v c=true/\dG v c=b)\/(e=.returned (.tuple #[aA.val,bad])/\rC b))
theorem GM {s s':RS}{l:List EP}(T:Took (fun ys=>val 3 (dY elE ys)) (fun ys=>(∀y∈ys,rH y)/\ys.length<=1000/\(dY elE ys).length<=4194304) (fun ys=>(∀y∈ys,rH y)/\ys.length<=1000/\(dY elE ys).length<=4194304) s l s'):Took (val 3) Ad (fun z=>z.length<=4194304) s (dm l) s':=
 C9 (f:=dm) T (fun _=>rfl) (fun _ ⟨m,h1,h2,h3,h4⟩=>⟨m,⟨h2,h3,h4⟩,h1.symm⟩) (fun _ h=>h.2.2)
theorem rG {v v':QV}{c c':QC}(h1:v.code=v'.code)(h2:v.yes=v'.yes)(h3:aH c.ents c'.ents=true)(h4:c.cursor=c'.cursor):aN v c v' c'=true:=by
 unfold aN;rw[decide_eq_true h1,decide_eq_true h2,h3,decide_eq_true h4];rfl
theorem Bz (b:List UInt8)(ao:Option Addr)(n cap:Nat)(w:World)(hr:Rd w 1 ao n cap (byV b))(hn:n<=100000000) :
  Calls Tryz.prog 199 #[.slice ao n cap] w (uS QTy (.int .i64 0) (.int .i64 4) b w):=by
 have hbn:b.length=n:=by have:=hr.1;rw[aS] at this;omega
 have hb0:Below w.heap.size w (w.alloc aA.box):=(Below.refl _ _).alloc (Nat.le_refl _) _;have k0:(w.alloc aA.box).heap[w.heap.size]?=some aA.box:=by show (w.heap.push _)[w.heap.size]?=some _;exact Array.getElem?_push_size
 have hz0:(w.alloc aA.box).heap.size=w.heap.size+1:=by simp
 have hr0:=hr.later hb0;unfold aA QV.box QV.cells at hb0 k0 hz0 hr0;dsimp only at hb0 k0 hz0 hr0;clear hr;go_in;go_upto_region 1 with fail;generalize hg:w.alloc _=W0 at *;have k0f:W0.heap[w.heap.size]?=some aA.box:=k0;clear hg k0;go_wp2_with fail;refine (nT ao n cap b W0 hr0 (by omega)).mono ?_;rintro e W1 ⟨g,rfl,hr1,hb1⟩;have hg0:W0.heap.size<=g:=by obtain⟨_,_,h⟩:=hr1;exact h.le
 have T1:=jr (mD ⟨b,false⟩ 1 255 (by decide) (by decide)) (may':=fun n=>n<=14) (good':=fun n=>n<18446744073709551616) (fun _ _=>by omega) (fun _ _=>by omega);have hle1:=nG ⟨b,false⟩ 1 255;have hnum1:=lH W0.heap.size g ⟨b,false⟩ 1 255 W1 hr1 (by dsimp only;omega) (by decide);generalize RS.numM ⟨b,false⟩ 1 255=nm at *;obtain⟨n1,s1⟩:=nm;dsimp only at T1 hnum1 hle1;have l1:=T1.le;dsimp only at l1;have HT1:=hid T1;clear T1;go_wp2_with fail;refine hnum1.mono ?_;rintro e W2 ⟨rfl,hr2,hg2⟩;have T2:=sO s1 2 (by decide);have hflag:=xM W0.heap.size g s1 2 W2 hr2 (by omega);unfold iE at hflag;generalize RS.flag s1 2=fm at *;obtain⟨y2,s2⟩:=fm;dsimp only at T2 hflag;have l2:=T2.le;have HT2:=hid T2;clear T2;go_wp2_with fail;refine hflag.mono ?_;rintro e W3 ⟨rfl,hr3,hg3⟩;have hb3:Below W0.heap.size W0 W3:=(hb1.trans (below_of_grown hg2 hg0 (by obtain⟨_,_,h⟩:=hr1;exact h.lt))).trans (below_of_grown hg3 hg0 (by obtain⟨_,_,h⟩:=hr2;exact h.lt));go_upto_region 3 with (refine zNr rfl ?_;go_simp);generalize hg:W3.alloc _=W4;obtain⟨V,hV⟩:∃V:QV,V=⟨(n1:Int),y2,none,0,0,none,0,0⟩:=⟨_,rfl⟩
 have e4:W3.alloc V.box=W4:=by rw[hV];exact hg
 have hb4':Below W3.heap.size W3 W4:=by rw[<-e4];exact (Below.refl _ _).alloc (Nat.le_refl _) _
 have q4:W4.heap[W3.heap.size]?=some V.box:=by rw[<-e4];show (W3.heap.push _)[W3.heap.size]?=some _;exact Array.getElem?_push_size
 have hr4:=hr3.later hb4';have hb4:=hb3.trans (hb4'.mono hb3.size);have hob:W0.heap.size<=W3.heap.size:=hb3.size;have hgo:g≠W3.heap.size:=by obtain⟨_,_,h⟩:=hr3;have:=h.lt;omega
 have HV:=hid hV;clear hg e4 hnum1 hflag hb1 hr1 hr2 hr3 hg2 hg3 hb3 hb4' hV hle1;generalize W3.heap.size=ob at *;have hVn:V=V.ents none 0 0:=by rw[HV.out];rfl
 have q4':W4.heap[ob]?=some (V.ents none 0 0).box:=by rw[<-hVn];exact q4
 clear hVn;go_wp2_with fail;refine (Ia W0.heap.size g ob s2 3 V W4 (by decide) hr4 (by omega) q4' hgo).mono ?_;rintro e W5 ⟨⟨r5,rfl⟩,s3,qb,l,hr5,hq5,hst5,hX5,hln5,T3'⟩;obtain⟨⟨a5,k5,q5,own5⟩,ty5⟩:=hst5;have T3:=GM T3';have l3:=T3.le;have hb5:Below W0.heap.size W0 W5:=hb4.trans (qQ hX5 hb4.size (fun k hk=>by simp only[List.mem_cons,List.not_mem_nil,or_false] at hk;omega));have HT3:=hid T3;have HT3':=hid T3';clear T3 T3' q4 q4' hr4 hb4 hX5;have T4:=bI s3 4 (by decide);have hl4:=iM s3 4;have hby:=gK W0.heap.size g s3 4 W5 hr5 (by omega);generalize RS.bytes s3 4=y at *;obtain⟨cur,s4⟩:=y;dsimp only at T4 hby hl4;have HT4:=hid T4;clear T4;go_wp2_with fail;refine hby.mono ?_;rintro e W6 ⟨a6,c6,rfl,hrd6,hty6,hr6,hg6⟩;have hb6:Below W0.heap.size W0 W6:=hb5.trans (below_of_grown hg6 hg0 (by obtain⟨_,_,h⟩:=hr5;exact h.lt));have q6:W6.heap[ob]?=some (V.ents a5 l.length k5).box:=(hg6.block _ (Array.getElem?_eq_some_iff.1 q5).1 (fun e=>hgo (Option.some.inj e).symm)).trans q5;have own6:W6.ownsRow qb 124 2 (.slice a5 l.length k5) l.length (enV l):=dO own5 (fun k hk=>hg6.block k (bz own5 hk).2.1 (fun e=>by obtain⟨_,_,cur,h3⟩:=bz own5 hk;obtain⟨_,_,h⟩:=hr5;have h4:=h.at_;rw[<-Option.some.inj e,h3] at h4;cases h4));have ty6:=ty5.kpr (xg hr5 hg6);clear hby q5 own5 ty5 hr5 hb5 hg6;obtain⟨d0,d1,d2,d3,d4⟩:=aj q6;go_upto_region 5 with fail;have q7:(W6.setCell ⟨ob,3,none⟩ (.slice a6 cur.length c6)).heap[ob]?=some (QV.box ⟨(n1:Int),y2,a5,l.length,k5,a6,cur.length,c6⟩):=(at_set q6).trans (by rw[HV.out];kernel_rfl);have hr7:RdS W0.heap.size g s4 (W6.setCell ⟨ob,3,none⟩ (.slice a6 cur.length c6)):=hr6.grown (ai _ _ _ _) q6 (fun c fr h=>by cases h) hgo;have hb7:=hb6.setCell (p:=⟨ob,3,none⟩) hob (.slice a6 cur.length c6);have hK7:KeepM W6 (W6.setCell ⟨ob,3,none⟩ (.slice a6 cur.length c6)):=KeepM.set q6 iW;have hty7:QTy (W6.setCell ⟨ob,3,none⟩ (.slice a6 cur.length c6)) ⟨(n1:Int),y2,a5,l.length,k5,a6,cur.length,c6⟩ ⟨l,cur⟩:=(show QTy W6 ⟨(n1:Int),y2,a5,l.length,k5,a6,cur.length,c6⟩ ⟨l,cur⟩ from ⟨TyX.of_own own6,fun p hp=>(ty6 p hp).2,hty6⟩).kpm hK7;have hQ7:QAt (W6.setCell ⟨ob,3,none⟩ (.slice a6 cur.length c6)) ⟨(n1:Int),y2,a5,l.length,k5,a6,cur.length,c6⟩ ⟨l,cur⟩:=(show QAt W6 ⟨(n1:Int),y2,a5,l.length,k5,a6,cur.length,c6⟩ ⟨l,cur⟩ from ⟨⟨Rd.of_own_slice own6,fun p hp=>(ty6 p hp).1⟩,hrd6,by dsimp only;omega⟩).kpm ⟨TyX.of_own own6,fun p hp=>(ty6 p hp).2,hty6⟩ hK7;generalize W6.setCell _ _=W7 at *;clear d0 d1 d2 d3 d4 q6 own6 ty6 hrd6 hty6 hr6 hb6 hK7;have hrz:W7.heap[w.heap.size]?=some aA.box:=(hb7.block _ (by omega)).trans k0f;have hbel:=hb0.trans (hb7.mono (by omega));go_wp2_with fail;refine (nJ W0.heap.size g s4 W7 hr7).mono ?_;rintro e w9 ⟨rfl,rfl⟩;have f1:(W7.setRow w.heap.size aA.cells).heap[w.heap.size]?=some (.cells aA.cells 39):=aT hrz;have f2:=below_setRow hbel (Nat.le_refl _) aA.cells;by_cases he:s4.bad=true\/0<s4.l.length
 ·have e4:s4.ends=4:=if_pos he;have hno:=hid (nR HT1.out HT2.out HT3.out HT4.out (.inl he));rw[e4];clear he;go_wp2_with (refine zSr rfl hrz ?_;go_simp);exact bodyPost_ret (w:=W7.setRow w.heap.size aA.cells) (aI (i:=2) (j:=3) (t:=39) rfl rfl rfl (by kernel_rfl) (by kernel_rfl) f1) rfl ⟨f2,.inr ⟨rfl,hno.out⟩⟩
 have e4:s4.ends=0:=if_neg he;have hs1:s4.bad=false:=by cases h:s4.bad with
  | true=>exact absurd (.inl h) he
  | false=>rfl
 have hs2:s4.l=[]:=List.eq_nil_of_length_eq_zero (by
  have:¬0<s4.l.length:=fun h=>he (.inr h);omega)
 rw[e4];have hs3:s3.bad=false:=(HT4.out.yes hs1).1;obtain⟨-,-,hall,-,hsh⟩:=HT3'.out.yes hs3;have hdone:=Cb HT1.out HT2.out HT3.out HT4.out hs1 hs2;have HD:Hid (dG ⟨(n1:Int),y2,a5,l.length,k5,a6,cur.length,c6⟩ ⟨l,cur⟩=b):=hid hdone.1.symm;have HNo:Hid (bf ⟨(n1:Int),y2,a5,l.length,k5,a6,cur.length,c6⟩ ⟨l,cur⟩=false->rC b):=hid (fun hf=>nR HT1.out HT2.out HT3.out HT4.out (.inr (fun W v c ho hm g1 g2 g3 g4=>by
  have F:=FitQ.of ho hm;have:=vW ho hQ7 (rG g1 g2 (qO _ _ F.all hall g3) g4);rw[hm,hf] at this;cases this)))
 have hme:=rX ⟨(n1:Int),y2,a5,l.length,k5,a6,cur.length,c6⟩ ⟨l,cur⟩ W7 hQ7 (fun _=>hsh);clear he hdone hs1 hs2 hs3 hall hsh;unfold QV.val QV.cells at hme;go_wp2_with (refine wpList_load_row (ty:=39) q7 rfl rfl rfl (by kernel_rfl) (by kernel_rfl) ?_;go_simp);refine hme.mono ?_;rintro e W8 ⟨rfl,hb8⟩;have hrz8:=(hb8.block _ (Array.getElem?_eq_some_iff.1 hrz).1).trans hrz;have q8:=(hb8.block _ (Array.getElem?_eq_some_iff.1 q7).1).trans q7;have hbel8:=hbel.trans (hb8.mono hbel.size);have hQ8:=hQ7.later hb8;have hty8:=hty7.kpm (KeepM.of_below hb8);clear hme hQ7 hty7 hrz q7 hbel hb8 f1 f2;cases hm:bf ⟨(n1:Int),y2,a5,l.length,k5,a6,cur.length,c6⟩ ⟨l,cur⟩ with
 | false=>
  have hno:=HNo.out hm;have f1:(W8.setRow w.heap.size aA.cells).heap[w.heap.size]?=some (.cells aA.cells 39):=aT hrz8;have f2:=below_setRow hbel8 (Nat.le_refl _) aA.cells;clear hm;go_wp2_with (refine zSr rfl hrz8 ?_;go_simp);exact bodyPost_ret (w:=W8.setRow w.heap.size aA.cells) (aI (i:=2) (j:=3) (t:=39) rfl rfl rfl (by kernel_rfl) (by kernel_rfl) f1) rfl ⟨f2,.inr ⟨rfl,hno⟩⟩
 | true=>
  have HM:=hid hm;have f1:(W8.setRow w.heap.size (QV.cells ⟨(n1:Int),y2,a5,l.length,k5,a6,cur.length,c6⟩)).heap[w.heap.size]?=some (.cells (QV.cells ⟨(n1:Int),y2,a5,l.length,k5,a6,cur.length,c6⟩) 39):=aT hrz8;have f2:=below_setRow hbel8 (Nat.le_refl _) (QV.cells ⟨(n1:Int),y2,a5,l.length,k5,a6,cur.length,c6⟩);have hK:=KeepM.box (b:=W8.setRow w.heap.size (QV.cells ⟨(n1:Int),y2,a5,l.length,k5,a6,cur.length,c6⟩)) hrz8 iW (below_setRow (Below.refl w.heap.size W8) (Nat.le_refl _) (QV.cells ⟨(n1:Int),y2,a5,l.length,k5,a6,cur.length,c6⟩)).size (fun k hk=>setRow_other W8 w.heap.size k (QV.cells ⟨(n1:Int),y2,a5,l.length,k5,a6,cur.length,c6⟩) hk);have hQF:=hQ8.kpm hty8 hK;have hTF:=hty8.kpm hK;clear hm;go_wp2_with (first | (refine wpList_load_row (ty:=39) q8 rfl rfl rfl (by kernel_rfl) (by kernel_rfl) ?_;go_simp) | (refine zSr rfl hrz8 ?_;go_simp));exact bodyPost_ret (w:=W8.setRow w.heap.size (QV.cells ⟨(n1:Int),y2,a5,l.length,k5,a6,cur.length,c6⟩)) (aI (i:=2) (j:=3) (t:=39) rfl rfl rfl (by kernel_rfl) (by kernel_rfl) f1) rfl ⟨f2,.inl ⟨_,⟨l,cur⟩,rfl,hQF,hTF,HM.out,HD.out⟩⟩
end Go.Proofs.YtfmmandlmbcncaaGreatDoor.Msg
