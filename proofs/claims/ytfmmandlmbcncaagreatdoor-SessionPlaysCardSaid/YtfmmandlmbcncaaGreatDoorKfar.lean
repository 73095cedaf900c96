/-A part of the proof.-/
import Derived.Test.YtfmmandlmbcncaaGreatDoorKfaq
set_option maxHeartbeats 40000000
set_option maxRecDepth 100000
set_option linter.all false
namespace Go.Proofs.YtfmmandlmbcncaaGreatDoor
namespace Msg
open Go.RowKit Go.Lib Mem Tlv
variable{B b1 cap g i o1 ob:Nat}{V v:OV}{W W' a b w w1 wr:World}{ao:Option Addr}{c:OC}{ls:List UInt8}{s:RS}{x:Value}
structure KeepB (B:Nat)(W W':World):Prop where
 kr:KeepR W W'
 low:∀k,k<B->k<W.heap.size->W'.heap[k]?=W.heap[k]?
theorem KeepB.of_below(h:Below a.heap.size a b):KeepB B a b:=⟨KeepR.of_below h,fun k _ h2=>h.block k h2⟩
theorem TyB.kpb(hy:TyB B a ao cap)(hk:KeepB B a b):TyB B b ao cap:=fun h0 x hx=>by
 rcases hy h0 x hx with h1 | ⟨c,fr,h1⟩
 ·exact .inl h1
 exact .inr ⟨c,fr,hk.kr.rows _ _ _ _ (.inl rfl) h1⟩
theorem ji{n:Nat}{xs:List Value}(h:Rd a 1 ao n cap xs)(hy:TyB B a ao cap)(hk:KeepB B a b):Rd b 1 ao n cap xs:=by
 obtain⟨h1,h2,h3,h4,h5⟩:=h;refine⟨h1,h2,h3,h4,fun h0 x hx=>?_⟩;obtain⟨s1,l,c⟩:=h5 h0 x hx;have he:b.heap[x.block]?=a.heap[x.block]?:=by
  rcases hy h0 x hx with h6 | ⟨c',fr,h6⟩
  ·exact hk.low _ h6 l
  exact (hk.kr.rows _ _ _ _ (.inl rfl) h6).trans h6.symm
 exact⟨s1,yaz l hk.kr.size,fun j u hu=>(yaK (a:=⟨x.block,x.off+j,none⟩) he).trans (c j u hu)⟩
structure OpTyB (B:Nat)(W:World)(v:OV):Prop where
 a:TyX 106 W v.ao v.ac
 b:TyX 9 W v.bo v.bc
 c:TyB B W v.co v.cc
theorem OpTyB.kpb(h:OpTyB B a v)(hk:KeepB B a b):OpTyB B b v:=⟨h.a.kpr (.inr (.inr rfl)) hk.kr,h.b.kpr (.inr (.inl rfl)) hk.kr,TyB.kpb h.c hk⟩
theorem OpAt.kpb(h:OpAt a v c)(hy:OpTyB B a v)(hk:KeepB B a b):OpAt b v c:=
 ⟨kW (.inr (.inr rfl)) h.a hy.a hk.kr,kW (.inr (.inl rfl)) h.b hy.b hk.kr,ji h.c hy.c hk,h.la,h.lb,h.lc⟩
structure OfGo (B g ob:Nat)(w:World)(b:List UInt8)(v:OV)(c:OC)(ls:List UInt8)(s:RS)(wr:World):Prop where
 bel:Below w.heap.size w wr
 box:InO ob v wr
 rd:RfS B g s wr
 at_:OpAt wr v c
 ty:OpTyB B wr v
 part:Part b v c ls s
theorem OG(hr:RfS B g s wr)(hg:wr.grownBy w1 (some g)):KeepB B wr w1:=by
 have hle:=hr.le;refine⟨KeepR.of_belX (BelX.of_grown hg) (fun k hk=>?_),fun k h1 h2=>hg.block k h2 (fun e=>by have:=yaf e;omega)⟩;rw[yah.1 hk];obtain⟨_,_,h⟩:=hr;refine⟨_,h.at_,fun c t fr ht e=>?_⟩;cases e;rcases ht with h | h | h<;>exact absurd h (by decide)
theorem PO(hb:InO ob v w1)(hB:B<=ob):KeepB B w1 (w1.setCell ⟨ob,i,none⟩ x):=⟨FB hb,fun k h1 _=>yaA _ _ _ _ (by show k≠ob;omega)⟩
theorem OfGo.next{b:List UInt8}{v':OV}{c':OC}{ls':List UInt8}{s':RS}(h:OfGo B g ob w b v c ls s wr)(hg:wr.grownBy w1 (some g))(hr:RfS B g s' w1)(hgw:w.heap.size<=g)(how:w.heap.size<=ob)(hgo:g≠ob)(hBo:B<=ob)
  (hbox:(match v.box with | .cells cs t fr=>Obj.cells (cs.setIfInBounds i x) t fr | o=>o)=v'.box) (ha:OpAt w1 v' c') (ht:OpTyB B w1 v') (hp:Part b v' c' ls' s'):OfGo B g ob w b v' c' ls' s' (w1.setCell ⟨ob,i,none⟩ x):=by
 have hb1:InO ob v w1:=h.box.grown hg (fun e=>hgo (yaf e).symm);have hk:=PO (i:=i) (x:=x) hb1 hBo;refine⟨(h.bel.trans (below_of_grown hg hgw h.rd.lt)).setCell how x,?_,hr.grown (ak _ _ _ _) hb1 (fun c fr h=>by cases h) hgo hBo,ha.kpb ht hk,ht.kpb hk,hp⟩;have h2:=at_set (i:=i) (x:=x) hb1;unfold InO;rw[<-hbox];exact h2
theorem OfGo.kept{b:List UInt8}(h:OfGo B g ob w b v c ls s wr)(hg:wr.grownBy w1 (some g)):OpAt w1 v c/\OpTyB B w1 v:=⟨h.at_.kpb h.ty (OG h.rd hg),h.ty.kpb (OG h.rd hg)⟩
theorem OfGo.later{b:List UInt8}(h:OfGo B g ob w b v c ls s wr)(hb:Below wr.heap.size wr w1):OfGo B g ob w b v c ls s w1:=
 ⟨h.bel.trans (hb.mono h.bel.size),h.box.step hb,h.rd.later hb,h.at_.later hb,h.ty.kpb (KeepB.of_below hb),h.part⟩
theorem uD(ys:List ByteArray):bT ys=aK 1 (ys.map fun y=>y.data.toList):=by
 unfold bT aK;rw[List.flatMap_map]
theorem Il{s1:RS}{L:List (List UInt8)}{t:UInt8}(T:Took (fun L=>val t (aK 1 L)) (fun L=>(aK 1 L).length<=4194304) (fun L=>(aK 1 L).length<=4194304) s L s1)(ys:List ByteArray)(hy:ys.map (fun y=>y.data.toList)=L) :
  Took (fun ys=>val t (bT ys)) (fun ys=>ys.length<=8/\(bT ys).length<=4194304) (fun ys=>(bT ys).length<=4194304) s ys s1:=by
 refine⟨fun hb=>?_,fun hb=>(T.no hb).imp id (fun h zs r hz=>?_),T.le⟩
 ·rw[uD,hy];exact T.yes hb
 rw[uD];exact h _ r (by rw[<-uD];exact hz.2)
structure PaAt (ob:Nat)(V:OV)(b1 o1:Nat)(u:El)(W:World):Prop where
 box:InO ob V W
 cell:W.cell? ⟨b1,o1,none⟩=some (.slice u.ao u.it.2.length u.cap)
 rd:Rd W 1 u.ao u.it.2.length u.cap (byV u.it.2)
theorem PaAt.step{u:El}(h:PaAt ob V b1 o1 u W)(hb:Below W.heap.size W W'):PaAt ob V b1 o1 u W':=⟨h.box.step hb,dK hb h.cell,h.rd.later hb⟩
theorem PaAt.low{u:El}(h:PaAt ob V b1 o1 u W)(hb:Below B W W')(h1:ob<B)(h2:b1<B)(h3:0<u.cap->∀a,u.ao=some a->a.block<B):PaAt ob V b1 o1 u W':=⟨(hb.block _ h1).trans h.box,(hb.cell (p:=⟨b1,o1,none⟩) h2).trans h.cell,h.rd.below hb h3⟩
def dC (j:Nat)(k:Int):List UInt8:=(fieldsOf k).filter fun x=>decide ((if x=110 then 1 else if x=116 then 2 else if x=97 then 3 else if x=112 then 4 else if x=99 then 5 else 6)<=j)
theorem Pe(k:Int):dC 0 k=[]:=by
 unfold dC;rw[List.filter_eq_nil_iff];intro x _
 repeat' split
 all_goals simp
structure OfSt (B g ob:Nat)(w:World)(b:List UInt8)(kn j:Nat)(v:OV)(c:OC)(s:RS)(W:World):Prop where
 ho:OfGo B g ob w b v c (dC j kn) s W
 hk:v.k=(kn:Int)
 nil:j<4->v.bo=none/\v.bn=0/\v.bc=0
theorem OfSt.up{b:List UInt8}{kn j j':Nat}(h:OfSt B g ob w b kn j v c s W)(e:dC j' kn=dC j kn)(hj:j<=j'):OfSt B g ob w b kn j' v c s W:=
 ⟨e▸h.ho,h.hk,fun h2=>h.nil (by omega)⟩
theorem KI(B:Nat)(b:List UInt8)(ao:Option Addr)(n cap:Nat)(w:World)(hr:Rd w 1 ao n cap (byV b))(hB:B<=w.heap.size)(hty:TyB B w ao cap)(hn:n<=100000000) :
  Calls Tryz.prog 131 #[.slice ao n cap] w (FC (OpTyB B) (.bool true) (.bool false) b w):=by
 have hmo:=hmO
 have hbn:b.length=n:=by have:=hr.1;rw[aV] at this;omega
 have hb0:=bN w zeroV.box;have k0:=aN w zeroV.box
 have hz0:(w.alloc zeroV.box).heap.size=w.heap.size+1:=by simp
 have hr0:=hr.later hb0;have ht0:=hty.later hb0;unfold zeroV OV.box at hb0 k0 hz0 hr0 ht0;dsimp only at hb0 k0 hz0 hr0 ht0;clear hr hty;go_in;go_upto_region 1 with fail;generalize hg:w.alloc _=W0 at *;have k0f:W0.heap[w.heap.size]?=some zeroV.box:=k0;clear hg k0;subst hbn;have hBW0:B<=W0.heap.size:=yae hB hb0.size;have hR:=oz hr0 hBW0 ht0;have hbR:=bN W0 (.cells #[.slice ao b.length cap,.bool false] 119);go_upto_region 2 with fail;generalize hg:W0.alloc _=W1 at *;have hz1:W1.heap.size=W0.heap.size+1:=by rw[<-hg];simp
 clear hg;go_upto_region 3 with (refine zNr rfl ?_;go_simp);generalize hg:W1.alloc _=W2;have e2:W1.alloc zeroV.box=W2:=hg;have hb2:=bE e2
 have kb:InO W1.heap.size zeroV W2:=aE e2
 have hR2:=hR.later hb2;have hbel2:Below W0.heap.size W0 W2:=hbR.trans (hb2.mono (by omega));clear hg e2 hb2 hR hbR hr0 ht0;rw[hz0] at hR2;rw[hz1,hz0] at kb;clear hz1;have T:=iL ⟨b,false⟩ 1 (by decide);go_wp2_with fail;generalize hgq:w.heap.size+1=g at *;generalize hobq:g+1=ob at *;have hg0:W0.heap.size<=g:=by omega
 have hob:W0.heap.size<=ob:=by omega
 have hgo:g≠ob:=by omega
 have hrbg:w.heap.size<g:=by omega
 have hrw:w.heap.size<W0.heap.size:=by omega
 clear hgq hobq;have hBo:B<=ob:=yae hBW0 hob;have hnum:=jQ B g ⟨b,false⟩ 1 W2 hR2 (by dsimp only;omega);generalize RS.num ⟨b,false⟩ 1=nm at *;obtain⟨kn,s0⟩:=nm;dsimp only at T hnum;refine hnum.mono ?_;rintro e W3 ⟨rfl,hR3,hg3⟩;have hbel3:Below W0.heap.size W0 W3:=hbel2.trans (below_of_grown hg3 hg0 hR2.lt);have kb3:InO ob zeroV W3:=kb.grown hg3 (fun e=>hgo (yaf e).symm);have hfin:∀(W:World),Below W0.heap.size W0 W->∀cs:Array Value,(W.heap[w.heap.size]?=some (.cells zeroV.cells 36 (0,0)))/\(W.setRow w.heap.size cs).heap[w.heap.size]?=some (.cells cs 36)/\Below w.heap.size w (W.setRow w.heap.size cs):=fun W hb cs=>by
  have h1:W.heap[w.heap.size]?=some (.cells zeroV.cells 36 (0,0)):=(hb.block _ hrw).trans k0f;exact⟨h1,aO h1,below_setRow (hb0.trans (hb.mono (yaZ hrw))) (yag _) cs⟩
 clear hnum hbel2 kb hR2 hg3;by_cases hkn:kn<1\/8<kn
 ·have hno:=Part.noKind T (hkn.symm);obtain⟨h1,f1,f2⟩:=hfin W3 hbel3 zeroV.cells;have Hno:=hid hno;clear T hno;by_cases hk1:kn<1
  ·have g0:decide ((kn:Int)<1)=true:=yaa (by omega);clear hkn hk1;go_wp2_with (first | (refine zLr rfl kb3 ?_;go_simp) | (refine zSr rfl h1 ?_;go_simp));exact yay (w:=W3.setRow w.heap.size zeroV.cells) (aj (i:=2) (j:=3) (t:=36) rfl rfl rfl (by kernel_rfl) (by kernel_rfl) f1) rfl ⟨f2,.inr ⟨rfl,Hno.out⟩⟩
  have g0:decide ((kn:Int)<1)=false:=yad (by omega);have g1:decide ((8:Int)<(kn:Int))=true:=yaa (by omega);clear hkn hk1;go_wp2_with (first | (refine zLr rfl kb3 ?_;go_simp) | (refine zSr rfl h1 ?_;go_simp));exact yay (w:=W3.setRow w.heap.size zeroV.cells) (aj (i:=2) (j:=3) (t:=36) rfl rfl rfl (by kernel_rfl) (by kernel_rfl) f1) rfl ⟨f2,.inr ⟨rfl,Hno.out⟩⟩
 have hP:=Part.start T (by omega);have ho4:OfGo B g ob W0 b ⟨(kn:Int),⟨#[]⟩,⟨#[]⟩,none,0,0,none,0,0,none,0,0,0⟩ ⟨[],[],[]⟩ [] s0 (W3.setCell ⟨ob,0,none⟩ (.int .i64 (kn:Int))):=by
  refine⟨hbel3.setCell hob _,at_set kb3,hR3.grown (ak _ _ _ _) kb3 (fun c fr h=>by cases h) hgo hBo,?_,?_,hP⟩
  ·exact⟨Rd.nil _ _,Rd.nil _ _,Rd.nil _ _,yam _,yam _,yam _⟩
  exact⟨fun h=>absurd h (yaw 0),fun h=>absurd h (yaw 0),fun h=>absurd h (yaw 0)⟩
 have Ho4:=hid ho4;obtain⟨b0,b1,b2,b3,b4,b5,b6,b7⟩:=aC kb3;have hs0:s0.l.length<=100000000:=by have:=T.le;dsimp only at this;omega
 clear T hP ho4 hbel3;have g0:IntKind.i64.wrap (kn:Int)=(kn:Int):=gG _ (by omega) (by omega);have g1:decide ((kn:Int)<1)=false:=yad (by omega);have g2:decide ((8:Int)<(kn:Int))=false:=yad (by omega);have HKN:=hid hkn;clear hkn;go_upto_region 7 with fail;have hst:OfSt B g ob W0 b kn 0 _ _ s0 _:=⟨by rw[Pe];exact Ho4.out,rfl,fun _=>⟨rfl,rfl,rfl⟩⟩
 clear Ho4;generalize W3.setCell _ _=W4 at *;generalize (⟨(kn:Int),⟨#[]⟩,⟨#[]⟩,none,0,0,none,0,0,none,0,0,0⟩:OV)=v at *;generalize (⟨[],[],[]⟩:OC)=c at *;generalize s0=s at *;clear b0 b1 b2 b3 b4 b5 b6 b7 kb3 g0 g1 g2;go_upto_if 27 with fail;have hkk:=HKN.out;go_cut [] from 10 (fun wk=>∃v c s,OfSt B g ob W0 b kn 1 v c s wk)
 case first=>
  obtain⟨ho,hk,hnil⟩:=hst;by_cases hc:kn<=6
  ·have f0:decide ((kn:Int)<=6)=true:=by simp;omega
   obtain⟨more,hf,hx,e5⟩:∃more,fieldsOf (kn:Int)=dC 0 kn++110::more/\110∉dC 0 kn/\dC 1 kn=dC 0 kn++[110]:=by rcases (by omega:kn=1\/kn=2\/kn=3\/kn=4\/kn=5\/kn=6) with rfl|rfl|rfl|rfl|rfl|rfl<;>exact⟨_,rfl,by decide,rfl⟩
   replace hf:=(congrArg fieldsOf hk).trans hf;clear hc hkk;rw[f0];obtain⟨b0,b1,b2,b3,b4,b5,b6,b7⟩:=aC ho.box;go_wp2_with fail;have T:=bC s 2 (by decide);have hsl:s.l.length<=100000000:=by have:=ho.part.le;omega
   clear b0 b1 b2 b3 b4 b5 b6 b7;refine (ni B g s 2 _ ho.rd hsl).mono ?_;generalize s.bytes 2=y at *;rintro e W5 ⟨rfl,hr5,hg5⟩;obtain⟨a5,t5⟩:=ho.kept hg5;obtain⟨y,s⟩:=y;dsimp only at T hr5;have hN:=ho.next (v':=v.setName ⟨y.toArray⟩) (c':=c) (i:=1) (x:=.string ⟨y.toArray⟩) hg5 hr5 hg0 hob hgo hBo rfl ⟨a5.a,a5.b,a5.c,a5.la,a5.lb,a5.lc⟩ ⟨t5.a,t5.b,t5.c⟩ (ho.part.name T hf hx);have hb5:=ho.box.grown hg5 (fun e=>hgo (yaf e).symm);obtain⟨b0,b1,b2,b3,b4,b5,b6,b7⟩:=aC hb5;rw[<-e5] at hN;clear ho T hr5 hg5 a5 t5;go_wp2_with fail;go_meet
   case rel=>exact⟨_,_,_,hN,hk,fun _=>hnil (by decide)⟩
  have f0:decide ((kn:Int)<=6)=false:=by simp;omega
  have e:dC 1 kn=dC 0 kn:=by rcases (by omega:kn=7\/kn=8) with rfl|rfl<;>rfl
  clear hc hkk;rw[f0];go_wp2_with fail;go_meet
  case rel=>exact⟨v,c,s,OfSt.up ⟨ho,hk,hnil⟩ e (by decide)⟩
 obtain⟨v,c,s,hst⟩:=hcut;go_upto_if 32 with fail;have hkk:=HKN.out;go_cut [] from 10 (fun wk=>∃v c s,OfSt B g ob W0 b kn 2 v c s wk)
 case first=>
  obtain⟨ho,hk,hnil⟩:=hst;by_cases hc:kn=4
  ·have f0:((kn:Int)==4)=true:=by simp;omega
   obtain⟨more,hf,hx,e5⟩:∃more,fieldsOf (kn:Int)=dC 1 kn++116::more/\116∉dC 1 kn/\dC 2 kn=dC 1 kn++[116]:=by rcases (by omega:kn=4) with rfl<;>exact⟨_,rfl,by decide,rfl⟩
   replace hf:=(congrArg fieldsOf hk).trans hf;clear hc hkk;rw[f0];obtain⟨b0,b1,b2,b3,b4,b5,b6,b7⟩:=aC ho.box;go_wp2_with fail;have T:=bC s 3 (by decide);have hsl:s.l.length<=100000000:=by have:=ho.part.le;omega
   clear b0 b1 b2 b3 b4 b5 b6 b7;refine (ni B g s 3 _ ho.rd hsl).mono ?_;generalize s.bytes 3=y at *;rintro e W5 ⟨rfl,hr5,hg5⟩;obtain⟨a5,t5⟩:=ho.kept hg5;obtain⟨y,s⟩:=y;dsimp only at T hr5;have hN:=ho.next (v':=v.setTo ⟨y.toArray⟩) (c':=c) (i:=2) (x:=.string ⟨y.toArray⟩) hg5 hr5 hg0 hob hgo hBo rfl ⟨a5.a,a5.b,a5.c,a5.la,a5.lb,a5.lc⟩ ⟨t5.a,t5.b,t5.c⟩ (ho.part.to_ T hf hx);have hb5:=ho.box.grown hg5 (fun e=>hgo (yaf e).symm);obtain⟨b0,b1,b2,b3,b4,b5,b6,b7⟩:=aC hb5;rw[<-e5] at hN;clear ho T hr5 hg5 a5 t5;go_wp2_with fail;go_meet
   case rel=>exact⟨_,_,_,hN,hk,fun _=>hnil (by decide)⟩
  have f0:((kn:Int)==4)=false:=by simp;omega
  have e:dC 2 kn=dC 1 kn:=by rcases (by omega:kn=1\/kn=2\/kn=3\/kn=5\/kn=6\/kn=7\/kn=8) with rfl|rfl|rfl|rfl|rfl|rfl|rfl<;>rfl
  clear hc hkk;rw[f0];go_wp2_with fail;go_meet
  case rel=>exact⟨v,c,s,OfSt.up ⟨ho,hk,hnil⟩ e (by decide)⟩
 obtain⟨v,c,s,hst⟩:=hcut;go_upto_region 11 with fail;obtain⟨d1,hd1⟩:∃d,((kn:Int)==1)=d:=⟨_,rfl⟩
 obtain⟨d3,hd3⟩:∃d,((kn:Int)==3)=d:=⟨_,rfl⟩
 obtain⟨d5,hd5⟩:∃d,((kn:Int)==5)=d:=⟨_,rfl⟩
 go_cut [45] from 10 (fun x wk=>x=.bool (d1||d3||d5)/\OfSt B g ob W0 b kn 2 v c s wk)
 case first=>
  cases d1<;>cases d3<;>cases d5
  all_goals
   go_wp2_with fail;go_meet
   case rel=>exact⟨rfl,hst⟩
 obtain⟨rfl,hst⟩:=hcut;have hdd:(d1||d3||d5)=decide (kn=1\/kn=3\/kn=5):=by rw[<-hd1,<-hd3,<-hd5,ybk];simp;omega
 rw[hdd];clear hd1 hd3 hd5 hdd;go_upto_if 45 with fail;have hkk:=HKN.out;go_cut [] from 10 (fun wk=>∃v c s,OfSt B g ob W0 b kn 3 v c s wk)
 case first=>
  obtain⟨ho,hk,hnil⟩:=hst;by_cases hc:kn=1\/kn=3\/kn=5
  ·have f0:decide (kn=1\/kn=3\/kn=5)=true:=by simp;omega
   obtain⟨more,hf,hx,e5⟩:∃more,fieldsOf (kn:Int)=dC 2 kn++97::more/\97∉dC 2 kn/\dC 3 kn=dC 2 kn++[97]:=by rcases (by omega:kn=1\/kn=3\/kn=5) with rfl|rfl|rfl<;>exact⟨_,rfl,by decide,rfl⟩
   replace hf:=(congrArg fieldsOf hk).trans hf;clear hc hkk;rw[f0];obtain⟨b0,b1,b2,b3,b4,b5,b6,b7⟩:=aC ho.box;go_wp2_with fail;have hsl:s.l.length<=100000000:=by have:=ho.part.le;omega
   clear b0 b1 b2 b3 b4 b5 b6 b7;refine (sH B g s 4 _ (by decide) ho.rd hsl).mono ?_;rintro e W5 ⟨ao5,n5,cap5,xs5,s5,rfl,hrd5,hn5,hty5,hr5,hg5,T⟩;obtain⟨a5,t5⟩:=ho.kept hg5;have hN:=ho.next (v':=v.setAttrs ao5 n5 cap5) (c':=⟨xs5,c.parts,c.cursor⟩) (i:=3) (x:=.slice ao5 n5 cap5) hg5 hr5 hg0 hob hgo hBo rfl ⟨hrd5,a5.b,a5.c,(by show n5<=_;omega),a5.lb,a5.lc⟩ ⟨hty5,t5.b,t5.c⟩ (ho.part.attrs T hf hx);have hb5:=ho.box.grown hg5 (fun e=>hgo (yaf e).symm);obtain⟨b0,b1,b2,b3,b4,b5,b6,b7⟩:=aC hb5;rw[<-e5] at hN;clear ho T hr5 hg5 a5 t5;go_wp2_with fail;go_meet
   case rel=>exact⟨_,_,_,hN,hk,fun _=>hnil (by decide)⟩
  have f0:decide (kn=1\/kn=3\/kn=5)=false:=by simp;omega
  have e:dC 3 kn=dC 2 kn:=by rcases (by omega:kn=2\/kn=4\/kn=6\/kn=7\/kn=8) with rfl|rfl|rfl|rfl|rfl<;>rfl
  clear hc hkk;rw[f0];go_wp2_with fail;go_meet
  case rel=>exact⟨v,c,s,OfSt.up ⟨ho,hk,hnil⟩ e (by decide)⟩
 obtain⟨v,c,s,hst⟩:=hcut;go_upto_if 50 with fail;have hkk:=HKN.out;go_cut [] from 10 (fun wk=>∃v c s,OfSt B g ob W0 b kn 4 v c s wk)
 case first=>
  obtain⟨ho,hk,hnil⟩:=hst;by_cases hc:kn=7
  ·have f0:((kn:Int)==7)=true:=by simp;omega
   obtain⟨more,hf,hx,e5⟩:∃more,fieldsOf (kn:Int)=dC 3 kn++112::more/\112∉dC 3 kn/\dC 4 kn=dC 3 kn++[112]:=by rcases (by omega:kn=7) with rfl<;>exact⟨_,rfl,by decide,rfl⟩
   replace hf:=(congrArg fieldsOf hk).trans hf;clear hc hkk;rw[f0];have hnil:=hnil (by decide);obtain⟨b0,b1,b2,b3,b4,b5,b6,b7⟩:=aC ho.box;go_wp2_with fail;have hsl:s.l.length<=100000000:=by have:=ho.part.le;omega
   clear b0 b1 b2 b3 b4 b5 b6 b7;refine (oM B g s 5 1 _ (by decide) (by decide) ho.rd hsl).mono ?_;rintro e W5 ⟨ao5,cap5,els,s5,rfl,hrd5,hall5,hfr5,hn5,hel5,hr5,hg5,T⟩;obtain⟨a5,t5⟩:=ho.kept hg5;have hb5:=ho.box.grown hg5 (fun e=>hgo (yaf e).symm);have hbel5:=ho.bel.trans (below_of_grown hg5 hg0 ho.rd.lt);rw[BJ hnil.1 hnil.2.1 hnil.2.2] at hb5;have hop5:=ho.part;have hbs:=lA hb5;have hobx:∀k∈[ob],∃o,W5.heap[k]?=some o/\∀(c:Array Value) (t:TypeId) (fr:Nat×Nat),(t=5\/t=9\/t=106)->o≠.cells c t fr:=fun k hk=>by
    rw[yah.1 hk];refine⟨_,hb5,fun c t fr ht e=>?_⟩;cases e;rcases ht with h | h | h<;>exact absurd h (by decide)
   have hobx8:∀k∈[ob],∃o,W5.heap[k]?=some o/\∀c fr,o≠.cells c 5 fr:=fun k hk=>by
    obtain⟨o,h1,h2⟩:=hobx k hk;exact⟨o,h1,fun c fr=>h2 c _ fr (.inl rfl)⟩
   have ho0:W5.ownsRow W5.heap.size 9 1 (.slice none 0 0) 0 (txV []):=yaC _ _ _ _;have hobW:=lA ho.box;clear ho hg5;go_wp2_with fail;go_loopw [8] (fun p wr=>∃(k:Nat) (l:List ByteArray) (a:Option Addr) (q:Nat),k<=els.length/\p=.int .i64 (k:Int)/\InO ob (v.parts a k q) wr/\wr.ownsRow W5.heap.size 9 1 (.slice a k q) k (txV l)/\BelX W5.heap.size [ob] W5 wr/\Hid (l.length=k/\l.map (fun y=>y.data.toList)=(els.map fun x=>x.it.2).take k)) (fun p _=>els.length-(intOf p).toNat)
   case atStart=>exact⟨0,[],none,0,yam _,rfl,hb5,ho0,BelX.refl _ _ _,hid ⟨rfl,rfl⟩⟩
   case round=>
    obtain⟨k,l,a,q,hk5,rfl,hbx,own,hX,Hl⟩:=hrel;have hK:KeepB B W5 wr:=⟨KeepR.of_belX hX hobx,fun k h1 h2=>hX.block k h2 (by simp only[yah];omega)⟩
    by_cases hkn:k<els.length
    ·obtain⟨b1,o1,rfl,hl1,hc1⟩:=hrd5.some (by have:=hrd5.le;omega);obtain⟨u,hue⟩:∃u,els[k]?=some u:=⟨_,yac hkn⟩
     have hum:=yan hue;obtain⟨hu1,hu2⟩:=hall5 u hum;have hb1o:b1≠ob:=by have:=hfr5 _ rfl;dsimp only at this;omega
     have c1:wr.cell? ⟨b1,o1+k,none⟩=some (.slice u.ao u.it.2.length u.cap):=(yaK (a:=⟨b1,o1+k,none⟩) (hX.block b1 hl1 (by simpa using hb1o))).trans (hc1 k _ (sO els k u hue));have hu3:Rd wr 1 u.ao u.it.2.length u.cap (byV u.it.2):=ji hu1 hu2 hK;have hu4:TyB B wr u.ao u.cap:=TyB.kpb hu2 hK;obtain⟨V,hV⟩:∃V:OV,v.parts a k q=V:=⟨_,rfl⟩
     have hVn:V.bn=k:=by rw[<-hV];rfl
     have HV:=hid hV;rw[hV] at hbx;have own1:wr.ownsRow W5.heap.size 9 1 (.slice V.bo V.bn V.bc) V.bn (txV l):=by rw[<-hV];exact own
     have HVn:=hid hVn;have Hue:=hid hue;have i0:(0:Int)<=(k:Int):=by omega
     have i1:(k:Int)<(els.length:Int):=by omega
     have hd:Below wr.heap.size wr wr.drew:=(yaj _ _).drew;have hpa:PaAt ob V b1 (o1+k) u wr:=⟨hbx,c1,hu3⟩
     have s0:=hpa.step hd;have x0:=ag own1 hd;have X0:BelX W5.heap.size [ob] W5 wr.drew:=hX.trans ((BelX.of_below hd [ob]).mono hX.size (fun _ hk _=>hk));have z0:=X0.size;have hlo:0<u.cap->∀a,u.ao=some a->a.block<W5.heap.size:=hu2.lt (yae hBo (yaZ hbs));clear hue hum hu1 hu2 hu3 hu4 c1 hc1 hV hVn own own1 hd hpa hbx hX hK;go_upto_region 18 with fail;refine dN (k:=10) (S:=PaAt ob V b1 (o1+k) u) hmo ?_;change bV _ _ _ _ _ _ _ _ _ (World.drew wr);generalize World.drew wr=Wd at *;have zf0:=fun (w0:World) (h:PaAt ob V b1 (o1+k) u w0)=>aC h.box;have zf1:=fun (w0:World) (h:PaAt ob V b1 (o1+k) u w0)=>h.cell;have zf2:=fun (w0:World) (h:PaAt ob V b1 (o1+k) u w0)=>jc u.ao _ u.cap _ w0 h.rd;refine ztp 0 (pp ob 4) rfl ?_;go_simp;refine ztv 1 (.slice V.bo V.bn V.bc) rfl ?_;go_simp;refine ztp 2 (.slice (some ⟨b1,o1,none⟩) els.length cap5) rfl (ztp 3 (.int .i64 (k:Int)) rfl ?_);go_simp;refine ztv 4 (.pointer (some ⟨b1,o1+k,none⟩)) rfl ?_;go_simp;refine ztv 5 (.slice u.ao u.it.2.length u.cap) rfl ?_;go_simp;refine ztv 6 (.string ⟨u.it.2.toArray⟩) rfl ?_;go_simp;refine zT1 7 rfl (fun K hK=>?_);go_simp;generalize hg:Wd.alloc _=W6;have hb2:=bE hg
     have r2:Rd W6 1 (some ⟨Wd.heap.size,0,none⟩) 1 1 [.string ⟨u.it.2.toArray⟩]:=by rw[<-hg];exact Rd.new Wd [.string ⟨u.it.2.toArray⟩] 9 (0,0) 1 1 rfl (by unfold maxLen;omega)
     have s2:=s0.step hb2;have x2:=ag x0 hb2;have X2:BelX W5.heap.size [ob] W5 W6:=X0.trans ((BelX.of_below hb2 [ob]).mono z0 (fun _ hk _=>hk));have z2:=X2.size;clear hg;go_simp;refine hK _ _ ⟨.inr s2,?_⟩;clear hK K;refine zT1 8 rfl (fun K hK=>?_);refine di rfl (.tmp 60) (.tmp 66) 33 rfl W5.heap.size 9 (.string ⟨#[]⟩) 1 16 uC (.slice V.bo V.bn V.bc) V.bn (txV l) rfl x2 (some ⟨Wd.heap.size,0,none⟩) 1 1 [.string ⟨u.it.2.toArray⟩] rfl r2 (one1 _ rfl) (by have:=HVn.out;unfold maxLen;omega) (by have:=HVn.out;omega) z2 ?_;intro a3 k3 W7 x3 hg3 hb3 _;have s3:PaAt ob V b1 (o1+k) u W7:=s2.low hb3 hbs hl1 hlo;have X3:BelX W5.heap.size [ob] W5 W7:=X2.trans (BelX.of_below hb3 [ob]);refine hK _ _ ⟨.inr s3,?_⟩;clear hK K;refine ztp 9 (pp ob 4) rfl ?_;go_simp;refine nM (by kernel_rfl) (by kernel_rfl) ?_;refine zA1 10 rfl (fun K hK=>?_);go_simp;obtain⟨c0,c1,c2,c3,c4,c5,c6,c7⟩:=aC s3.box;go_simp;refine hK _ _ ?_;clear hK K;refine yby (by kernel_rfl) ?_ _;have hB:InO ob (V.parts a3 (V.bn+1) k3) (W7.setCell ⟨ob,4,none⟩ (.slice a3 (V.bn+1) k3)):=at_set s3.box;have hX9:BelX W5.heap.size [ob] W5 (W7.setCell ⟨ob,4,none⟩ (.slice a3 (V.bn+1) k3)):=X3.set _ _ _ (.inl (by simp));have hO:(W7.setCell ⟨ob,4,none⟩ (.slice a3 (V.bn+1) k3)).ownsRow W5.heap.size 9 1 (.slice a3 (V.bn+1) k3) (V.bn+1) (txV (l++[⟨u.it.2.toArray⟩])):=by
      rw[Ep];exact dw x3 (fun k hk=>yaA _ _ _ _ (by have:=(aU x3 hk).1;show k≠ob;omega))
     rw[HVn.out] at hB hO;have hBv:InO ob (v.parts a3 (k+1) k3) (W7.setCell ⟨ob,4,none⟩ (.slice a3 (V.bn+1) k3)):=by
      have e:V.parts a3 (k+1) k3=v.parts a3 (k+1) k3:=by rw[<-HV.out];rfl
      rw[<-e];rw[HVn.out];exact hB
     have hO2:(W7.setCell ⟨ob,4,none⟩ (.slice a3 (V.bn+1) k3)).ownsRow W5.heap.size 9 1 (.slice a3 (k+1) k3) (k+1) (txV (l++[⟨u.it.2.toArray⟩])):=by
      rw[HVn.out];exact hO
     clear s0 s2 s3 x0 x2 x3 X0 X2 X3 z0 z2 hb2 r2 hg3 hb3 hB hO;generalize W7.setCell _ _=W8 at *;go_wp2_with fail;go_roundw
     case rel=>
      refine⟨k+1,l++[⟨u.it.2.toArray⟩],a3,k3,by omega,by go_num,hBv,hO2,hX9,hid ⟨by rw[yab,Hl.out.1];rfl,?_⟩⟩;rw[yaE,List.map_append,Hl.out.2,ybh,Hue.out];rfl
     case measure=>simp[intOf];omega
    obtain rfl:k=els.length:=by omega
    obtain⟨hl1,hl2⟩:=Hl.out;rw[yak (by rw[ybl];omega)] at hl2;have T2:=Il T l hl2;have a6:=a5.kpb t5 hK;have t6:=t5.kpb hK;have hr6:=Rd.of_own_slice own;have hN:OfGo B g ob W0 b (v.parts a els.length q) ⟨c.attrs,l,c.cursor⟩ (dC 3 kn++[112]) s5 wr:=
     ⟨⟨hX.os.trans hbel5.os,hX.tape.trans hbel5.tape,hX.output.trans hbel5.output,yae hbel5.size hX.size,fun k hk=>(hX.block k (yaz hk hbel5.size) (by simp only[yas,yal,or_false];omega)).trans (hbel5.block k hk)⟩,hbx,hr5.belX hX (by simpa using hgo) (fun k hk=>by rw[yah.1 hk];exact hBo) hobx8,⟨a6.a,hr6,a6.c,a6.la,(by show els.length<=_;omega),a6.lc⟩,⟨t6.a,TyX.of_own own,t6.c⟩,hop5.parts T2 hf hx⟩
    have hk6:(v.parts a els.length q).k=(kn:Int):=hk;rw[<-e5] at hN;clear hbx own hX hK Hl T T2 a6 t6 hr6 hop5 hr5 hbel5 a5 t5 hb5 hl2 hall5 hrd5 hobx hobx8 ho0;go_wp2_with fail;go_meet
    case rel=>exact⟨_,_,_,hN,hk6,fun h=>absurd h (by decide)⟩
  have f0:((kn:Int)==7)=false:=by simp;omega
  have e:dC 4 kn=dC 3 kn:=by rcases (by omega:kn=1\/kn=2\/kn=3\/kn=4\/kn=5\/kn=6\/kn=8) with rfl|rfl|rfl|rfl|rfl|rfl|rfl<;>rfl
  clear hc hkk;rw[f0];go_wp2_with fail;go_meet
  case rel=>exact⟨v,c,s,OfSt.up ⟨ho,hk,hnil⟩ e (by decide)⟩
 obtain⟨v,c,s,hst⟩:=hcut;go_upto_if 70 with fail;have hkk:=HKN.out;go_cut [] from 10 (fun wk=>∃v c s,OfSt B g ob W0 b kn 6 v c s wk)
 case first=>
  obtain⟨ho,hk,hnil⟩:=hst;by_cases hc:7<=kn
  ·have f0:decide ((7:Int)<=(kn:Int))=true:=by simp;omega
   obtain⟨more,hf,hx,e5⟩:∃more,fieldsOf (kn:Int)=dC 4 kn++99::more/\99∉dC 4 kn/\dC 5 kn=dC 4 kn++[99]:=by rcases (by omega:kn=7\/kn=8) with rfl|rfl<;>exact⟨_,rfl,by decide,rfl⟩
   obtain⟨more7,hf7,hx7,e6⟩:∃more,fieldsOf (kn:Int)=dC 5 kn++107::more/\107∉dC 5 kn/\dC 6 kn=dC 5 kn++[107]:=by rcases (by omega:kn=7\/kn=8) with rfl|rfl<;>exact⟨_,rfl,by decide,rfl⟩
   replace hf:=(congrArg fieldsOf hk).trans hf;clear hc hkk;rw[f0];obtain⟨b0,b1,b2,b3,b4,b5,b6,b7⟩:=aC ho.box;go_wp2_with fail;have T:=bC s 6 (by decide);have hyl:=fU s 6;have hsl:s.l.length<=100000000:=by have:=ho.part.le;omega
   clear b0 b1 b2 b3 b4 b5 b6 b7;refine (gB B g s 6 _ ho.rd hsl).mono ?_;unfold gJ;generalize s.bytes 6=y at *;rintro e W5 ⟨hr5,hg5,ao5,cap5,rfl,hrd5,hty5⟩;obtain⟨a5,t5⟩:=ho.kept hg5;obtain⟨y,s⟩:=y;dsimp only at T hr5 hrd5 hyl;have hN:=ho.next (v':=v.setCur ao5 y.length cap5) (c':=⟨c.attrs,c.parts,y⟩) (i:=5) (x:=.slice ao5 y.length cap5) hg5 hr5 hg0 hob hgo hBo rfl ⟨a5.a,a5.b,hrd5,a5.la,a5.lb,(by show y.length<=_;omega)⟩ ⟨t5.a,t5.b,hty5⟩ (ho.part.cur T hf hx);have hb5:=ho.box.grown hg5 (fun e=>hgo (yaf e).symm);obtain⟨b0,b1,b2,b3,b4,b5,b6,b7⟩:=aC hb5;clear ho T hr5 hg5 a5 t5;go_upto_region 21 with fail;generalize W5.setCell _ _=W6 at *;clear b0 b1 b2 b3 b4 b5 b6 b7 hb5;have hk2:(v.setCur ao5 y.length cap5).k=(kn:Int):=hk;rw[<-e5] at hN;generalize v.setCur ao5 y.length cap5=v at *;generalize (⟨c.attrs,c.parts,y⟩:OC)=c at *;have ho:=hN;replace hf7:=(congrArg fieldsOf hk2).trans hf7;obtain⟨b0,b1,b2,b3,b4,b5,b6,b7⟩:=aC ho.box;go_wp2_with fail;have T:=mG s 7 1000 (by decide) (by decide);have hle:=nT s 7 1000;have hsl:s.l.length<=100000000:=by have:=ho.part.le;omega
   clear b0 b1 b2 b3 b4 b5 b6 b7;refine (jQ B g s 7 _ ho.rd hsl).mono ?_;unfold RS.numM at T hle;generalize s.num 7=y at *;rintro e W5 ⟨rfl,hr5,hg5⟩;obtain⟨a5,t5⟩:=ho.kept hg5;obtain⟨y,s2⟩:=y;dsimp only at T hr5 hle;by_cases h1000:1000<y
   ·rw[if_pos h1000] at T hle;have hP:=ho.part.num T (by omega) hf7 hx7;have Hno:=hid (hP.no rfl);have g0:decide ((1000:Int)<(y:Int))=true:=yaa (by omega);obtain⟨h1,f1,f2⟩:=hfin W5 (ho.bel.trans (below_of_grown hg5 hg0 ho.rd.lt)) zeroV.cells;clear ho T hr5 hg5 a5 t5 hP hle h1000;go_wp2_with (refine zSr rfl h1 ?_;go_simp;(repeat go_step);exact yay (w:=W5.setRow w.heap.size zeroV.cells) (aj (i:=2) (j:=3) (t:=36) rfl rfl rfl (by kernel_rfl) (by kernel_rfl) f1) rfl ⟨f2,.inr ⟨rfl,Hno.out⟩⟩)
   rw[if_neg h1000] at T hle;dsimp only at T hle;have g0:decide ((1000:Int)<(y:Int))=false:=yad (by omega);have g1:IntKind.i64.wrap (y:Int)=(y:Int):=gG _ (by omega) (by omega);have hN:=ho.next (v':=v.setN (y:Int)) (c':=c) (i:=6) (x:=.int .i64 (y:Int)) hg5 hr5 hg0 hob hgo hBo rfl ⟨a5.a,a5.b,a5.c,a5.la,a5.lb,a5.lc⟩ ⟨t5.a,t5.b,t5.c⟩ (ho.part.num T hle hf7 hx7);have hb5:=ho.box.grown hg5 (fun e=>hgo (yaf e).symm);obtain⟨b0,b1,b2,b3,b4,b5,b6,b7⟩:=aC hb5;rw[<-e6] at hN;clear ho T hr5 hg5 a5 t5 h1000;go_wp2_with fail;go_meet
   case rel=>exact⟨_,_,_,hN,hk2,fun h=>absurd h (by decide)⟩
  have f0:decide ((7:Int)<=(kn:Int))=false:=by simp;omega
  have e:dC 6 kn=dC 4 kn:=by rcases (by omega:kn=1\/kn=2\/kn=3\/kn=4\/kn=5\/kn=6) with rfl|rfl|rfl|rfl|rfl|rfl<;>rfl
  clear hc hkk;rw[f0];go_wp2_with fail;go_meet
  case rel=>exact⟨v,c,s,OfSt.up ⟨ho,hk,hnil⟩ e (by decide)⟩
 obtain⟨v,c,s,hst⟩:=hcut;obtain⟨ho,hk,-⟩:=hst;have e6:dC 6 kn=fieldsOf v.k:=by rw[hk];have:=HKN.out;rcases (by omega:kn=1\/kn=2\/kn=3\/kn=4\/kn=5\/kn=6\/kn=7\/kn=8) with rfl|rfl|rfl|rfl|rfl|rfl|rfl|rfl<;>rfl
 rw[e6] at ho;generalize wc=W6 at *;obtain⟨b0,b1,b2,b3,b4,b5,b6,b7⟩:=aC ho.box;go_wp2_with fail;have hP:=ho.part;have hbox:=ho.box;refine (kZ B g s W6 ho.rd).mono ?_;rintro e w5 ⟨rfl,rfl⟩;clear b0 b1 b2 b3 b4 b5 b6 b7 hk;by_cases he:s.bad=false/\s.l=[]
 ·have f0:decide (s.bad=false/\s.l=[])=true:=yaa he;have hmay:=jq v c W6 ho.at_;have HE:=hid he;clear he;unfold OV.val at hmay;go_wp2_with (refine zLr rfl hbox ?_;go_simp);refine hmay.mono ?_;rintro e w6 ⟨rfl,hb6⟩;have ho6:=ho.later hb6;have hbox6:=ho6.box;obtain⟨h1,fz1,fz2⟩:=hfin w6 ho6.bel zeroV.cells;obtain⟨_,fv1,fv2⟩:=hfin w6 ho6.bel v.cells;have hkr:KeepB B w6 (w6.setRow w.heap.size v.cells):=by
   refine⟨⟨(below_setRow (yaj w.heap.size w6) (yag _) v.cells).size,fun k c t fr ht hk=>?_⟩,fun k h2 _=>yba w6 w.heap.size k v.cells (by omega)⟩;have hne:k≠w.heap.size:=fun e=>by
    subst e;rw[h1] at hk;cases hk;rcases ht with h | h | h<;>exact absurd h (by decide)
   exact (yba w6 w.heap.size k v.cells hne).trans hk
  have ha6:=ho6.at_.kpb ho6.ty hkr;have ht6:=ho6.ty.kpb hkr;cases hm:aA v c with
  | false=>
   have Hno:=hid (hP.notMay HE.out.1 HE.out.2 ho.at_ hm);clear hkr ha6 ht6 hP;go_wp2_with (refine zSr rfl h1 ?_;go_simp;(repeat go_step);exact yay (w:=w6.setRow w.heap.size zeroV.cells) (aj (i:=2) (j:=3) (t:=36) rfl rfl rfl (by kernel_rfl) (by kernel_rfl) fz1) rfl ⟨fz2,.inr ⟨rfl,Hno.out⟩⟩)
  | true=>
   have Hyes:=hid (hP.done HE.out.1 HE.out.2);clear hkr hP;go_wp2_with (first | (refine zLr rfl hbox6 ?_;go_simp) | (refine zSr rfl h1 ?_;go_simp;(repeat go_step);exact yay (w:=w6.setRow w.heap.size v.cells) (aj (i:=2) (j:=3) (t:=36) rfl rfl rfl (by kernel_rfl) (by kernel_rfl) fv1) rfl ⟨fv2,.inl ⟨v,c,rfl,ha6,ht6,hm,Hyes.out⟩⟩))
 have f0:decide (s.bad=false/\s.l=[])=false:=yad he;have Hno:=hid (hP.left (by
  cases hb:s.bad with
  | true=>exact .inl rfl
  | false=>exact .inr (ycj.2 (fun h=>he ⟨hb,h⟩))))
 obtain⟨h1,fz1,fz2⟩:=hfin W6 ho.bel zeroV.cells;clear he hP;go_wp2_with (refine zSr rfl h1 ?_;go_simp;(repeat go_step);exact yay (w:=W6.setRow w.heap.size zeroV.cells) (aj (i:=2) (j:=3) (t:=36) rfl rfl rfl (by kernel_rfl) (by kernel_rfl) fz1) rfl ⟨fz2,.inr ⟨rfl,Hno.out⟩⟩)
theorem I9(B:Nat)(b:List UInt8)(ao:Option Addr)(n cap:Nat)(w:World)(hr:Rd w 1 ao n cap (byV b))(hB:B<=w.heap.size)(hty:TyB B w ao cap)(hn:n<=100000000) :
  Calls Tryz.prog 133 #[.slice ao n cap] w (wZ (.bool true) (.bool false) b w):=by
 have hbn:b.length=n:=by have:=hr.1;rw[aV] at this;omega
 have hb0:=bN w zeroE.box;have k0:=aN w zeroE.box
 have hz0:(w.alloc zeroE.box).heap.size=w.heap.size+1:=by simp
 have hr0:=hr.later hb0;have ht0:=hty.later hb0;unfold zeroE EV.box EV.cells at hb0 k0 hz0 hr0 ht0;dsimp only at hb0 k0 hz0 hr0 ht0;clear hr hty;go_in;go_upto_region 1 with fail;generalize hg:w.alloc _=W0 at *;have k0f:W0.heap[w.heap.size]?=some zeroE.box:=k0;clear hg k0;subst hbn;have hBW0:B<=W0.heap.size:=yae hB hb0.size;have hR:=oz hr0 hBW0 ht0;have hbR:=bN W0 (.cells #[.slice ao b.length cap,.bool false] 119);go_upto_region 2 with fail;generalize hg:W0.alloc _=W1 at *;have hz1:W1.heap.size=W0.heap.size+1:=by rw[<-hg];simp
 clear hg;go_upto_region 3 with (refine zNr rfl ?_;go_simp);generalize hg:W1.alloc _=W2;have e2:W1.alloc zeroE.box=W2:=hg;have hb2:=bE e2
 have kb:W2.heap[W1.heap.size]?=some zeroE.box:=aE e2
 have hR2:=hR.later hb2;have hbel2:Below W0.heap.size W0 W2:=hbR.trans (hb2.mono (by omega));clear hg e2 hb2 hR hbR hr0 ht0;rw[hz0] at hR2;rw[hz1,hz0] at kb;clear hz1;have T1:=bC ⟨b,false⟩ 1 (by decide);generalize hgq:w.heap.size+1=g at *;generalize hobq:g+1=ob at *;have hg0:W0.heap.size<=g:=by omega
 have hob:W0.heap.size<=ob:=by omega
 have hgo:g≠ob:=by omega
 have hrw:w.heap.size<W0.heap.size:=by omega
 clear hgq hobq;have hBo:B<=ob:=yae hBW0 hob;have htx:=ni B g ⟨b,false⟩ 1 W2 hR2 (by dsimp only;omega);generalize RS.bytes ⟨b,false⟩ 1=nm at *;obtain⟨y,s1⟩:=nm;dsimp only at T1 htx;go_wp2_with fail;refine htx.mono ?_;rintro e W3 ⟨rfl,hR3,hg3⟩;have hb3:Below W0.heap.size W0 W3:=hbel2.trans (below_of_grown hg3 hg0 hR2.lt);have q3:W3.heap[ob]?=some zeroE.box:=(hg3.block _ (lA kb) (fun e=>hgo (yaf e).symm)).trans kb;clear htx hbel2 kb hR2 hg3;obtain⟨d0,d1,d2⟩:=fA q3;unfold zeroE at d0 d1;dsimp only at d0 d1;go_upto_region 4 with fail;have q4:(W3.setCell ⟨ob,0,none⟩ (.string ⟨y.toArray⟩)).heap[ob]?=some (EV.box ⟨⟨y.toArray⟩,none,0,0⟩):=(at_set q3).trans (by kernel_rfl);have hR4:RfS B g s1 (W3.setCell ⟨ob,0,none⟩ (.string ⟨y.toArray⟩)):=hR3.grown (ak _ _ _ _) q3 (fun c fr h=>by cases h) hgo hBo;have hb4:=hb3.setCell (p:=⟨ob,0,none⟩) hob (.string ⟨y.toArray⟩);generalize W3.setCell _ _=W4 at *;clear d0 d1 d2 q3 hR3 hb3;have l1:=T1.le;dsimp only at l1;go_wp2_with fail;refine (sH B g s1 2 W4 (by decide) hR4 (by omega)).mono ?_;rintro e W5 ⟨a5,n5,c5,xs,s2,rfl,hrd5,hn5,hty5,hR5,hg5,T2'⟩;have T2:=kJ T2' (may':=fun ys=>bI ys=true/\(aI ys).length<=4194304) (good':=fun ys=>(aI ys).length<=4194304) (fun z h=>⟨vN h.1,h.2⟩) (fun _ h=>h);have hb5:Below W0.heap.size W0 W5:=hb4.trans (below_of_grown hg5 hg0 hR4.lt);have q5:W5.heap[ob]?=some (EV.box ⟨⟨y.toArray⟩,none,0,0⟩):=(hg5.block _ (lA q4) (fun e=>hgo (yaf e).symm)).trans q4;clear T2' hb4 q4 hR4 hg5;obtain⟨d0,d1,d2⟩:=fA q5;dsimp only at d0 d1;go_upto_region 5 with fail;have q6:(W5.setCell ⟨ob,1,none⟩ (.slice a5 n5 c5)).heap[ob]?=some (EV.box ⟨⟨y.toArray⟩,a5,n5,c5⟩):=(at_set q5).trans (by kernel_rfl);have hR6:RfS B g s2 (W5.setCell ⟨ob,1,none⟩ (.slice a5 n5 c5)):=hR5.grown (ak _ _ _ _) q5 (fun c fr h=>by cases h) hgo hBo;have hb6:=hb5.setCell (p:=⟨ob,1,none⟩) hob (.slice a5 n5 c5);have hk6:KeepR W5 (W5.setCell ⟨ob,1,none⟩ (.slice a5 n5 c5)):=zT q5 (yaR (ybv _ _ _).symm) (fun k hk=>yaA _ _ _ _ hk);have hE:EAt (W5.setCell ⟨ob,1,none⟩ (.slice a5 n5 c5)) ⟨⟨y.toArray⟩,a5,n5,c5⟩ xs:=⟨kW (.inr (.inr rfl)) hrd5 hty5 hk6,by dsimp only;omega⟩
 have hT:TyX 106 (W5.setCell ⟨ob,1,none⟩ (.slice a5 n5 c5)) a5 c5:=hty5.kpr (.inr (.inr rfl)) hk6;generalize W5.setCell _ _=W6 at *;clear d0 d1 d2 q5 hR5 hb5 hk6 hrd5 hty5;have hrz:W6.heap[w.heap.size]?=some zeroE.box:=(hb6.block _ (by omega)).trans k0f;have hbel:=hb0.trans (hb6.mono (by omega));go_wp2_with fail;refine (kZ B g s2 W6 hR6).mono ?_;rintro e w9 ⟨rfl,rfl⟩;by_cases he:s2.bad=false/\s2.l=[]
 ·have f0:decide (s2.bad=false/\s2.l=[])=true:=yaa he;have hdone:=CO T1 T2 (v0:=⟨⟨y.toArray⟩,a5,n5,c5⟩) rfl he.1 he.2;have HD:=hid hdone;have hme:=uX ⟨⟨y.toArray⟩,a5,n5,c5⟩ xs W6 hE;have HN:aB ⟨⟨y.toArray⟩,a5,n5,c5⟩ xs=false->uA b:=fun h=>ug T1 T2 (v0:=⟨⟨y.toArray⟩,a5,n5,c5⟩) rfl (.inr h);have HNo:=hid HN;clear hdone he HN T1 T2;unfold EV.val EV.cells at hme;go_wp2_with (refine zLr rfl q6 ?_;go_simp);refine hme.mono ?_;rintro e W7 ⟨rfl,hb7⟩;have hrz7:=hb7.q hrz;have q7:=hb7.q q6;have hbel7:=hbel.trans (hb7.mono hbel.size);have hE7:=hE.later hb7;have hT7:TyX 106 W7 a5 c5:=hT.kpr (.inr (.inr rfl)) (KeepR.of_below hb7);clear hme hE hT hrz q6 hbel hb7;cases hm:aB ⟨⟨y.toArray⟩,a5,n5,c5⟩ xs with
  | false=>
   have hno:=HNo.out hm;have f1:(W7.setRow w.heap.size zeroE.cells).heap[w.heap.size]?=some (.cells zeroE.cells 124):=aO hrz7;have f2:=below_setRow hbel7 (yag _) zeroE.cells;clear hm;go_wp2_with (refine zSr rfl hrz7 ?_;go_simp);exact yay (w:=W7.setRow w.heap.size zeroE.cells) (aj (i:=2) (j:=3) (t:=124) rfl rfl rfl (by kernel_rfl) (by kernel_rfl) f1) rfl ⟨f2,.inr ⟨rfl,hno⟩⟩
  | true=>
   have HM:=hid hm;have f1:(W7.setRow w.heap.size (EV.cells ⟨⟨y.toArray⟩,a5,n5,c5⟩)).heap[w.heap.size]?=some (.cells (EV.cells ⟨⟨y.toArray⟩,a5,n5,c5⟩) 124):=aO hrz7;have f2:=below_setRow hbel7 (yag _) (EV.cells ⟨⟨y.toArray⟩,a5,n5,c5⟩);have hkr:=zT hrz7 (below_setRow (yaj w.heap.size W7) (yag _) (EV.cells ⟨⟨y.toArray⟩,a5,n5,c5⟩)).size (fun k hk=>yba W7 w.heap.size k (EV.cells ⟨⟨y.toArray⟩,a5,n5,c5⟩) hk);have hEF:EAt (W7.setRow w.heap.size (EV.cells ⟨⟨y.toArray⟩,a5,n5,c5⟩)) ⟨⟨y.toArray⟩,a5,n5,c5⟩ xs:=⟨kW (.inr (.inr rfl)) hE7.a hT7 hkr,hE7.la⟩
   have hTF:TyX 106 (W7.setRow w.heap.size (EV.cells ⟨⟨y.toArray⟩,a5,n5,c5⟩)) a5 c5:=hT7.kpr (.inr (.inr rfl)) hkr;clear hm;go_wp2_with (first | (refine zLr rfl q7 ?_;go_simp) | (refine zSr rfl hrz7 ?_;go_simp));exact yay (w:=W7.setRow w.heap.size (EV.cells ⟨⟨y.toArray⟩,a5,n5,c5⟩)) (aj (i:=2) (j:=3) (t:=124) rfl rfl rfl (by kernel_rfl) (by kernel_rfl) f1) rfl ⟨f2,.inl ⟨_,xs,rfl,hEF,hTF,HM.out,HD.out⟩⟩
 have f0:decide (s2.bad=false/\s2.l=[])=false:=yad he;have hno:=ug T1 T2 (v0:=⟨⟨y.toArray⟩,a5,n5,c5⟩) rfl (.inl (by
  cases hb:s2.bad with
  | true=>exact .inl rfl
  | false=>exact .inr (ycj.2 (fun h=>he ⟨hb,h⟩))))
 have f1:(W6.setRow w.heap.size zeroE.cells).heap[w.heap.size]?=some (.cells zeroE.cells 124):=aO hrz;have f2:=below_setRow hbel (yag _) zeroE.cells;clear he;go_wp2_with (refine zSr rfl hrz ?_;go_simp);exact yay (w:=W6.setRow w.heap.size zeroE.cells) (aj (i:=2) (j:=3) (t:=124) rfl rfl rfl (by kernel_rfl) (by kernel_rfl) f1) rfl ⟨f2,.inr ⟨rfl,hno⟩⟩
end Msg
namespace Tlv
open Go.RowKit Mem
theorem IC (s:RS)(t:UInt8):s.flag t=if (s.bytes t).2.bad=true\/¬((s.bytes t).1.length=1/\((s.bytes t).1[0]?.getD 0).toNat<=1) then (false,⟨(s.bytes t).2.l,true⟩) else (decide (((s.bytes t).1[0]?.getD 0).toNat=1),(s.bytes t).2):=by
 unfold RS.flag RS.bytes;cases h:s.take t with
 | mk ox s'=>
  cases ox with
  | none=>
   have hb:=vS h;dsimp only;rw[if_pos (.inl hb),<-hb]
  | some x=>
   have hb:=(dW h).2.1;dsimp only[Option.getD_some];by_cases h8:x.length=1/\(x[0]?.getD 0).toNat<=1
   ·rw[if_pos h8,if_neg (fun h=>h.elim (fun h=>by rw[hb] at h;cases h) (fun h=>h h8))]
   rw[if_neg h8,if_pos (.inr h8)]
theorem zH (B g:Nat)(s:RS)(t:UInt8)(W:World)(hr:RfS B g s W)(hl:s.l.length<=100000000):Calls Tryz.prog 95 #[.pointer (some ⟨g,0,none⟩),.int .u8 (t.toNat:Int)] W
  (Ee B g (.bool (s.flag t).1) (s.flag t).2 W):=by
 have hc:=gB B g s t W hr hl;unfold gJ at hc;rw[IC];generalize s.bytes t=r at *;obtain⟨x,s'⟩:=r;dsimp only at hc ⊢;by_cases hb:s'.bad=true\/¬x.length=1
 ·rw[if_pos (hb.imp id (fun h k=>h k.1))];have HB:=Lib.hid hb;clear hb;go_in;go_wp2_with fail;refine hc.mono ?_;rintro e w' ⟨⟨ao1,cap1,h1⟩,h2,ao,cap,rfl,h3,h4⟩;obtain⟨c0,c1,z0,z1⟩:=gz h1;have Hf:=Lib.hid h1.fail;cases hs:s'.bad with
  | true=>
   rw[hs] at c1;clear h1 hs;go_wp2_with fail;go_ret;exact⟨rfl,⟨_,_,Hf.out⟩,bi h2 (ak _ _ _ _)⟩
  | false=>
   rw[hs] at c1;have f0:((x.length:Int) != 1)=true:=by
    rw[bne_iff_ne];rcases HB.out with h | h
    ·rw[hs] at h;cases h
    omega
   clear h1 hs;go_wp2_with fail;go_ret;exact⟨rfl,⟨_,_,Hf.out⟩,bi h2 (ak _ _ _ _)⟩
 simp only[not_or,ybs,Decidable.not_not] at hb;obtain⟨hb1,h8⟩:=hb;generalize hP:(if s'.bad=true\/¬(x.length=1/\(x[0]?.getD 0).toNat<=1) then ((false,⟨s'.l,true⟩):Bool×RS) else (decide ((x[0]?.getD 0).toNat=1),s'))=P;have HP:=Lib.hid hP;clear hP;go_in;go_wp2_with fail;refine hc.mono ?_;rintro e w' ⟨⟨ao1,cap1,h1⟩,h2,ao,cap,rfl,h4,_⟩;obtain⟨c0,c1,z0,z1⟩:=gz h1;have Hf:=Lib.hid h1.fail;rw[hb1] at c1;have hle:=h4.le;obtain⟨b,o,rfl,_,hcc⟩:=h4.some (by omega);have x0:w'.cell? ⟨b,o,none⟩=some (.int .u8 ((x[0]?.getD 0).toNat:Int)):=hcc 0 _ (iG x 0 (by omega));generalize (x[0]?.getD 0).toNat=q at *;rw[h8];have H1:=Lib.hid h1;have HB:=Lib.hid hb1;have H8:=Lib.hid h8;clear h1 hb1 h8 hcc hc h4 hle;by_cases hv:q<=1
 ·have f0:decide ((1:Int)<(q:Int))=false:=yad (by omega);have HN:Hid (¬(s'.bad=true\/¬(x.length=1/\q<=1))):=Lib.hid (fun h=>h.elim (fun h=>by rw[HB.out] at h;cases h) (fun h=>h ⟨H8.out,hv⟩));by_cases h1v:q=1
  ·have f1:((q:Int)==1)=true:=by rw[h1v];rfl
   have HV:=Lib.hid h1v;clear hv h1v;go_wp2_with fail;go_ret;rw[<-HP.out,if_neg HN.out];exact⟨by rw[yaa HV.out];rfl,⟨_,_,H1.out⟩,h2⟩
  have f1:((q:Int)==1)=false:=by rw[yap];omega
  have HV:=Lib.hid h1v;clear hv h1v;go_wp2_with fail;go_ret;rw[<-HP.out,if_neg HN.out];exact⟨by rw[yad HV.out];rfl,⟨_,_,H1.out⟩,h2⟩
 have f0:decide ((1:Int)<(q:Int))=true:=yaa (by omega);have HN:Hid (s'.bad=true\/¬(x.length=1/\q<=1)):=Lib.hid (.inr (fun h=>hv h.2));clear hv;go_wp2_with fail;go_ret;rw[<-HP.out,if_pos HN.out];exact⟨rfl,⟨_,_,Hf.out⟩,bi h2 (ak _ _ _ _)⟩
end Tlv
namespace Msg
open Go.RowKit Go.Lib Mem Tlv
variable{B:Nat}{W a b:World}{c:QC}{cs:Array Value}{fr:Nat×Nat}{s:RS}{t:TypeId}{v:QV}
structure KeepN (B:Nat)(W W':World):Prop where
 km:KeepM W W'
 low:∀k,k<B->k<W.heap.size->W'.heap[k]?=W.heap[k]?
theorem KeepN.kb(h:KeepN B a b):KeepB B a b:=⟨h.km.kr,h.low⟩
theorem KeepN.of_below(h:Below a.heap.size a b):KeepN B a b:=⟨KeepM.of_below h,fun k _ h2=>h.block k h2⟩
theorem KeepN.box{j:Nat}(h:a.heap[j]?=some (.cells cs t fr))(ht:¬gZ t)(hB:B<=j)(hs:a.heap.size<=b.heap.size)(ho:∀k,k≠j->b.heap[k]?=a.heap[k]?):KeepN B a b:=⟨KeepM.box h ht hs ho,fun k h1 _=>ho k (by omega)⟩
theorem KeepN.set{b i:Nat}{x:Value}(h:W.heap[b]?=some (.cells cs t fr))(ht:¬gZ t)(hB:B<=b):KeepN B W (W.setCell ⟨b,i,none⟩ x):=
 KeepN.box h ht hB (yaR (ybv _ _ _).symm) (fun _ hk=>yaA _ _ _ _ hk)
theorem KeepN.grown{b:Nat}{W':World}(hg:W.grownBy W' (some b))(h:W.heap[b]?=some (.cells cs t fr))(ht:¬gZ t)(hB:B<=b):KeepN B W W':=
 ⟨KeepM.grown hg h ht,fun k h1 h2=>hg.block k h2 (fun e=>by have:=yaf e;omega)⟩
theorem KeepN.of_belX{ob:Nat}(hX:BelX a.heap.size [ob] a b)(ho:a.heap[ob]?=some (.cells cs t fr))(ht:¬gZ t)(hB:B<=ob):KeepN B a b:=by
 refine⟨KeepM.of_belX hX (fun k hk=>?_),fun k h1 h2=>hX.block k h2 (fun hm=>?_)⟩
 ·rw[yah.1 hk];exact⟨_,ho,fun c t' fr' ht' e=>by cases e;exact ht ht'⟩
 have:=yah.1 hm;omega
theorem nX:¬gZ 119:=fun h=>by rcases h with h | h | h | h | h | h<;>exact absurd h (by decide)
theorem IG{g:Nat}{wr w1:World}(hr:RfS B g s wr)(hg:wr.grownBy w1 (some g)):KeepN B wr w1:=by
 have hle:=hr.le;obtain⟨_,_,h⟩:=hr;exact KeepN.grown hg h.at_ nX hle
theorem wW{M size n cap:Nat}{ys:List Nat}{ao:Option Addr}{xs:List Value}(h:Rd a size ao n cap xs)(hb:BelX M ys a b)(hlt:0<cap->∀x,ao=some x->x.block<M/\x.block∉ys):Rd b size ao n cap xs:=by
 obtain⟨h1,h2,h3,h4,h5⟩:=h;refine⟨h1,h2,h3,h4,fun h0 x hx=>?_⟩;obtain⟨s1,l,c⟩:=h5 h0 x hx;obtain⟨k1,k2⟩:=hlt h0 x hx;exact⟨s1,yaz l hb.size,fun j u hu=>(yaK (a:=⟨x.block,x.off+j,none⟩) (hb.block _ k1 k2)).trans (c j u hu)⟩
structure QTyB (B:Nat)(W:World)(v:QV)(c:QC):Prop where
 e:TyX 124 W v.eo v.ec
 a:∀p∈c.ents,TyX 106 W p.1.ao p.1.ac
 c:TyB B W v.co v.cc
theorem QTyB.kpn(h:QTyB B a v c)(hk:KeepN B a b):QTyB B b v c:=⟨h.e.kpm yf hk.km,fun p hp=>(h.a p hp).kpr (.inr (.inr rfl)) hk.km.kr,TyB.kpb h.c hk.kb⟩
theorem QAt.kpn(h:QAt a v c)(hy:QTyB B a v c)(hk:KeepN B a b):QAt b v c:=⟨h.e.kpm hy.e hy.a hk.km,ji h.c hy.c hk.kb,h.lc⟩
theorem Oj{w w':World}{y:List UInt8}{e:Ending}(h:wZ (.bool true) (.bool false) y w e w'):∃(ok:Bool) (Y:EV) (x:List (ByteArray×ByteArray)),e=.returned (.tuple #[Y.val,.bool ok])/\EAt w' Y x/\TyX 106 w' Y.ao Y.ac/\Below w.heap.size w w'/\((ok=true/\aB Y x=true/\eX Y x=y)\/(ok=false/\uA y)):=by
 obtain⟨hb,⟨Y,x,rfl,h1,h2,h3,h4⟩ | ⟨rfl,n1⟩⟩:=h
 ·exact⟨true,Y,x,rfl,h1,h2,hb,.inl ⟨rfl,h3,h4⟩⟩
 exact⟨false,zeroE,[],rfl,⟨Rd.nil _ _,yam _⟩,fun h=>absurd h (yaw 0),hb,.inr ⟨rfl,n1⟩⟩
structure RoLoop (ob:Nat)(w W9:World)(v:QV)(xs:List El)(k:Nat)(wr:World):Prop where
 bel:Below w.heap.size w wr
 X:BelX W9.heap.size [ob] W9 wr
 ex:∃l:List EP,l.length=k/\StE ob v W9.heap.size l wr/\lQ l=elB (xs.take k)/\(∀p∈l,aB p.1 p.2=true)
theorem IZ{s':RS}{L:List (List UInt8)}(T:Took (fun L=>val 3 (aK 1 L)) (fun L=>(aK 1 L).length<=4194304) (fun L=>(aK 1 L).length<=4194304) s L s'):Took (val 3) Dq (fun z=>z.length<=4194304) s (aK 1 L) s':=
 Dx (f:=aK 1) T (fun _=>rfl) (fun _ ⟨m,h1,_,_,h4⟩=>⟨lQ m,by rw[mP];exact h4,by rw[mP];exact h1.symm⟩) (fun _ h=>h)
theorem BQ(B:Nat)(b:List UInt8)(ao:Option Addr)(n cap:Nat)(w:World)(hr:Rd w 1 ao n cap (byV b))(hB:B<=w.heap.size)(hty:TyB B w ao cap)(hn:n<=100000000) :
  Calls Tryz.prog 93 #[.slice ao n cap] w (xu (QTyB B) (.bool true) (.bool false) b w):=by
 have hbn:b.length=n:=by have:=hr.1;rw[aV] at this;omega
 have hb0:=bN w aG.box;have k0:=aN w aG.box
 have hz0:(w.alloc aG.box).heap.size=w.heap.size+1:=by simp
 have hr0:=hr.later hb0;have ht0:=hty.later hb0;unfold aG QV.box QV.cells at hb0 k0 hz0 hr0 ht0;dsimp only at hb0 k0 hz0 hr0 ht0;clear hr hty;go_in;go_upto_region 1 with fail;generalize hg:w.alloc _=W0 at *;have k0f:W0.heap[w.heap.size]?=some aG.box:=k0;clear hg k0;subst hbn;have hBW0:B<=W0.heap.size:=yae hB hb0.size;have hR:=oz hr0 hBW0 ht0;have hbR:=bN W0 (.cells #[.slice ao b.length cap,.bool false] 119);go_upto_region 2 with fail;generalize hg:W0.alloc _=W1 at *;have hz1:W1.heap.size=W0.heap.size+1:=by rw[<-hg];simp
 clear hg;go_upto_region 3 with (refine zNr rfl ?_;go_simp);generalize hg:W1.alloc _=W2;have e2:W1.alloc aG.box=W2:=hg;have hb2:=bE e2
 have kb:W2.heap[W1.heap.size]?=some aG.box:=aE e2
 have hR2:=hR.later hb2;have hbel2:Below W0.heap.size W0 W2:=hbR.trans (hb2.mono (by omega));clear hg e2 hb2 hR hbR hr0 ht0;rw[hz0] at hR2;rw[hz1,hz0] at kb;clear hz1;have T1:=kJ (iL ⟨b,false⟩ 1 (by decide)) (may':=fun n=>n<=14) (good':=fun n=>n<18446744073709551616) (fun _ _=>by omega) (fun _ h=>h);generalize hgq:w.heap.size+1=g at *;generalize hobq:g+1=ob at *;have hg0:W0.heap.size<=g:=by omega
 have hob:W0.heap.size<=ob:=by omega
 have hgo:g≠ob:=by omega
 have hgob:g<ob:=by omega
 have hrw:w.heap.size<W0.heap.size:=by omega
 clear hgq hobq;have hBo:B<=ob:=yae hBW0 hob;have hnum:=jQ B g ⟨b,false⟩ 1 W2 hR2 (by dsimp only;omega);generalize RS.num ⟨b,false⟩ 1=nm at *;obtain⟨n1,s1⟩:=nm;dsimp only at T1 hnum;have l1:=T1.le;dsimp only at l1;have HT1:=hid T1;clear T1;go_wp2_with fail;refine hnum.mono ?_;rintro e W3 ⟨rfl,hR3,hg3⟩;have hb3:Below W0.heap.size W0 W3:=hbel2.trans (below_of_grown hg3 hg0 hR2.lt);have q3:W3.heap[ob]?=some aG.box:=(hg3.block _ (lA kb) (fun e=>hgo (yaf e).symm)).trans kb;clear hnum hbel2 kb hR2 hg3;have T2:=qJ s1 2 (by decide);have hflag:=zH B g s1 2 W3 hR3 (by omega);generalize RS.flag s1 2=fm at *;obtain⟨y2,s2⟩:=fm;dsimp only at T2 hflag;have l2:=T2.le;have HT2:=hid T2;clear T2;go_wp2_with fail;refine hflag.mono ?_;rintro e W4 ⟨rfl,hR4,hg4⟩;have hb4:Below W0.heap.size W0 W4:=hb3.trans (below_of_grown hg4 hg0 hR3.lt);have q4:W4.heap[ob]?=some aG.box:=(hg4.block _ (lA q3) (fun e=>hgo (yaf e).symm)).trans q3;clear hflag hb3 q3 hR3 hg4;obtain⟨d0,d1,d2,d3,d4⟩:=bf q4;unfold aG at d0 d1 d2 d3;dsimp only at d0 d1 d2 d3;go_upto_region 5 with fail;have q5:(W4.setCell ⟨ob,1,none⟩ (.bool y2)).heap[ob]?=some (QV.box ⟨0,y2,none,0,0,none,0,0⟩):=(at_set q4).trans (by kernel_rfl);have hR5:RfS B g s2 (W4.setCell ⟨ob,1,none⟩ (.bool y2)):=hR4.grown (ak _ _ _ _) q4 (fun c fr h=>by cases h) hgo hBo;have hb5:=hb4.setCell (p:=⟨ob,1,none⟩) hob (.bool y2);generalize W4.setCell _ _=W5 at *;clear d0 d1 d2 d3 d4 q4 hR4 hb4;have z5:ob<W5.heap.size:=lA q5;go_wp2_with fail;refine (oM B g s2 3 1 W5 (by decide) (by decide) hR5 (by omega)).mono ?_;rintro e W6 ⟨a6,c6,xs,s3,rfl,hrd6,hall6,hfr6,hln6,hsm6,hR6,hg6,T3L⟩;have hb6:Below W0.heap.size W0 W6:=hb5.trans (below_of_grown hg6 hg0 hR5.lt);have q6:W6.heap[ob]?=some (QV.box ⟨0,y2,none,0,0,none,0,0⟩):=(hg6.block _ (lA q5) (fun e=>hgo (yaf e).symm)).trans q5;have T3:=IZ T3L;have l3:=T3.le;have HT3:=hid T3;have HT3L:=hid T3L;have hne6:∀a,a6=some a->g<a.block/\a.block≠ob:=fun a ha=>by have:=hfr6 a ha;omega
 clear T3 T3L q5 hb5 hR5 hg6 hfr6 z5;have T4:=bC s3 4 (by decide);have hl4:=fU s3 4;have hby:=gB B g s3 4 W6 hR6 (by omega);unfold gJ at hby;generalize RS.bytes s3 4=y at *;obtain⟨cur,s4⟩:=y;dsimp only at T4 hby hl4;have HT4:=hid T4;clear T4;go_wp2_with fail;refine hby.mono ?_;rintro e W7 ⟨hR7,hg7,a7,c7,rfl,hrd7,hty7⟩;have hb7:Below W0.heap.size W0 W7:=hb6.trans (below_of_grown hg7 hg0 hR6.lt);have q7:W7.heap[ob]?=some (QV.box ⟨0,y2,none,0,0,none,0,0⟩):=(hg7.block _ (lA q6) (fun e=>hgo (yaf e).symm)).trans q6;have hrl7:Rd W7 1 a6 xs.length c6 (lsV xs):=fO hrd6 hg7 (fun _ a ha e=>by have:=(hne6 a ha).1;have:=yaf e;omega);have hal7:allIn B W7 xs W7:=fun x hx=>⟨ji (hall6 x hx).1 (hall6 x hx).2 (IG hR6 hg7).kb,TyB.kpb (hall6 x hx).2 (IG hR6 hg7).kb⟩
 clear hby q6 hb6 hR6 hg7 hrd6 hall6;obtain⟨d0,d1,d2,d3,d4⟩:=bf q7;dsimp only at d0 d1 d2 d3;go_upto_region 7 with fail;have q8:(W7.setCell ⟨ob,3,none⟩ (.slice a7 cur.length c7)).heap[ob]?=some (QV.box ⟨0,y2,none,0,0,a7,cur.length,c7⟩):=(at_set q7).trans (by kernel_rfl);have hR8:RfS B g s4 (W7.setCell ⟨ob,3,none⟩ (.slice a7 cur.length c7)):=hR7.grown (ak _ _ _ _) q7 (fun c fr h=>by cases h) hgo hBo;have hb8:=hb7.setCell (p:=⟨ob,3,none⟩) hob (.slice a7 cur.length c7);have hk8:KeepN B W7 (W7.setCell ⟨ob,3,none⟩ (.slice a7 cur.length c7)):=KeepN.set q7 jP hBo;have hrl8:Rd (W7.setCell ⟨ob,3,none⟩ (.slice a7 cur.length c7)) 1 a6 xs.length c6 (lsV xs):=fO hrl7 (ak _ _ _ _) (fun _ a ha e=>(hne6 a ha).2 (yaf e));have hal8:allIn B (W7.setCell ⟨ob,3,none⟩ (.slice a7 cur.length c7)) xs (W7.setCell ⟨ob,3,none⟩ (.slice a7 cur.length c7)):=fun x hx=>⟨ji (hal7 x hx).1 (hal7 x hx).2 hk8.kb,TyB.kpb (hal7 x hx).2 hk8.kb⟩
 have hrd8:=ji hrd7 hty7 hk8.kb;have hty8:=TyB.kpb hty7 hk8.kb;generalize W7.setCell _ _=W8 at *;clear d0 d1 d2 d3 d4 q7 hR7 hb7 hrl7 hal7 hk8 hrd7 hty7;have hrz:W8.heap[w.heap.size]?=some aG.box:=(hb8.block _ (by omega)).trans k0f;have hbel:=hb0.trans (hb8.mono (by omega));have f1:(W8.setRow w.heap.size aG.cells).heap[w.heap.size]?=some (.cells aG.cells 39):=aO hrz;have f2:=below_setRow hbel (yag _) aG.cells;go_wp2_with fail;refine (kZ B g s4 W8 hR8).mono ?_;rintro e w9 ⟨rfl,rfl⟩;by_cases he:s4.bad=false/\s4.l=[]
 case neg=>
  have f0:decide (s4.bad=false/\s4.l=[])=false:=yad he;have hno:=hid (qE HT1.out HT2.out HT3.out HT4.out (.inl (by
   cases hb:s4.bad with
   | true=>exact .inl rfl
   | false=>exact .inr (ycj.2 (fun h=>he ⟨hb,h⟩)))))
  clear he;go_wp2_with (refine zSr rfl hrz ?_;go_simp);exact yay (w:=W8.setRow w.heap.size aG.cells) (aj (i:=2) (j:=3) (t:=39) rfl rfl rfl (by kernel_rfl) (by kernel_rfl) f1) rfl ⟨f2,.inr ⟨rfl,hno.out⟩⟩
 have f0:decide (s4.bad=false/\s4.l=[])=true:=yaa he;by_cases h14:14<n1
 case pos=>
  have f3:decide ((14:Int)<(n1:Int))=true:=yaa (by omega);have hno:=hid (qE HT1.out HT2.out HT3.out HT4.out (.inr (fun W v c ho hm g1 _ _ _=>by
   have F:=FitQ.of ho hm;have:=F.c14;omega)))
  clear he h14;go_wp2_with (refine zSr rfl hrz ?_;go_simp);exact yay (w:=W8.setRow w.heap.size aG.cells) (aj (i:=2) (j:=3) (t:=39) rfl rfl rfl (by kernel_rfl) (by kernel_rfl) f1) rfl ⟨f2,.inr ⟨rfl,hno.out⟩⟩
 have f3:decide ((14:Int)<(n1:Int))=false:=yad (by omega);have HE:=hid he;have H14:=hid h14;have hw1:IntKind.i64.wrap (n1:Int)=(n1:Int):=gG _ (by omega) (by omega);have hs3:s3.bad=false:=(HT4.out.yes he.1).1;have hsh:(aK 1 (elB xs)).length<=4194304:=(HT3L.out.yes hs3).2.2;have HSh:=hid hsh;have hdone:=Dc HT1.out HT2.out HT3.out HT4.out he.1 he.2;have HD:=hid hdone.1;have HN:=hid (fun h=>qE HT1.out HT2.out HT3.out HT4.out (Or.inr h));clear he h14 hs3 hsh hdone f1 f2 HT1 HT2 HT3 HT3L HT4 hsm6 hR8;obtain⟨d0,d1,d2,d3,d4⟩:=bf q8;dsimp only at d0 d1 d2 d3;go_upto_region 10 with fail;have q9:(W8.setCell ⟨ob,0,none⟩ (.int .i64 (n1:Int))).heap[ob]?=some (QV.box ⟨(n1:Int),y2,none,0,0,a7,cur.length,c7⟩):=(at_set q8).trans (by kernel_rfl);have hb9:=hb8.setCell (p:=⟨ob,0,none⟩) hob (.int .i64 (n1:Int));have hk9:KeepN B W8 (W8.setCell ⟨ob,0,none⟩ (.int .i64 (n1:Int))):=KeepN.set q8 jP hBo;have hrl9:Rd (W8.setCell ⟨ob,0,none⟩ (.int .i64 (n1:Int))) 1 a6 xs.length c6 (lsV xs):=fO hrl8 (ak _ _ _ _) (fun _ a ha e=>(hne6 a ha).2 (yaf e));have hal9:allIn B (W8.setCell ⟨ob,0,none⟩ (.int .i64 (n1:Int))) xs (W8.setCell ⟨ob,0,none⟩ (.int .i64 (n1:Int))):=fun x hx=>⟨ji (hal8 x hx).1 (hal8 x hx).2 hk9.kb,TyB.kpb (hal8 x hx).2 hk9.kb⟩
 have hrd9:=ji hrd8 hty8 hk9.kb;have hty9:=TyB.kpb hty8 hk9.kb;generalize W8.setCell _ _=W9 at *;clear d0 d1 d2 d3 d4 q8 hb8 hrl8 hal8 hk9 hrd8 hty8 hw1 hrz hbel;obtain⟨V,hV⟩:∃V:QV,V=⟨(n1:Int),y2,none,0,0,a7,cur.length,c7⟩:=⟨_,rfl⟩
 have hV0:V.ents none 0 0=V:=by rw[hV];rfl
 rw[<-hV,<-hV0] at q9;have HV:=hid hV;clear hV hV0;have hst0:StE ob V W9.heap.size [] W9:=⟨⟨none,0,q9,yaC _ _ _ _⟩,fun p hp=>by cases hp⟩
 have hbel9:=hb0.trans (hb9.mono (show w.heap.size<=W0.heap.size by omega));have zo9:ob<W9.heap.size:=lA q9;go_wp2_with fail;go_loopw [8] (fun p wr=>∃k:Nat,k<=xs.length/\p=.int .i64 (k:Int)/\RoLoop ob w W9 V xs k wr) (fun p _=>xs.length-(intOf p).toNat)
 case atStart=>exact⟨0,yam _,rfl,hbel9,BelX.refl _ _ _,[],rfl,hst0,rfl,fun p hp=>by cases hp⟩
 case round=>
  obtain⟨k,hk,rfl,hL⟩:=hrel;obtain⟨l,hlk,⟨⟨a,kc,ho,hown⟩,hE⟩,hel,hml⟩:=hL.ex;have hX:=hL.X;have hbelr:=hL.bel;have Hel:=hid hel;have Hml:=hid hml;subst hlk;clear hL hel hml hst0;have hkn9:KeepN B W9 wr:=KeepN.of_belX hX q9 jP hBo;have hrz:wr.heap[w.heap.size]?=some aG.box:=(hX.at_ ((hb9.block _ (by omega)).trans k0f) (by omega) (by simp;omega))
  have hrlr:Rd wr 1 a6 xs.length c6 (lsV xs):=wW hrl9 hX (fun h0 x hx=>⟨hrl9.lt h0 x hx,by simpa using (hne6 x hx).2⟩);by_cases hkn:l.length<xs.length
  ·obtain⟨b1,o1,hao,hl1,hc1⟩:=hrlr.some (by have:=hrlr.le;omega);obtain⟨u,hue⟩:∃u,xs[l.length]?=some u:=⟨_,yac hkn⟩
   have hum:=yan hue;have c1:=hc1 _ _ (sO xs l.length u hue);have c2:wr.cell? ⟨b1,o1+l.length*1,none⟩=some (.slice u.ao u.it.2.length u.cap):=by rw[ycf];exact c1
   have hru:=ji (hal9 u hum).1 (hal9 u hum).2 hkn9.kb;have htu:=TyB.kpb (hal9 u hum).2 hkn9.kb;have hul:u.it.2.length<=4194304:=by have:=II hum;have:=HSh.out;omega
   have HU:=hid hue;have i0:(0:Int)<=(l.length:Int):=by omega
   have i1:(l.length:Int)<(xs.length:Int):=by omega
   have hBr:B<=wr.heap.size:=yae hB hbelr.size;subst hao;clear hc1 hue hum;go_wp2_with fail;refine (I9 B u.it.2 u.ao _ u.cap wr hru hBr htu (by omega)).mono ?_;rintro e W1 hO;obtain⟨ok,Y,xY,rfl,eY,tY,hb1,hans⟩:=Oj hO;have HA:=hid hans;clear hO hans hru htu c1 c2;unfold EV.val EV.cells;go_upto_region 14 with (refine zNr rfl ?_;go_simp);generalize hg:W1.alloc _=W3;have e3:W1.alloc Y.box=W3:=hg;have hb3':Below W1.heap.size W1 W3:=bE e3
   have hb3:=hb1.trans (hb3'.mono hb1.size);have q3:W3.heap[W1.heap.size]?=some Y.box:=aE e3
   have hzr:=hX.size;have ho3:=(hb3.block _ (by omega)).trans ho;have own3:=ag hown hb3;have hE3:=(hE.kpr (KeepR.of_below hb3)).snoc (p:=(Y,xY)) (eY.later hb3') (tY.kpr (.inr (.inr rfl)) (KeepR.of_below hb3'));have X3:BelX W9.heap.size [ob] W9 W3:=hX.trans ((BelX.of_below hb3 [ob]).mono (by omega) (fun _ hk _=>hk));have bel3:=hbelr.trans (hb3.mono hbelr.size);have z3:W9.heap.size<=W3.heap.size:=yae hzr hb3.size;have hrz3:=(hb3.block _ (by omega)).trans hrz;clear hg e3 hb3' hb3 hb1 ho hown hE eY tY hX hbelr hrz hrlr hl1;generalize W1.heap.size=yb at *;rcases HA.out with ⟨rfl,mY,lY⟩ | ⟨rfl,nY⟩
   ·have HM:=hid (yax mY lY);clear mY lY;obtain⟨c0,c1,c2,c3,c4⟩:=bf ho3;dsimp only[QV.ents] at c0 c1 c2 c3;obtain⟨g0,g1,-⟩:=fA q3;go_wp2_with (at_builtin;refine fM _ rfl (.tmp 56) (.tmp 58) 37 rfl W9.heap.size 124 zeroE.val 2 40 tZ (by decide) (.slice a l.length kc) l.length (enV l) rfl own3 1 [.string Y.name,.slice Y.ao Y.an Y.ac] rfl rfl (fun x hx=>by simp at hx;rcases hx with rfl|rfl<;>rfl) z3 (by omega) ?_;intro a4 k4 W4 own4 hg4 hb4 _;have ho4:W4.heap[ob]?=some (V.ents a l.length kc).box:=(hb4.block _ zo9).trans ho3;obtain⟨d0,d1,d2,d3,d4⟩:=bf ho4;dsimp only[QV.ents] at d0 d1 d2 d3);have hba:=bN W3 (.cells #[.string Y.name,.slice Y.ao Y.an Y.ac] 124);have owna:=ag own3 hba;have hE4:=hE3.kpr ((KeepR.of_below hba).trans (pG hg4 owna (fun t ht e=>by rcases ht with rfl|rfl|rfl<;>exact absurd e (by decide))));have X4:BelX W9.heap.size [ob] W9 W4:=X3.trans (BelX.of_below hb4 [ob]);have ho5:(W4.setCell ⟨ob,2,none⟩ (.slice a4 (l.length+1) k4)).heap[ob]?=some (V.ents a4 (l.length+1) k4).box:=(at_set ho4).trans (by kernel_rfl);have hE5:=hE4.kpr (oZ (i:=2) (x:=.slice a4 (l.length+1) k4) ho4 (fun t ht e=>by rcases ht with rfl|rfl|rfl<;>exact absurd e (by decide)));have X5:BelX W9.heap.size [ob] W9 (W4.setCell ⟨ob,2,none⟩ (.slice a4 (l.length+1) k4)):=X4.set _ _ _ (.inl (by simp));have own5:(W4.setCell ⟨ob,2,none⟩ (.slice a4 (l.length+1) k4)).ownsRow W9.heap.size 124 2 (.slice a4 (l.length+1) k4) (l.length+1) (enV (l++[(Y,xY)])):=by
     rw[xR];exact dw own4 (fun k hk=>yaA _ _ _ _ (by have:=(aU own4 hk).1;show k≠ob;omega))
    have bel5:Below w.heap.size w (W4.setCell ⟨ob,2,none⟩ (.slice a4 (l.length+1) k4)):=(bel3.trans (hb4.mono (by have:=hbel9.size;omega))).setCell (p:=⟨ob,2,none⟩) (show w.heap.size<=ob by omega) _;have eln:(l++[(Y,xY)]).length=l.length+1:=by simp
    have hst5:StE ob V W9.heap.size (l++[(Y,xY)]) (W4.setCell ⟨ob,2,none⟩ (.slice a4 (l.length+1) k4)):=⟨⟨a4,k4,by rw[eln];exact ho5,by rw[eln];exact own5⟩,hE5⟩
    have HEL:=hid eln;clear hba owna hE4 X4 ho4 hE3 X3 ho3 own3 own4 hg4 c0 c1 c2 c3 c4 d0 d1 d2 d3 d4 q3 z3 g0 g1 hE5 own5 ho5 eln hb4;go_roundw
    case rel=>
     refine⟨l.length+1,by omega,by go_num,bel5,X5,l++[(Y,xY)],HEL.out,hst5,?_,fun p hp=>?_⟩
     ·rw[yaE,HU.out];simp only[ybu];rw[mf,<-Hel.out,<-HM.out.2];simp[lQ]
     rcases yaQ.1 hp with hp | hp
     ·exact Hml.out p hp
     rw[yah] at hp;subst hp;exact HM.out.1
    case measure=>simp[intOf];omega
   have hno:=hid (HN.out (fun W v c ho hm _ _ g3 _=>by
    have F:=FitQ.of ho hm;rw[<-mP] at g3;have hL:=vP (by decide) (by rw[mP];exact F.len) g3;have h1:(lQ c.ents)[l.length]?=some u.it.2:=by rw[hL];simp[HU.out]
    simp only[lQ,ybh,Option.map_eq_some_iff] at h1;obtain⟨p,hp,h1⟩:=h1;exact nY p.1 p.2 (F.all p (yan hp)) h1))
   have f1:(W3.setRow w.heap.size aG.cells).heap[w.heap.size]?=some (.cells aG.cells 39):=aO hrz3;have f2:=below_setRow bel3 (yag _) aG.cells;clear nY;go_wp2_with (refine zSr rfl hrz3 ?_;go_simp);exact yay (w:=W3.setRow w.heap.size aG.cells) (aj (i:=2) (j:=3) (t:=39) rfl rfl rfl (by kernel_rfl) (by kernel_rfl) f1) rfl ⟨f2,.inr ⟨rfl,hno.out⟩⟩
  have hke:l.length=xs.length:=by omega
  have htake:lQ l=elB xs:=by rw[Hel.out,hke,yak (yag _)]
  have hents:dH l=aK 1 (elB xs):=by rw[<-mP,htake]
  have hsh:(dH l).length<=4194304:=by rw[hents];exact HSh.out
  have HEn:=hid hents;have hll:l.length<=100000000:=by omega
  have HK:=hid hke;have hob2:∀W:World,W.heap[ob]?=some (V.ents a l.length kc).box->W.heap[ob]?=some (QV.box ⟨(n1:Int),y2,a,l.length,kc,a7,cur.length,c7⟩):=fun W h=>by rw[HV.out] at h;exact h
  have qr:=hob2 wr ho;have hty:QTyB B wr ⟨(n1:Int),y2,a,l.length,kc,a7,cur.length,c7⟩ ⟨l,cur⟩:=⟨TyX.of_own hown,fun p hp=>(hE p hp).2,TyB.kpb hty9 hkn9.kb⟩
  have hQ:QAt wr ⟨(n1:Int),y2,a,l.length,kc,a7,cur.length,c7⟩ ⟨l,cur⟩:=⟨⟨Rd.of_own_slice hown,fun p hp=>(hE p hp).1⟩,ji hrd9 hty9 hkn9.kb,by dsimp only;omega⟩
  have HR:Hid (dM ⟨(n1:Int),y2,a,l.length,kc,a7,cur.length,c7⟩ ⟨l,cur⟩=b):=hid (by rw[HD.out];unfold dM;dsimp only;rw[hents];rfl);have HNo:Hid (bz ⟨(n1:Int),y2,a,l.length,kc,a7,cur.length,c7⟩ ⟨l,cur⟩=false->uI b):=hid (fun hf=>HN.out (fun W v c ho hm g1 g2 g3 g4=>by
   have F:=FitQ.of ho hm;have:=xB ho hQ (uH g1 g2 (uh _ _ F.all Hml.out (by rw[g3];exact hents.symm)) g4);rw[hm,hf] at this;cases this))
  have hrb:=uV ⟨(n1:Int),y2,a,l.length,kc,a7,cur.length,c7⟩ ⟨l,cur⟩ wr hQ (fun _=>hsh);unfold QV.val QV.cells at hrb;clear hke htake hents hsh hob2 ho hown hE hrlr hX HEn;go_wp2_with (refine wpList_load_row (ty:=39) qr rfl rfl rfl (by kernel_rfl) (by kernel_rfl) ?_;go_simp);refine hrb.mono ?_;rintro e W1 ⟨lx,ax,cx,ok,rfl,-,hb1,hx1,hx2⟩;have hrz1:=hb1.q hrz;have q1:=hb1.q qr;have bel1:=hbelr.trans (hb1.mono hbelr.size);have hQ1:=hQ.later hb1;have hty1:=hty.kpn (KeepN.of_below hb1);have HX1:=hid hx1;have HX2:=hid hx2;clear hrb hQ hty hrz qr hbelr hb1 hx1 hx2;cases hm:bz ⟨(n1:Int),y2,a,l.length,kc,a7,cur.length,c7⟩ ⟨l,cur⟩ with
  | false=>
   have hno:=HNo.out hm;obtain⟨rfl,-⟩:=HX2.out hm;have f1:(W1.setRow w.heap.size aG.cells).heap[w.heap.size]?=some (.cells aG.cells 39):=aO hrz1;have f2:=below_setRow bel1 (yag _) aG.cells;clear hm;go_wp2_with (refine zSr rfl hrz1 ?_;go_simp);exact yay (w:=W1.setRow w.heap.size aG.cells) (aj (i:=2) (j:=3) (t:=39) rfl rfl rfl (by kernel_rfl) (by kernel_rfl) f1) rfl ⟨f2,.inr ⟨rfl,hno⟩⟩
  | true=>
   obtain⟨-,rfl⟩:=HX1.out hm;have HM:=hid hm;have f1:(W1.setRow w.heap.size (QV.cells ⟨(n1:Int),y2,a,l.length,kc,a7,cur.length,c7⟩)).heap[w.heap.size]?=some (.cells (QV.cells ⟨(n1:Int),y2,a,l.length,kc,a7,cur.length,c7⟩) 39):=aO hrz1;have f2:=below_setRow bel1 (yag _) (QV.cells ⟨(n1:Int),y2,a,l.length,kc,a7,cur.length,c7⟩);have hK:=KeepN.box (B:=B) (b:=W1.setRow w.heap.size (QV.cells ⟨(n1:Int),y2,a,l.length,kc,a7,cur.length,c7⟩)) hrz1 jP hB (below_setRow (yaj w.heap.size W1) (yag _) (QV.cells ⟨(n1:Int),y2,a,l.length,kc,a7,cur.length,c7⟩)).size (fun k hk=>yba W1 w.heap.size k (QV.cells ⟨(n1:Int),y2,a,l.length,kc,a7,cur.length,c7⟩) hk);have hQF:=hQ1.kpn hty1 hK;have hTF:=hty1.kpn hK;clear hm;go_wp2_with (first | (refine wpList_load_row (ty:=39) q1 rfl rfl rfl (by kernel_rfl) (by kernel_rfl) ?_;go_simp) | (refine zSr rfl hrz1 ?_;go_simp));exact yay (w:=W1.setRow w.heap.size (QV.cells ⟨(n1:Int),y2,a,l.length,kc,a7,cur.length,c7⟩)) (aj (i:=2) (j:=3) (t:=39) rfl rfl rfl (by kernel_rfl) (by kernel_rfl) f1) rfl ⟨f2,.inl ⟨_,⟨l,cur⟩,rfl,hQF,hTF,HM.out,HR.out⟩⟩
