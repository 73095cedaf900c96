/-
  A part of the proof.
-/
import Derived.Test.YtfmmandlmbcncaaGreatDoorKcas
set_option maxHeartbeats 40000000
set_option maxRecDepth 100000
namespace Go.Proofs.YtfmmandlmbcncaaGreatDoor.Msg
open Go.RowKit Go.Lib Mem Tlv
theorem jO (ys:List (ByteArray×ByteArray)):aH ys=aJ 3 (ys.map gW):=by
 unfold aH aJ;rw[List.flatMap_map];rfl
theorem tV {o:UInt8}(ho:0<o.toNat){L M:List (List UInt8)}(hL:(aJ o L).length<=4194304)(h:aJ o L=aJ o M):L=M:=by
 have h1:=pU o ho L hL;have h2:=pU o ho M (by rw[<-h];exact hL);rw[h,h2] at h1;have h3:=congrArg (List.map Prod.snd) h1;rw[List.map_map,List.map_map,show (Prod.snd∘fun b:List UInt8=>(o,b))=id from rfl,List.map_id,List.map_id] at h3;exact h3.symm
theorem N8 (e:List UInt8):((RS.bytes (RS.bytes ⟨e,false⟩ 1).2 2).2.bad=false/\(RS.bytes (RS.bytes ⟨e,false⟩ 1).2 2).2.l=[]->e=gW (⟨(RS.bytes ⟨e,false⟩ 1).1.toArray⟩,⟨(RS.bytes (RS.bytes ⟨e,false⟩ 1).2 2).1.toArray⟩)) /\
  (¬((RS.bytes (RS.bytes ⟨e,false⟩ 1).2 2).2.bad=false/\(RS.bytes (RS.bytes ⟨e,false⟩ 1).2 2).2.l=[])->Aw e):=by
 have T1:=bi ⟨e,false⟩ 1 (by decide);have T2:=bi (RS.bytes ⟨e,false⟩ 1).2 2 (by decide);generalize RS.bytes ⟨e,false⟩ 1=r1 at *;obtain⟨y1,s1⟩:=r1;dsimp only at *;generalize s1.bytes 2=r2 at *;obtain⟨y2,s2⟩:=r2;dsimp only at *;constructor
 ·rintro⟨h1,h2⟩;obtain⟨e1,e2,e3⟩:=T2.yes h1;obtain⟨_,f2,f3⟩:=T1.yes e1;rw[h2,List.append_nil] at e2;dsimp only at f2;rw[f2,e2];rfl
 intro h u hu ee;subst ee;rw[kV] at hu;cases hb1:s1.bad with
 | true=>
  rcases T1.no hb1 with h | h
  ·cases h
  exact h u.1.data.toList (val 2 u.2.data.toList) (by omega) rfl
 | false=>
  obtain⟨_,f2,f3⟩:=T1.yes hb1;dsimp only at f2;unfold gW at f2;obtain⟨_,f4⟩:=ay (t:=1) (by decide) (by omega) f3 f2;cases hb2:s2.bad with
  | true=>
   rcases T2.no hb2 with h | h
   ·rw[hb1] at h;cases h
   exact h u.2.data.toList [] (by omega) (by rw[List.append_nil];exact f4.symm)
  | false=>
   obtain⟨_,g2,g3⟩:=T2.yes hb2;rw[<-f4] at g2;have:=(ay (t:=2) (a:=u.2.data.toList) (b:=y2) (r:=[]) (r':=s2.l) (by decide) (by omega) g3 (by rw[List.append_nil];exact g2)).2;exact h ⟨hb2,this.symm⟩
def LM (B g:Nat)(t:UInt8)(s:RS)(W:World)(e:Ending)(w':World):Prop:=∃ao n cap xs s',e=.returned (.slice ao n cap)/\Rd w' 2 ao n cap (atV xs)/\n<=100000000/\TyX 106 w' ao cap/\RfS B g s' w'/\W.grownBy w' (some g) /\
 Took (fun ys=>val t (aH ys)) (fun ys=>ys.length<=50/\(aH ys).length<=4194304) (fun ys=>(aH ys).length<=4194304) s xs s'
theorem Iz {s s1:RS}{L:List (List UInt8)}{t:UInt8}(T:Took (fun L=>val t (aJ 3 L)) (fun L=>(aJ 3 L).length<=4194304) (fun L=>(aJ 3 L).length<=4194304) s L s1)(ht:0<t.toNat) :
  (∀ys,ys.map gW=L->Took (fun ys=>val t (aH ys)) (fun ys=>ys.length<=50/\(aH ys).length<=4194304) (fun ys=>(aH ys).length<=4194304) s ys s1) /\
  ((∃e∈L,Aw e)->Took (fun ys=>val t (aH ys)) (fun ys=>ys.length<=50/\(aH ys).length<=4194304) (fun ys=>(aH ys).length<=4194304) s [] ⟨s1.l,true⟩):=by
 constructor
 ·intro ys hy;refine⟨fun hb=>?_,fun hb=>(T.no hb).imp id (fun h zs r hz=>?_),T.le⟩
  ·rw[jO,hy];exact T.yes hb
  rw[jO];exact h _ r (by rw[<-jO];exact hz.2)
 rintro⟨e,he,hno⟩;refine⟨fun hb=>(by cases hb),fun _=>?_,T.le⟩;cases hb:s1.bad with
 | true=>
  refine (T.no hb).imp id (fun h zs r hz=>?_);rw[jO];exact h _ r (by rw[<-jO];exact hz.2)
 | false=>
  obtain⟨h1,h2,h3⟩:=T.yes hb;refine .inr fun zs r hz ee=>?_;rw[h2,jO] at ee;have h4:=(ay ht h3 (by rw[<-jO];exact hz.2) ee).1;have h5:=tV (by decide) h3 h4;rw[h5,List.mem_map] at he;obtain⟨u,hu,rfl⟩:=he;refine hno u ?_ rfl;have h6:∀(zs:List (ByteArray×ByteArray)),u∈zs->(gW u).length<=(aH zs).length:=by
   intro zs;induction zs with
   | nil=>intro h;cases h
   | cons z zs ih=>
    intro h;rw[dS,List.length_append,af];rcases List.mem_cons.1 h with rfl | h
    ·unfold gW;omega
    have:=ih h;omega
  have:=h6 zs hu;have:=hz.2;omega
theorem nI {B:Nat}{w:World}{l:List UInt8}{ao:Option Addr}{cap:Nat}(hr:Rd w 1 ao l.length cap (byV l))(hB:B<=w.heap.size)(ht:TyB B w ao cap):RfS B w.heap.size ⟨l,false⟩ (w.alloc (.cells #[.slice ao l.length cap,.bool false] 119)):=by
 have hb:Below w.heap.size w (w.alloc (.cells #[.slice ao l.length cap,.bool false] 119)):=(Below.refl _ _).alloc (Nat.le_refl _) _;exact⟨ao,cap,by show (w.heap.push _)[w.heap.size]?=some _;exact Array.getElem?_push_size,hB,hr.later hb,ht.later hb⟩
theorem qO (B g:Nat)(s:RS)(t:UInt8)(W:World)(ht:0<t.toNat)(hr:RfS B g s W)(hl:s.l.length<=100000000) :
  Calls Tryz.prog 160 #[.pointer (some ⟨g,0,none⟩),.int .u8 (t.toNat:Int)] W (LM B g t s W):=by
 have hgs:=hr.lt;have hc:=nR B g s t 3 W ht (by decide) hr hl;have HT:=hid ht;clear ht hr;go_in;go_wp2_with fail;refine hc.mono ?_;rintro e W1 ⟨ao1,cap1,els,s1,rfl,hrd1,hall1,hfr1,hn1,⟨hel,-⟩,hr1,hg1,T⟩;have hTA:=hid (Iz T HT.out);have Hel:=hid hel;have Hall1:=hid hall1;have hz1:=hg1.size;clear T hel hall1;have ho0:W1.ownsRow W1.heap.size 106 2 (.slice none 0 0) 0 (atV []):=World.ownsRow_nil _ _ _ _;go_wp2_with fail;go_loopw [6,7] (fun v p wr=>∃(k:Nat) (ys:List (ByteArray×ByteArray)),k<=els.length/\p=.int .i64 (k:Int)/\wr.ownsRow W1.heap.size 106 2 v k (atV ys)/\Below W1.heap.size W1 wr/\Hid (ys.length=k/\ys.map gW=(els.map fun x=>x.it.2).take k)) (fun _ p _=>els.length-(intOf p).toNat)
 case atStart=>exact⟨0,[],Nat.zero_le _,rfl,ho0,Below.refl _ _,hid ⟨rfl,rfl⟩⟩
 case round=>
  obtain⟨k,ys,hk,rfl,own,hbr,Hys⟩:=hrel;have hr2:=hr1.later hbr;have hg2:W.grownBy wr (some g):=bg hg1 (gp hbr _);by_cases hkn:k<els.length
  ·obtain⟨b1,o1,rfl,hl1,hc1⟩:=hrd1.some (by have:=hrd1.le;omega);obtain⟨u,hue⟩:∃u,els[k]?=some u:=⟨_,List.getElem?_eq_getElem hkn⟩
   have c1:=(hbr.cell (p:=⟨b1,o1+k,none⟩) hl1).trans (hc1 k _ (qU els k u hue));have c2:wr.cell? ⟨b1,o1+k*1,none⟩=some (.slice u.ao u.it.2.length u.cap):=by rw[Nat.mul_one];exact c1
   have hum:=List.mem_of_getElem? hue;have hul:=Hel.out u hum;obtain⟨hu1,hu2⟩:=Hall1.out u hum;have hu3:Rd wr 1 u.ao u.it.2.length u.cap (byV u.it.2):=hu1.later hbr;have hu4:TyB B wr u.ao u.cap:=hu2.later hbr;have hBwr:B<=wr.heap.size:=Nat.le_trans hr2.le (Nat.le_of_lt hr2.lt);have i0:(0:Int)<=(k:Int):=by omega
   have i1:(k:Int)<(els.length:Int):=by omega
   have hX:=nI hu3 hBwr hu4;have hbX:Below wr.heap.size wr (wr.alloc (.cells #[.slice u.ao u.it.2.length u.cap,.bool false] 119)):=(Below.refl _ _).alloc (Nat.le_refl _) _;have Hue:=hid hue;have hAR:=hid (N8 u.it.2);clear hc1 hue hum hu1 hu2 hu3 hu4;obtain⟨eb,hub⟩:∃eb,u.it.2=eb:=⟨_,rfl⟩
   have Hub:=hid hub;rw[hub] at hX hbX hAR hul c1 c2;clear hub;have hB1:=RS.bytes ⟨eb,false⟩ 1;have hT1:=(bi ⟨eb,false⟩ 1 (by decide)).le;have hc1:=fun W0 h0=>mr B wr.heap.size ⟨eb,false⟩ 1 W0 h0 (by dsimp only;omega);clear hB1;generalize RS.bytes ⟨eb,false⟩ 1=r1 at *;obtain⟨y1,e1⟩:=r1;dsimp only at hT1 hc1 hAR;have hc2:=fun W0 h0=>mr B wr.heap.size e1 2 W0 h0 (by omega);have hT2:=(bi e1 2 (by decide)).le;generalize RS.bytes e1 2=r2 at *;obtain⟨y2,e2⟩:=r2;dsimp only at hT2 hc2 hAR;go_upto_region 7 with fail;generalize hg:wr.alloc _=W3 at *;have hzA:W3.heap.size=wr.heap.size+1:=by rw[<-hg];simp
   clear hg;go_upto_region 8 with (refine zNr rfl ?_;go_simp);generalize hg:W3.alloc _=W4;have hbA:Below W3.heap.size W3 W4:=by rw[<-hg];exact (Below.refl _ _).alloc (Nat.le_refl _) _
   have kA:W4.heap[W3.heap.size]?=some (bP (⟨#[]⟩,⟨#[]⟩)):=by rw[<-hg];show (W3.heap.push _)[W3.heap.size]?=some _;exact Array.getElem?_push_size
   have hX4:=hX.later hbA;have hb4:Below wr.heap.size wr W4:=hbX.trans (hbA.mono (by omega));rw[hzA] at kA;clear hg hbA hX hbX;go_wp2_with fail;refine (hc1 W4 hX4).mono ?_;rintro e W5 ⟨rfl,hX5,hg5⟩;have kA5:W5.heap[wr.heap.size+1]?=some (bP (⟨#[]⟩,⟨#[]⟩)):=(hg5.block _ (Array.getElem?_eq_some_iff.1 kA).1 (fun e=>by have:=Option.some.inj e;omega)).trans kA;have hb5:Below wr.heap.size wr W5:=hb4.trans (below_of_grown hg5 (Nat.le_refl _) hX4.lt);obtain⟨g0,g1⟩:=lT kA5;have g2:∀i,W5.frozen? ⟨wr.heap.size+1,i,none⟩=false:=fun i=>by simp[World.frozen?,kA5,bP]
   have kA6:(W5.setCell ⟨wr.heap.size+1,0,none⟩ (.string ⟨y1.toArray⟩)).heap[wr.heap.size+1]?=some (bP (⟨y1.toArray⟩,⟨#[]⟩)):=at_set kA5;have hX6:=hX5.grown (ak W5 (wr.heap.size+1) 0 (.string ⟨y1.toArray⟩)) kA5 (fun c fr h=>by cases h) (by omega) (by omega);have hb6:Below wr.heap.size wr (W5.setCell ⟨wr.heap.size+1,0,none⟩ (.string ⟨y1.toArray⟩)):=hb5.setCell (p:=⟨wr.heap.size+1,0,none⟩) (by show wr.heap.size<=wr.heap.size+1;omega) _;clear hc1 hX4 hb4 kA hX5 hg5 hb5;go_upto_region 9 with fail;generalize W5.setCell _ _=W6 at *;clear kA5 g0 g1 g2;go_wp2_with fail;refine (hc2 W6 hX6).mono ?_;rintro e W7 ⟨rfl,hX7,hg7⟩;have kA7:W7.heap[wr.heap.size+1]?=some (bP (⟨y1.toArray⟩,⟨#[]⟩)):=(hg7.block _ (Array.getElem?_eq_some_iff.1 kA6).1 (fun e=>by have:=Option.some.inj e;omega)).trans kA6;have hb7:Below wr.heap.size wr W7:=hb6.trans (below_of_grown hg7 (Nat.le_refl _) hX6.lt);obtain⟨g0,g1⟩:=lT kA7;have g2:∀i,W7.frozen? ⟨wr.heap.size+1,i,none⟩=false:=fun i=>by simp[World.frozen?,kA7,bP]
   have kA8:(W7.setCell ⟨wr.heap.size+1,1,none⟩ (.string ⟨y2.toArray⟩)).heap[wr.heap.size+1]?=some (bP (⟨y1.toArray⟩,⟨y2.toArray⟩)):=at_set kA7;have hX8:=hX7.grown (ak W7 (wr.heap.size+1) 1 (.string ⟨y2.toArray⟩)) kA7 (fun c fr h=>by cases h) (by omega) (by omega);have hb8:Below wr.heap.size wr (W7.setCell ⟨wr.heap.size+1,1,none⟩ (.string ⟨y2.toArray⟩)):=hb7.setCell (p:=⟨wr.heap.size+1,1,none⟩) (by show wr.heap.size<=wr.heap.size+1;omega) _;clear hc2 hX6 hb6 kA6 hX7 hg7 hb7;go_upto_region 10 with fail;generalize W7.setCell _ _=W8 at *;clear kA7 g0 g1 g2;have own8:=ag own hb8;have hr8:=hr2.later hb8;have hg8:W.grownBy W8 (some g):=bg hg2 (gp hb8 _);have hbr8:=hbr.trans (hb8.mono hbr.size);go_wp2_with fail;refine (kH _ _ e2 W8 hX8).mono ?_;rintro e W9 ⟨rfl,rfl⟩;by_cases hdone:e2.bad=false/\e2.l=[]
   ·have hy:=hAR.out.1 hdone;have f0:decide (e2.bad=false/\e2.l=[])=true:=decide_eq_true hdone;obtain⟨g0,g1⟩:=lT kA8;have hz8:=hbr8.size;have Hy:=hid hy;clear hy hdone;go_wp2_with (at_builtin;refine fM _ rfl (.tmp 38) (.tmp 40) 32 rfl W1.heap.size 106 (.agg #[.string ⟨#[]⟩,.string ⟨#[]⟩]) 2 32 rF (by decide) _ k (atV ys) rfl own8 1 [.string ⟨y1.toArray⟩,.string ⟨y2.toArray⟩] rfl rfl (fun x hx=>by simp at hx;rcases hx with rfl|rfl<;>rfl) hz8 (by omega) ?_;intro ao' cap' w2 ho2 _ hb3 _);go_roundw
    case rel=>
     refine⟨k+1,ys++[(⟨y1.toArray⟩,⟨y2.toArray⟩)],by omega,by go_num,?_,hbr8.trans hb3,hid ⟨by rw[List.length_append,Hys.out.1];rfl,?_⟩⟩
     ·rw[wH];exact ho2
     rw[List.take_add_one,List.map_append,Hys.out.2,List.getElem?_map,Hue.out];simp only[List.map_cons,List.map_nil,Option.map_some,Option.toList_some];rw[<-Hy.out,Hub.out]
    case measure=>simp[intOf];omega
   have hno:=hAR.out.2 hdone;have f0:decide (e2.bad=false/\e2.l=[])=false:=decide_eq_false hdone;obtain⟨ao9,cap9,h9⟩:=hr8;obtain⟨d0,d1,z0,z1⟩:=fJ h9;have hT:=hTA.out.2 ⟨eb,List.mem_map.2 ⟨u,List.mem_of_getElem? Hue.out,Hub.out⟩,hno⟩;have hF:=h9.fail;clear hno hdone;go_wp2_with fail;go_ret;exact⟨none,0,0,[],⟨s1.l,true⟩,rfl,Rd.nil _ _,Nat.zero_le _,(fun h=>absurd h (Nat.lt_irrefl 0)),⟨_,_,hF⟩,bg hg8 (ak _ _ _ _),hT⟩
  obtain rfl:k=els.length:=by omega
  obtain⟨hy1,hy2⟩:=Hys.out;rw[List.take_of_length_le (by rw[List.length_map];omega)] at hy2;have hT:=hTA.out.1 ys hy2;obtain⟨ao4,cap4,rfl,hrd4⟩:=Rd.of_own own;have hty:=TyX.of_own own;clear hy2;go_wp2_with fail;go_ret;exact⟨ao4,els.length,cap4,ys,s1,rfl,hrd4,hn1,hty,hr2,hg2,hT⟩
structure KeepB (B:Nat)(W W':World):Prop where
 kr:KeepR W W'
 low:∀k,k<B->k<W.heap.size->W'.heap[k]?=W.heap[k]?
theorem KeepB.of_below {B:Nat}{a b:World}(h:Below a.heap.size a b):KeepB B a b:=⟨KeepR.of_below h,fun k _ h2=>h.block k h2⟩
theorem TyB.kpb {B:Nat}{a b:World}{ao:Option Addr}{cap:Nat}(hy:TyB B a ao cap)(hk:KeepB B a b):TyB B b ao cap:=fun h0 x hx=>by
 rcases hy h0 x hx with h1 | ⟨c,fr,h1⟩
 ·exact .inl h1
 exact .inr ⟨c,fr,hk.kr.rows _ _ _ _ (.inl rfl) h1⟩
theorem jw {B:Nat}{a b:World}{ao:Option Addr}{n cap:Nat}{xs:List Value}(h:Rd a 1 ao n cap xs)(hy:TyB B a ao cap)(hk:KeepB B a b):Rd b 1 ao n cap xs:=by
 obtain⟨h1,h2,h3,h4,h5⟩:=h;refine⟨h1,h2,h3,h4,fun h0 x hx=>?_⟩;obtain⟨s1,l,c⟩:=h5 h0 x hx;have he:b.heap[x.block]?=a.heap[x.block]?:=by
  rcases hy h0 x hx with h6 | ⟨c',fr,h6⟩
  ·exact hk.low _ h6 l
  exact (hk.kr.rows _ _ _ _ (.inl rfl) h6).trans h6.symm
 exact⟨s1,Nat.lt_of_lt_of_le l hk.kr.size,fun j u hu=>(World.cell?_of_block (a:=⟨x.block,x.off+j,none⟩) he).trans (c j u hu)⟩
structure OpTyB (B:Nat)(W:World)(v:OV):Prop where
 a:TyX 106 W v.ao v.ac
 b:TyX 9 W v.bo v.bc
 c:TyB B W v.co v.cc
theorem OpTyB.kpb {B:Nat}{a b:World}{v:OV}(h:OpTyB B a v)(hk:KeepB B a b):OpTyB B b v:=⟨h.a.kpr (.inr (.inr rfl)) hk.kr,h.b.kpr (.inr (.inl rfl)) hk.kr,TyB.kpb h.c hk⟩
theorem OpAt.kpb {B:Nat}{a b:World}{v:OV}{c:OC}(h:OpAt a v c)(hy:OpTyB B a v)(hk:KeepB B a b):OpAt b v c:=
 ⟨ku (.inr (.inr rfl)) h.a hy.a hk.kr,ku (.inr (.inl rfl)) h.b hy.b hk.kr,jw h.c hy.c hk,h.la,h.lb,h.lc⟩
structure OfGo (B g ob:Nat)(w:World)(b:List UInt8)(v:OV)(c:OC)(ls:List UInt8)(s:RS)(wr:World):Prop where
 bel:Below w.heap.size w wr
 box:InO ob v wr
 rd:RfS B g s wr
 at_:OpAt wr v c
 ty:OpTyB B wr v
 part:Part b v c ls s
theorem KT {B g:Nat}{s:RS}{wr w1:World}(hr:RfS B g s wr)(hg:wr.grownBy w1 (some g)):KeepB B wr w1:=by
 have hle:=hr.le;refine⟨KeepR.of_belX (BelX.of_grown hg) (fun k hk=>?_),fun k h1 h2=>hg.block k h2 (fun e=>by have:=Option.some.inj e;omega)⟩;rw[List.mem_singleton.1 hk];obtain⟨_,_,h⟩:=hr;refine⟨_,h.at_,fun c t fr ht e=>?_⟩;cases e;rcases ht with h | h | h<;>exact absurd h (by decide)
theorem LG {B ob i:Nat}{v:OV}{w1:World}{x:Value}(hb:InO ob v w1)(hB:B<=ob):KeepB B w1 (w1.setCell ⟨ob,i,none⟩ x):=⟨Dh hb,fun k h1 _=>Below.heap_setCell _ _ _ _ (by show k≠ob;omega)⟩
theorem OfGo.next {B g ob:Nat}{w:World}{b:List UInt8}{v v':OV}{c c':OC}{ls ls':List UInt8}{s s':RS}{wr w1:World}{i:Nat}{x:Value}(h:OfGo B g ob w b v c ls s wr)(hg:wr.grownBy w1 (some g))(hr:RfS B g s' w1)(hgw:w.heap.size<=g)(how:w.heap.size<=ob)(hgo:g≠ob)(hBo:B<=ob)
  (hbox:(match v.box with | .cells cs t fr=>Obj.cells (cs.setIfInBounds i x) t fr | o=>o)=v'.box) (ha:OpAt w1 v' c') (ht:OpTyB B w1 v') (hp:Part b v' c' ls' s'):OfGo B g ob w b v' c' ls' s' (w1.setCell ⟨ob,i,none⟩ x):=by
 have hb1:InO ob v w1:=h.box.grown hg (fun e=>hgo (Option.some.inj e).symm);have hk:=LG (i:=i) (x:=x) hb1 hBo;refine⟨(h.bel.trans (below_of_grown hg hgw h.rd.lt)).setCell how x,?_,hr.grown (ak _ _ _ _) hb1 (fun c fr h=>by cases h) hgo hBo,ha.kpb ht hk,ht.kpb hk,hp⟩;have h2:=at_set (i:=i) (x:=x) hb1;unfold InO;rw[<-hbox];exact h2
theorem OfGo.kept {B g:Nat}{w:World}{b:List UInt8}{v:OV}{c:OC}{ls:List UInt8}{s:RS}{wr w1:World}{ob:Nat}(h:OfGo B g ob w b v c ls s wr)(hg:wr.grownBy w1 (some g)):OpAt w1 v c/\OpTyB B w1 v:=⟨h.at_.kpb h.ty (KT h.rd hg),h.ty.kpb (KT h.rd hg)⟩
theorem OfGo.later {B g ob:Nat}{w:World}{b:List UInt8}{v:OV}{c:OC}{ls:List UInt8}{s:RS}{wr w1:World}(h:OfGo B g ob w b v c ls s wr)(hb:Below wr.heap.size wr w1):OfGo B g ob w b v c ls s w1:=
 ⟨h.bel.trans (hb.mono h.bel.size),h.box.step hb,h.rd.later hb,h.at_.later hb,h.ty.kpb (KeepB.of_below hb),h.part⟩
theorem rY (ys:List ByteArray):bJ ys=aJ 1 (ys.map fun y=>y.data.toList):=by
 unfold bJ aJ;rw[List.flatMap_map]
theorem ES {s s1:RS}{L:List (List UInt8)}{t:UInt8}(T:Took (fun L=>val t (aJ 1 L)) (fun L=>(aJ 1 L).length<=4194304) (fun L=>(aJ 1 L).length<=4194304) s L s1)(ys:List ByteArray)(hy:ys.map (fun y=>y.data.toList)=L) :
  Took (fun ys=>val t (bJ ys)) (fun ys=>ys.length<=8/\(bJ ys).length<=4194304) (fun ys=>(bJ ys).length<=4194304) s ys s1:=by
 refine⟨fun hb=>?_,fun hb=>(T.no hb).imp id (fun h zs r hz=>?_),T.le⟩
 ·rw[rY,hy];exact T.yes hb
 rw[rY];exact h _ r (by rw[<-rY];exact hz.2)
structure PaAt (ob:Nat)(V:OV)(b1 o1:Nat)(u:El)(W:World):Prop where
 box:InO ob V W
 cell:W.cell? ⟨b1,o1,none⟩=some (.slice u.ao u.it.2.length u.cap)
 rd:Rd W 1 u.ao u.it.2.length u.cap (byV u.it.2)
theorem PaAt.step {ob:Nat}{V:OV}{b1 o1:Nat}{u:El}{W W':World}(h:PaAt ob V b1 o1 u W)(hb:Below W.heap.size W W'):PaAt ob V b1 o1 u W':=⟨h.box.step hb,dI hb h.cell,h.rd.later hb⟩
theorem PaAt.low {B ob:Nat}{V:OV}{b1 o1:Nat}{u:El}{W W':World}(h:PaAt ob V b1 o1 u W)(hb:Below B W W')(h1:ob<B)(h2:b1<B)(h3:0<u.cap->∀a,u.ao=some a->a.block<B):PaAt ob V b1 o1 u W':=⟨(hb.block _ h1).trans h.box,(hb.cell (p:=⟨b1,o1,none⟩) h2).trans h.cell,h.rd.below hb h3⟩
def dw (j:Nat)(k:Int):List UInt8:=(fieldsOf k).filter fun x=>decide ((if x=110 then 1 else if x=116 then 2 else if x=97 then 3 else if x=112 then 4 else if x=99 then 5 else 6)<=j)
theorem NG (k:Int):dw 0 k=[]:=by
 unfold dw;rw[List.filter_eq_nil_iff];intro x _
 repeat' split
 all_goals simp
structure OfSt (B g ob:Nat)(w:World)(b:List UInt8)(kn j:Nat)(v:OV)(c:OC)(s:RS)(W:World):Prop where
 ho:OfGo B g ob w b v c (dw j kn) s W
 hk:v.k=(kn:Int)
 nil:j<4->v.bo=none/\v.bn=0/\v.bc=0
theorem OfSt.up {B g ob:Nat}{w:World}{b:List UInt8}{kn j j':Nat}{v:OV}{c:OC}{s:RS}{W:World}(h:OfSt B g ob w b kn j v c s W)(e:dw j' kn=dw j kn)(hj:j<=j'):OfSt B g ob w b kn j' v c s W:=
 ⟨e▸h.ho,h.hk,fun h2=>h.nil (by omega)⟩
theorem Ih (B:Nat)(b:List UInt8)(ao:Option Addr)(n cap:Nat)(w:World)(hr:Rd w 1 ao n cap (byV b))(hB:B<=w.heap.size)(hty:TyB B w ao cap)(hn:n<=100000000) :
  Calls Tryz.prog 131 #[.slice ao n cap] w (CY (OpTyB B) (.bool true) (.bool false) b w):=by
 have hmo:Tryz.prog.follows .mixedOrders=true:=by kernel_rfl
 have hbn:b.length=n:=by have:=hr.1;rw[aP] at this;omega
 have hb0:Below w.heap.size w (w.alloc zeroV.box):=(Below.refl _ _).alloc (Nat.le_refl _) _;have k0:(w.alloc zeroV.box).heap[w.heap.size]?=some zeroV.box:=by show (w.heap.push _)[w.heap.size]?=some _;exact Array.getElem?_push_size
 have hz0:(w.alloc zeroV.box).heap.size=w.heap.size+1:=by simp
 have hr0:=hr.later hb0;have ht0:=hty.later hb0;unfold zeroV OV.box at hb0 k0 hz0 hr0 ht0;dsimp only at hb0 k0 hz0 hr0 ht0;clear hr hty;go_in;go_upto_region 1 with fail;generalize hg:w.alloc _=W0 at *;have k0f:W0.heap[w.heap.size]?=some zeroV.box:=k0;clear hg k0;subst hbn;have hBW0:B<=W0.heap.size:=Nat.le_trans hB hb0.size;have hR:=nI hr0 hBW0 ht0;have hbR:Below W0.heap.size W0 (W0.alloc (.cells #[.slice ao b.length cap,.bool false] 119)):=(Below.refl _ _).alloc (Nat.le_refl _) _;go_upto_region 2 with fail;generalize hg:W0.alloc _=W1 at *;have hz1:W1.heap.size=W0.heap.size+1:=by rw[<-hg];simp
 clear hg;go_upto_region 3 with (refine zNr rfl ?_;go_simp);generalize hg:W1.alloc _=W2;have e2:W1.alloc zeroV.box=W2:=hg;have hb2:Below W1.heap.size W1 W2:=by rw[<-e2];exact (Below.refl _ _).alloc (Nat.le_refl _) _
 have kb:InO W1.heap.size zeroV W2:=by rw[<-e2];show (W1.heap.push _)[W1.heap.size]?=some _;exact Array.getElem?_push_size
 have hR2:=hR.later hb2;have hbel2:Below W0.heap.size W0 W2:=hbR.trans (hb2.mono (by omega));clear hg e2 hb2 hR hbR hr0 ht0;rw[hz0] at hR2;rw[hz1,hz0] at kb;clear hz1;have T:=iC ⟨b,false⟩ 1 (by decide);go_wp2_with fail;generalize hgq:w.heap.size+1=g at *;generalize hobq:g+1=ob at *;have hg0:W0.heap.size<=g:=by omega
 have hob:W0.heap.size<=ob:=by omega
 have hgo:g≠ob:=by omega
 have hrbg:w.heap.size<g:=by omega
 have hrw:w.heap.size<W0.heap.size:=by omega
 clear hgq hobq;have hBo:B<=ob:=Nat.le_trans hBW0 hob;have hnum:=jD B g ⟨b,false⟩ 1 W2 hR2 (by dsimp only;omega);generalize RS.num ⟨b,false⟩ 1=nm at *;obtain⟨kn,s0⟩:=nm;dsimp only at T hnum;refine hnum.mono ?_;rintro e W3 ⟨rfl,hR3,hg3⟩;have hbel3:Below W0.heap.size W0 W3:=hbel2.trans (below_of_grown hg3 hg0 hR2.lt);have kb3:InO ob zeroV W3:=kb.grown hg3 (fun e=>hgo (Option.some.inj e).symm);have hfin:∀(W:World),Below W0.heap.size W0 W->∀cs:Array Value,(W.heap[w.heap.size]?=some (.cells zeroV.cells 36 (0,0)))/\(W.setRow w.heap.size cs).heap[w.heap.size]?=some (.cells cs 36)/\Below w.heap.size w (W.setRow w.heap.size cs):=fun W hb cs=>by
  have h1:W.heap[w.heap.size]?=some (.cells zeroV.cells 36 (0,0)):=(hb.block _ hrw).trans k0f;exact⟨h1,bf h1,below_setRow (hb0.trans (hb.mono (Nat.le_of_lt hrw))) (Nat.le_refl _) cs⟩
 clear hnum hbel2 kb hR2 hg3;by_cases hkn:kn<1\/8<kn
 ·have hno:=Part.noKind T (hkn.symm);obtain⟨h1,f1,f2⟩:=hfin W3 hbel3 zeroV.cells;have Hno:=hid hno;clear T hno;by_cases hk1:kn<1
  ·have g0:decide ((kn:Int)<1)=true:=decide_eq_true (by omega);clear hkn hk1;go_wp2_with (first | (refine zLr rfl kb3 ?_;go_simp) | (refine zSr rfl h1 ?_;go_simp));exact bodyPost_ret (w:=W3.setRow w.heap.size zeroV.cells) (az (i:=2) (j:=3) (t:=36) rfl rfl rfl (by kernel_rfl) (by kernel_rfl) f1) rfl ⟨f2,.inr ⟨rfl,Hno.out⟩⟩
  have g0:decide ((kn:Int)<1)=false:=decide_eq_false (by omega);have g1:decide ((8:Int)<(kn:Int))=true:=decide_eq_true (by omega);clear hkn hk1;go_wp2_with (first | (refine zLr rfl kb3 ?_;go_simp) | (refine zSr rfl h1 ?_;go_simp));exact bodyPost_ret (w:=W3.setRow w.heap.size zeroV.cells) (az (i:=2) (j:=3) (t:=36) rfl rfl rfl (by kernel_rfl) (by kernel_rfl) f1) rfl ⟨f2,.inr ⟨rfl,Hno.out⟩⟩
 have hP:=Part.start T (by omega);have ho4:OfGo B g ob W0 b ⟨(kn:Int),⟨#[]⟩,⟨#[]⟩,none,0,0,none,0,0,none,0,0,0⟩ ⟨[],[],[]⟩ [] s0 (W3.setCell ⟨ob,0,none⟩ (.int .i64 (kn:Int))):=by
  refine⟨hbel3.setCell hob _,at_set kb3,hR3.grown (ak _ _ _ _) kb3 (fun c fr h=>by cases h) hgo hBo,?_,?_,hP⟩
  ·exact⟨Rd.nil _ _,Rd.nil _ _,Rd.nil _ _,Nat.zero_le _,Nat.zero_le _,Nat.zero_le _⟩
  exact⟨fun h=>absurd h (Nat.lt_irrefl 0),fun h=>absurd h (Nat.lt_irrefl 0),fun h=>absurd h (Nat.lt_irrefl 0)⟩
 have Ho4:=hid ho4;obtain⟨b0,b1,b2,b3,b4,b5,b6,b7⟩:=au kb3;have hs0:s0.l.length<=100000000:=by have:=T.le;dsimp only at this;omega
 clear T hP ho4 hbel3;have g0:IntKind.i64.wrap (kn:Int)=(kn:Int):=fP _ (by omega) (by omega);have g1:decide ((kn:Int)<1)=false:=decide_eq_false (by omega);have g2:decide ((8:Int)<(kn:Int))=false:=decide_eq_false (by omega);have HKN:=hid hkn;clear hkn;go_upto_region 7 with fail;have hst:OfSt B g ob W0 b kn 0 _ _ s0 _:=⟨by rw[NG];exact Ho4.out,rfl,fun _=>⟨rfl,rfl,rfl⟩⟩
 clear Ho4;generalize W3.setCell _ _=W4 at *;generalize (⟨(kn:Int),⟨#[]⟩,⟨#[]⟩,none,0,0,none,0,0,none,0,0,0⟩:OV)=v at *;generalize (⟨[],[],[]⟩:OC)=c at *;generalize s0=s at *;clear b0 b1 b2 b3 b4 b5 b6 b7 kb3 g0 g1 g2;go_upto_if 27 with fail;have hkk:=HKN.out;go_cut [] from 10 (fun wk=>∃v c s,OfSt B g ob W0 b kn 1 v c s wk)
 case first=>
  obtain⟨ho,hk,hnil⟩:=hst;by_cases hc:kn<=6
  ·have f0:decide ((kn:Int)<=6)=true:=by simp;omega
   obtain⟨more,hf,hx,e5⟩:∃more,fieldsOf (kn:Int)=dw 0 kn++110::more/\110∉dw 0 kn/\dw 1 kn=dw 0 kn++[110]:=by rcases (by omega:kn=1\/kn=2\/kn=3\/kn=4\/kn=5\/kn=6) with rfl|rfl|rfl|rfl|rfl|rfl<;>exact⟨_,rfl,by decide,rfl⟩
   replace hf:=(congrArg fieldsOf hk).trans hf;clear hc hkk;rw[f0];obtain⟨b0,b1,b2,b3,b4,b5,b6,b7⟩:=au ho.box;go_wp2_with fail;have T:=bi s 2 (by decide);have hsl:s.l.length<=100000000:=by have:=ho.part.le;omega
   clear b0 b1 b2 b3 b4 b5 b6 b7;refine (mr B g s 2 _ ho.rd hsl).mono ?_;generalize s.bytes 2=y at *;rintro e W5 ⟨rfl,hr5,hg5⟩;obtain⟨a5,t5⟩:=ho.kept hg5;obtain⟨y,s⟩:=y;dsimp only at T hr5;have hN:=ho.next (v':=v.setName ⟨y.toArray⟩) (c':=c) (i:=1) (x:=.string ⟨y.toArray⟩) hg5 hr5 hg0 hob hgo hBo rfl ⟨a5.a,a5.b,a5.c,a5.la,a5.lb,a5.lc⟩ ⟨t5.a,t5.b,t5.c⟩ (ho.part.name T hf hx);have hb5:=ho.box.grown hg5 (fun e=>hgo (Option.some.inj e).symm);obtain⟨b0,b1,b2,b3,b4,b5,b6,b7⟩:=au hb5;rw[<-e5] at hN;clear ho T hr5 hg5 a5 t5;go_wp2_with fail;go_meet
   case rel=>exact⟨_,_,_,hN,hk,fun _=>hnil (by decide)⟩
  have f0:decide ((kn:Int)<=6)=false:=by simp;omega
  have e:dw 1 kn=dw 0 kn:=by rcases (by omega:kn=7\/kn=8) with rfl|rfl<;>rfl
  clear hc hkk;rw[f0];go_wp2_with fail;go_meet
  case rel=>exact⟨v,c,s,OfSt.up ⟨ho,hk,hnil⟩ e (by decide)⟩
 obtain⟨v,c,s,hst⟩:=hcut;go_upto_if 32 with fail;have hkk:=HKN.out;go_cut [] from 10 (fun wk=>∃v c s,OfSt B g ob W0 b kn 2 v c s wk)
 case first=>
  obtain⟨ho,hk,hnil⟩:=hst;by_cases hc:kn=4
  ·have f0:((kn:Int)==4)=true:=by simp;omega
   obtain⟨more,hf,hx,e5⟩:∃more,fieldsOf (kn:Int)=dw 1 kn++116::more/\116∉dw 1 kn/\dw 2 kn=dw 1 kn++[116]:=by rcases (by omega:kn=4) with rfl<;>exact⟨_,rfl,by decide,rfl⟩
   replace hf:=(congrArg fieldsOf hk).trans hf;clear hc hkk;rw[f0];obtain⟨b0,b1,b2,b3,b4,b5,b6,b7⟩:=au ho.box;go_wp2_with fail;have T:=bi s 3 (by decide);have hsl:s.l.length<=100000000:=by have:=ho.part.le;omega
   clear b0 b1 b2 b3 b4 b5 b6 b7;refine (mr B g s 3 _ ho.rd hsl).mono ?_;generalize s.bytes 3=y at *;rintro e W5 ⟨rfl,hr5,hg5⟩;obtain⟨a5,t5⟩:=ho.kept hg5;obtain⟨y,s⟩:=y;dsimp only at T hr5;have hN:=ho.next (v':=v.setTo ⟨y.toArray⟩) (c':=c) (i:=2) (x:=.string ⟨y.toArray⟩) hg5 hr5 hg0 hob hgo hBo rfl ⟨a5.a,a5.b,a5.c,a5.la,a5.lb,a5.lc⟩ ⟨t5.a,t5.b,t5.c⟩ (ho.part.to_ T hf hx);have hb5:=ho.box.grown hg5 (fun e=>hgo (Option.some.inj e).symm);obtain⟨b0,b1,b2,b3,b4,b5,b6,b7⟩:=au hb5;rw[<-e5] at hN;clear ho T hr5 hg5 a5 t5;go_wp2_with fail;go_meet
   case rel=>exact⟨_,_,_,hN,hk,fun _=>hnil (by decide)⟩
  have f0:((kn:Int)==4)=false:=by simp;omega
  have e:dw 2 kn=dw 1 kn:=by rcases (by omega:kn=1\/kn=2\/kn=3\/kn=5\/kn=6\/kn=7\/kn=8) with rfl|rfl|rfl|rfl|rfl|rfl|rfl<;>rfl
  clear hc hkk;rw[f0];go_wp2_with fail;go_meet
  case rel=>exact⟨v,c,s,OfSt.up ⟨ho,hk,hnil⟩ e (by decide)⟩
 obtain⟨v,c,s,hst⟩:=hcut;go_upto_region 11 with fail;obtain⟨d1,hd1⟩:∃d,((kn:Int)==1)=d:=⟨_,rfl⟩
 obtain⟨d3,hd3⟩:∃d,((kn:Int)==3)=d:=⟨_,rfl⟩
 obtain⟨d5,hd5⟩:∃d,((kn:Int)==5)=d:=⟨_,rfl⟩
 go_cut [45] from 10 (fun x wk=>x=.bool (d1||d3||d5)/\OfSt B g ob W0 b kn 2 v c s wk)
 case first=>
  cases d1<;>cases d3<;>cases d5
  all_goals
   go_wp2_with fail;go_meet
   case rel=>exact⟨rfl,hst⟩
 obtain⟨rfl,hst⟩:=hcut;have hdd:(d1||d3||d5)=decide (kn=1\/kn=3\/kn=5):=by rw[<-hd1,<-hd3,<-hd5,Bool.eq_iff_iff];simp;omega
 rw[hdd];clear hd1 hd3 hd5 hdd;go_upto_if 45 with fail;have hkk:=HKN.out;go_cut [] from 10 (fun wk=>∃v c s,OfSt B g ob W0 b kn 3 v c s wk)
 case first=>
  obtain⟨ho,hk,hnil⟩:=hst;by_cases hc:kn=1\/kn=3\/kn=5
  ·have f0:decide (kn=1\/kn=3\/kn=5)=true:=by simp;omega
   obtain⟨more,hf,hx,e5⟩:∃more,fieldsOf (kn:Int)=dw 2 kn++97::more/\97∉dw 2 kn/\dw 3 kn=dw 2 kn++[97]:=by rcases (by omega:kn=1\/kn=3\/kn=5) with rfl|rfl|rfl<;>exact⟨_,rfl,by decide,rfl⟩
   replace hf:=(congrArg fieldsOf hk).trans hf;clear hc hkk;rw[f0];obtain⟨b0,b1,b2,b3,b4,b5,b6,b7⟩:=au ho.box;go_wp2_with fail;have hsl:s.l.length<=100000000:=by have:=ho.part.le;omega
   clear b0 b1 b2 b3 b4 b5 b6 b7;refine (qO B g s 4 _ (by decide) ho.rd hsl).mono ?_;rintro e W5 ⟨ao5,n5,cap5,xs5,s5,rfl,hrd5,hn5,hty5,hr5,hg5,T⟩;obtain⟨a5,t5⟩:=ho.kept hg5;have hN:=ho.next (v':=v.setAttrs ao5 n5 cap5) (c':=⟨xs5,c.parts,c.cursor⟩) (i:=3) (x:=.slice ao5 n5 cap5) hg5 hr5 hg0 hob hgo hBo rfl ⟨hrd5,a5.b,a5.c,(by show n5<=_;omega),a5.lb,a5.lc⟩ ⟨hty5,t5.b,t5.c⟩ (ho.part.attrs T hf hx);have hb5:=ho.box.grown hg5 (fun e=>hgo (Option.some.inj e).symm);obtain⟨b0,b1,b2,b3,b4,b5,b6,b7⟩:=au hb5;rw[<-e5] at hN;clear ho T hr5 hg5 a5 t5;go_wp2_with fail;go_meet
   case rel=>exact⟨_,_,_,hN,hk,fun _=>hnil (by decide)⟩
  have f0:decide (kn=1\/kn=3\/kn=5)=false:=by simp;omega
  have e:dw 3 kn=dw 2 kn:=by rcases (by omega:kn=2\/kn=4\/kn=6\/kn=7\/kn=8) with rfl|rfl|rfl|rfl|rfl<;>rfl
  clear hc hkk;rw[f0];go_wp2_with fail;go_meet
  case rel=>exact⟨v,c,s,OfSt.up ⟨ho,hk,hnil⟩ e (by decide)⟩
 obtain⟨v,c,s,hst⟩:=hcut;go_upto_if 50 with fail;have hkk:=HKN.out;go_cut [] from 10 (fun wk=>∃v c s,OfSt B g ob W0 b kn 4 v c s wk)
 case first=>
  obtain⟨ho,hk,hnil⟩:=hst;by_cases hc:kn=7
  ·have f0:((kn:Int)==7)=true:=by simp;omega
   obtain⟨more,hf,hx,e5⟩:∃more,fieldsOf (kn:Int)=dw 3 kn++112::more/\112∉dw 3 kn/\dw 4 kn=dw 3 kn++[112]:=by rcases (by omega:kn=7) with rfl<;>exact⟨_,rfl,by decide,rfl⟩
   replace hf:=(congrArg fieldsOf hk).trans hf;clear hc hkk;rw[f0];have hnil:=hnil (by decide);obtain⟨b0,b1,b2,b3,b4,b5,b6,b7⟩:=au ho.box;go_wp2_with fail;have hsl:s.l.length<=100000000:=by have:=ho.part.le;omega
   clear b0 b1 b2 b3 b4 b5 b6 b7;refine (nR B g s 5 1 _ (by decide) (by decide) ho.rd hsl).mono ?_;rintro e W5 ⟨ao5,cap5,els,s5,rfl,hrd5,hall5,hfr5,hn5,hel5,hr5,hg5,T⟩;obtain⟨a5,t5⟩:=ho.kept hg5;have hb5:=ho.box.grown hg5 (fun e=>hgo (Option.some.inj e).symm);have hbel5:=ho.bel.trans (below_of_grown hg5 hg0 ho.rd.lt);rw[zD hnil.1 hnil.2.1 hnil.2.2] at hb5;have hop5:=ho.part;have hbs:=(Array.getElem?_eq_some_iff.1 hb5).1;have hobx:∀k∈[ob],∃o,W5.heap[k]?=some o/\∀(c:Array Value) (t:TypeId) (fr:Nat×Nat),(t=5\/t=9\/t=106)->o≠.cells c t fr:=fun k hk=>by
    rw[List.mem_singleton.1 hk];refine⟨_,hb5,fun c t fr ht e=>?_⟩;cases e;rcases ht with h | h | h<;>exact absurd h (by decide)
   have hobx8:∀k∈[ob],∃o,W5.heap[k]?=some o/\∀c fr,o≠.cells c 5 fr:=fun k hk=>by
    obtain⟨o,h1,h2⟩:=hobx k hk;exact⟨o,h1,fun c fr=>h2 c _ fr (.inl rfl)⟩
   have ho0:W5.ownsRow W5.heap.size 9 1 (.slice none 0 0) 0 (txV []):=World.ownsRow_nil _ _ _ _;have hobW:=(Array.getElem?_eq_some_iff.1 ho.box).1;clear ho hg5;go_wp2_with fail;go_loopw [8] (fun p wr=>∃(k:Nat) (l:List ByteArray) (a:Option Addr) (q:Nat),k<=els.length/\p=.int .i64 (k:Int)/\InO ob (v.parts a k q) wr/\wr.ownsRow W5.heap.size 9 1 (.slice a k q) k (txV l)/\BelX W5.heap.size [ob] W5 wr/\Hid (l.length=k/\l.map (fun y=>y.data.toList)=(els.map fun x=>x.it.2).take k)) (fun p _=>els.length-(intOf p).toNat)
   case atStart=>exact⟨0,[],none,0,Nat.zero_le _,rfl,hb5,ho0,BelX.refl _ _ _,hid ⟨rfl,rfl⟩⟩
   case round=>
    obtain⟨k,l,a,q,hk5,rfl,hbx,own,hX,Hl⟩:=hrel;have hK:KeepB B W5 wr:=⟨KeepR.of_belX hX hobx,fun k h1 h2=>hX.block k h2 (by simp only[List.mem_singleton];omega)⟩
    by_cases hkn:k<els.length
    ·obtain⟨b1,o1,rfl,hl1,hc1⟩:=hrd5.some (by have:=hrd5.le;omega);obtain⟨u,hue⟩:∃u,els[k]?=some u:=⟨_,List.getElem?_eq_getElem hkn⟩
     have hum:=List.mem_of_getElem? hue;obtain⟨hu1,hu2⟩:=hall5 u hum;have hb1o:b1≠ob:=by have:=hfr5 _ rfl;dsimp only at this;omega
     have c1:wr.cell? ⟨b1,o1+k,none⟩=some (.slice u.ao u.it.2.length u.cap):=(World.cell?_of_block (a:=⟨b1,o1+k,none⟩) (hX.block b1 hl1 (by simpa using hb1o))).trans (hc1 k _ (qU els k u hue));have hu3:Rd wr 1 u.ao u.it.2.length u.cap (byV u.it.2):=jw hu1 hu2 hK;have hu4:TyB B wr u.ao u.cap:=TyB.kpb hu2 hK;obtain⟨V,hV⟩:∃V:OV,v.parts a k q=V:=⟨_,rfl⟩
     have hVn:V.bn=k:=by rw[<-hV];rfl
     have HV:=hid hV;rw[hV] at hbx;have own1:wr.ownsRow W5.heap.size 9 1 (.slice V.bo V.bn V.bc) V.bn (txV l):=by rw[<-hV];exact own
     have HVn:=hid hVn;have Hue:=hid hue;have i0:(0:Int)<=(k:Int):=by omega
     have i1:(k:Int)<(els.length:Int):=by omega
     have hd:Below wr.heap.size wr wr.drew:=(Below.refl _ _).drew;have hpa:PaAt ob V b1 (o1+k) u wr:=⟨hbx,c1,hu3⟩
     have s0:=hpa.step hd;have x0:=ag own1 hd;have X0:BelX W5.heap.size [ob] W5 wr.drew:=hX.trans ((BelX.of_below hd [ob]).mono hX.size (fun _ hk _=>hk));have z0:=X0.size;have hlo:0<u.cap->∀a,u.ao=some a->a.block<W5.heap.size:=hu2.lt (Nat.le_trans hBo (Nat.le_of_lt hbs));clear hue hum hu1 hu2 hu3 hu4 c1 hc1 hV hVn own own1 hd hpa hbx hX hK;go_upto_region 18 with fail;refine fB (k:=10) (S:=PaAt ob V b1 (o1+k) u) hmo ?_;change dm _ _ _ _ _ _ _ _ _ (World.drew wr);generalize World.drew wr=Wd at *;refine zTp 0 (.pointer (some ⟨ob,4,none⟩)) rfl s0 ?_;go_simp;refine zTa 1 (.slice V.bo V.bn V.bc) rfl (by rintro w h;obtain⟨c0,c1,c2,c3,c4,c5,c6,-⟩:=au h.box;have d0:=h.cell;go_simp) s0 ?_;go_simp;refine zTp 2 (.slice (some ⟨b1,o1,none⟩) els.length cap5) rfl s0 ?_;go_simp;refine zTp 3 (.int .i64 (k:Int)) rfl s0 ?_;go_simp;refine zTa 4 (.pointer (some ⟨b1,o1+k,none⟩)) rfl (by rintro w h;obtain⟨c0,c1,c2,c3,c4,c5,c6,-⟩:=au h.box;have d0:=h.cell;go_simp) s0 ?_;go_simp;refine zTa 5 (.slice u.ao u.it.2.length u.cap) rfl (by rintro w h;obtain⟨c0,c1,c2,c3,c4,c5,c6,-⟩:=au h.box;have d0:=h.cell;go_simp) s0 ?_;go_simp;refine zTa 6 (.string ⟨u.it.2.toArray⟩) rfl (by rintro w h;obtain⟨c0,c1,c2,c3,c4,c5,c6,-⟩:=au h.box;have d0:=h.cell;have hs:=jJ u.ao _ u.cap _ w h.rd;go_simp) s0 ?_;go_simp;refine zT1 7 rfl (fun K hK=>?_);go_simp;generalize hg:Wd.alloc _=W6;have hb2:Below Wd.heap.size Wd W6:=by rw[<-hg];exact (Below.refl _ _).alloc (Nat.le_refl _) _
     have r2:Rd W6 1 (some ⟨Wd.heap.size,0,none⟩) 1 1 [.string ⟨u.it.2.toArray⟩]:=by rw[<-hg];exact Rd.new Wd [.string ⟨u.it.2.toArray⟩] 9 (0,0) 1 1 rfl (by unfold maxLen;omega)
     have s2:=s0.step hb2;have x2:=ag x0 hb2;have X2:BelX W5.heap.size [ob] W5 W6:=X0.trans ((BelX.of_below hb2 [ob]).mono z0 (fun _ hk _=>hk));have z2:=X2.size;clear hg;go_simp;refine hK _ _ ⟨.inr s2,?_⟩;clear hK K;refine zT1 8 rfl (fun K hK=>?_);refine bY rfl (.tmp 60) (.tmp 66) 33 rfl W5.heap.size 9 (.string ⟨#[]⟩) 1 16 xJ (.slice V.bo V.bn V.bc) V.bn (txV l) rfl x2 (some ⟨Wd.heap.size,0,none⟩) 1 1 [.string ⟨u.it.2.toArray⟩] rfl r2 (one1 _ rfl) (by have:=HVn.out;unfold maxLen;omega) (by have:=HVn.out;omega) z2 ?_;intro a3 k3 W7 x3 hg3 hb3 _;have s3:PaAt ob V b1 (o1+k) u W7:=s2.low hb3 hbs hl1 hlo;have X3:BelX W5.heap.size [ob] W5 W7:=X2.trans (BelX.of_below hb3 [ob]);refine hK _ _ ⟨.inr s3,?_⟩;clear hK K;refine zTp 9 (.pointer (some ⟨ob,4,none⟩)) rfl s3 ?_;go_simp;refine dQ (by kernel_rfl) (by kernel_rfl) ?_;refine zA1 10 rfl (fun K hK=>?_);go_simp;obtain⟨c0,c1,c2,c3,c4,c5,c6,c7⟩:=au s3.box;go_simp;refine hK _ _ ?_;clear hK K;refine wpAny_done (by kernel_rfl) ?_ _;have hB:InO ob (V.parts a3 (V.bn+1) k3) (W7.setCell ⟨ob,4,none⟩ (.slice a3 (V.bn+1) k3)):=at_set s3.box;have hX9:BelX W5.heap.size [ob] W5 (W7.setCell ⟨ob,4,none⟩ (.slice a3 (V.bn+1) k3)):=X3.set _ _ _ (.inl (by simp));have hO:(W7.setCell ⟨ob,4,none⟩ (.slice a3 (V.bn+1) k3)).ownsRow W5.heap.size 9 1 (.slice a3 (V.bn+1) k3) (V.bn+1) (txV (l++[⟨u.it.2.toArray⟩])):=by
      rw[BM];exact dE x3 (fun k hk=>Below.heap_setCell _ _ _ _ (by have:=(aY x3 hk).1;show k≠ob;omega))
     rw[HVn.out] at hB hO;have hBv:InO ob (v.parts a3 (k+1) k3) (W7.setCell ⟨ob,4,none⟩ (.slice a3 (V.bn+1) k3)):=by
      have e:V.parts a3 (k+1) k3=v.parts a3 (k+1) k3:=by rw[<-HV.out];rfl
      rw[<-e];rw[HVn.out];exact hB
     have hO2:(W7.setCell ⟨ob,4,none⟩ (.slice a3 (V.bn+1) k3)).ownsRow W5.heap.size 9 1 (.slice a3 (k+1) k3) (k+1) (txV (l++[⟨u.it.2.toArray⟩])):=by
      rw[HVn.out];exact hO
     clear s0 s2 s3 x0 x2 x3 X0 X2 X3 z0 z2 hb2 r2 hg3 hb3 hB hO;generalize W7.setCell _ _=W8 at *;go_wp2_with fail;go_roundw
     case rel=>
      refine⟨k+1,l++[⟨u.it.2.toArray⟩],a3,k3,by omega,by go_num,hBv,hO2,hX9,hid ⟨by rw[List.length_append,Hl.out.1];rfl,?_⟩⟩;rw[List.take_add_one,List.map_append,Hl.out.2,List.getElem?_map,Hue.out];rfl
     case measure=>simp[intOf];omega
    obtain rfl:k=els.length:=by omega
    obtain⟨hl1,hl2⟩:=Hl.out;rw[List.take_of_length_le (by rw[List.length_map];omega)] at hl2;have T2:=ES T l hl2;have a6:=a5.kpb t5 hK;have t6:=t5.kpb hK;have hr6:=Rd.of_own_slice own;have hN:OfGo B g ob W0 b (v.parts a els.length q) ⟨c.attrs,l,c.cursor⟩ (dw 3 kn++[112]) s5 wr:=
     ⟨⟨hX.os.trans hbel5.os,hX.tape.trans hbel5.tape,hX.output.trans hbel5.output,Nat.le_trans hbel5.size hX.size,fun k hk=>(hX.block k (Nat.lt_of_lt_of_le hk hbel5.size) (by simp only[List.mem_cons,List.not_mem_nil,or_false];omega)).trans (hbel5.block k hk)⟩,hbx,hr5.belX hX (by simpa using hgo) (fun k hk=>by rw[List.mem_singleton.1 hk];exact hBo) hobx8,⟨a6.a,hr6,a6.c,a6.la,(by show els.length<=_;omega),a6.lc⟩,⟨t6.a,TyX.of_own own,t6.c⟩,hop5.parts T2 hf hx⟩
    have hk6:(v.parts a els.length q).k=(kn:Int):=hk;rw[<-e5] at hN;clear hbx own hX hK Hl T T2 a6 t6 hr6 hop5 hr5 hbel5 a5 t5 hb5 hl2 hall5 hrd5 hobx hobx8 ho0;go_wp2_with fail;go_meet
    case rel=>exact⟨_,_,_,hN,hk6,fun h=>absurd h (by decide)⟩
  have f0:((kn:Int)==7)=false:=by simp;omega
  have e:dw 4 kn=dw 3 kn:=by rcases (by omega:kn=1\/kn=2\/kn=3\/kn=4\/kn=5\/kn=6\/kn=8) with rfl|rfl|rfl|rfl|rfl|rfl|rfl<;>rfl
  clear hc hkk;rw[f0];go_wp2_with fail;go_meet
  case rel=>exact⟨v,c,s,OfSt.up ⟨ho,hk,hnil⟩ e (by decide)⟩
 obtain⟨v,c,s,hst⟩:=hcut;go_upto_if 70 with fail;have hkk:=HKN.out;go_cut [] from 10 (fun wk=>∃v c s,OfSt B g ob W0 b kn 6 v c s wk)
 case first=>
  obtain⟨ho,hk,hnil⟩:=hst;by_cases hc:7<=kn
  ·have f0:decide ((7:Int)<=(kn:Int))=true:=by simp;omega
   obtain⟨more,hf,hx,e5⟩:∃more,fieldsOf (kn:Int)=dw 4 kn++99::more/\99∉dw 4 kn/\dw 5 kn=dw 4 kn++[99]:=by rcases (by omega:kn=7\/kn=8) with rfl|rfl<;>exact⟨_,rfl,by decide,rfl⟩
   obtain⟨more7,hf7,hx7,e6⟩:∃more,fieldsOf (kn:Int)=dw 5 kn++107::more/\107∉dw 5 kn/\dw 6 kn=dw 5 kn++[107]:=by rcases (by omega:kn=7\/kn=8) with rfl|rfl<;>exact⟨_,rfl,by decide,rfl⟩
   replace hf:=(congrArg fieldsOf hk).trans hf;clear hc hkk;rw[f0];obtain⟨b0,b1,b2,b3,b4,b5,b6,b7⟩:=au ho.box;go_wp2_with fail;have T:=bi s 6 (by decide);have hyl:=fC s 6;have hsl:s.l.length<=100000000:=by have:=ho.part.le;omega
   clear b0 b1 b2 b3 b4 b5 b6 b7;refine (fK B g s 6 _ ho.rd hsl).mono ?_;unfold gm;generalize s.bytes 6=y at *;rintro e W5 ⟨hr5,hg5,ao5,cap5,rfl,hrd5,hty5⟩;obtain⟨a5,t5⟩:=ho.kept hg5;obtain⟨y,s⟩:=y;dsimp only at T hr5 hrd5 hyl;have hN:=ho.next (v':=v.setCur ao5 y.length cap5) (c':=⟨c.attrs,c.parts,y⟩) (i:=5) (x:=.slice ao5 y.length cap5) hg5 hr5 hg0 hob hgo hBo rfl ⟨a5.a,a5.b,hrd5,a5.la,a5.lb,(by show y.length<=_;omega)⟩ ⟨t5.a,t5.b,hty5⟩ (ho.part.cur T hf hx);have hb5:=ho.box.grown hg5 (fun e=>hgo (Option.some.inj e).symm);obtain⟨b0,b1,b2,b3,b4,b5,b6,b7⟩:=au hb5;clear ho T hr5 hg5 a5 t5;go_upto_region 21 with fail;generalize W5.setCell _ _=W6 at *;clear b0 b1 b2 b3 b4 b5 b6 b7 hb5;have hk2:(v.setCur ao5 y.length cap5).k=(kn:Int):=hk;rw[<-e5] at hN;generalize v.setCur ao5 y.length cap5=v at *;generalize (⟨c.attrs,c.parts,y⟩:OC)=c at *;have ho:=hN;replace hf7:=(congrArg fieldsOf hk2).trans hf7;obtain⟨b0,b1,b2,b3,b4,b5,b6,b7⟩:=au ho.box;go_wp2_with fail;have T:=lG s 7 1000 (by decide) (by decide);have hle:=mG s 7 1000;have hsl:s.l.length<=100000000:=by have:=ho.part.le;omega
   clear b0 b1 b2 b3 b4 b5 b6 b7;refine (jD B g s 7 _ ho.rd hsl).mono ?_;unfold RS.numM at T hle;generalize s.num 7=y at *;rintro e W5 ⟨rfl,hr5,hg5⟩;obtain⟨a5,t5⟩:=ho.kept hg5;obtain⟨y,s2⟩:=y;dsimp only at T hr5 hle;by_cases h1000:1000<y
   ·rw[if_pos h1000] at T hle;have hP:=ho.part.num T (by omega) hf7 hx7;have Hno:=hid (hP.no rfl);have g0:decide ((1000:Int)<(y:Int))=true:=decide_eq_true (by omega);obtain⟨h1,f1,f2⟩:=hfin W5 (ho.bel.trans (below_of_grown hg5 hg0 ho.rd.lt)) zeroV.cells;clear ho T hr5 hg5 a5 t5 hP hle h1000;go_wp2_with (refine zSr rfl h1 ?_;go_simp;(repeat go_step);exact bodyPost_ret (w:=W5.setRow w.heap.size zeroV.cells) (az (i:=2) (j:=3) (t:=36) rfl rfl rfl (by kernel_rfl) (by kernel_rfl) f1) rfl ⟨f2,.inr ⟨rfl,Hno.out⟩⟩)
   rw[if_neg h1000] at T hle;dsimp only at T hle;have g0:decide ((1000:Int)<(y:Int))=false:=decide_eq_false (by omega);have g1:IntKind.i64.wrap (y:Int)=(y:Int):=fP _ (by omega) (by omega);have hN:=ho.next (v':=v.setN (y:Int)) (c':=c) (i:=6) (x:=.int .i64 (y:Int)) hg5 hr5 hg0 hob hgo hBo rfl ⟨a5.a,a5.b,a5.c,a5.la,a5.lb,a5.lc⟩ ⟨t5.a,t5.b,t5.c⟩ (ho.part.num T hle hf7 hx7);have hb5:=ho.box.grown hg5 (fun e=>hgo (Option.some.inj e).symm);obtain⟨b0,b1,b2,b3,b4,b5,b6,b7⟩:=au hb5;rw[<-e6] at hN;clear ho T hr5 hg5 a5 t5 h1000;go_wp2_with fail;go_meet
   case rel=>exact⟨_,_,_,hN,hk2,fun h=>absurd h (by decide)⟩
  have f0:decide ((7:Int)<=(kn:Int))=false:=by simp;omega
  have e:dw 6 kn=dw 4 kn:=by rcases (by omega:kn=1\/kn=2\/kn=3\/kn=4\/kn=5\/kn=6) with rfl|rfl|rfl|rfl|rfl|rfl<;>rfl
  clear hc hkk;rw[f0];go_wp2_with fail;go_meet
  case rel=>exact⟨v,c,s,OfSt.up ⟨ho,hk,hnil⟩ e (by decide)⟩
 obtain⟨v,c,s,hst⟩:=hcut;obtain⟨ho,hk,-⟩:=hst;have e6:dw 6 kn=fieldsOf v.k:=by rw[hk];have:=HKN.out;rcases (by omega:kn=1\/kn=2\/kn=3\/kn=4\/kn=5\/kn=6\/kn=7\/kn=8) with rfl|rfl|rfl|rfl|rfl|rfl|rfl|rfl<;>rfl
 rw[e6] at ho;generalize wc=W6 at *;obtain⟨b0,b1,b2,b3,b4,b5,b6,b7⟩:=au ho.box;go_wp2_with fail;have hP:=ho.part;have hbox:=ho.box;refine (kH B g s W6 ho.rd).mono ?_;rintro e w5 ⟨rfl,rfl⟩;clear b0 b1 b2 b3 b4 b5 b6 b7 hk;by_cases he:s.bad=false/\s.l=[]
 ·have f0:decide (s.bad=false/\s.l=[])=true:=decide_eq_true he;have hmay:=rJ v c W6 ho.at_;have HE:=hid he;clear he;unfold OV.val at hmay;go_wp2_with (refine zLr rfl hbox ?_;go_simp);refine hmay.mono ?_;rintro e w6 ⟨rfl,hb6⟩;have ho6:=ho.later hb6;have hbox6:=ho6.box;obtain⟨h1,fz1,fz2⟩:=hfin w6 ho6.bel zeroV.cells;obtain⟨_,fv1,fv2⟩:=hfin w6 ho6.bel v.cells;have hkr:KeepB B w6 (w6.setRow w.heap.size v.cells):=by
   refine⟨⟨(below_setRow (Below.refl w.heap.size w6) (Nat.le_refl _) v.cells).size,fun k c t fr ht hk=>?_⟩,fun k h2 _=>setRow_other w6 w.heap.size k v.cells (by omega)⟩;have hne:k≠w.heap.size:=fun e=>by
    subst e;rw[h1] at hk;cases hk;rcases ht with h | h | h<;>exact absurd h (by decide)
   exact (setRow_other w6 w.heap.size k v.cells hne).trans hk
  have ha6:=ho6.at_.kpb ho6.ty hkr;have ht6:=ho6.ty.kpb hkr;cases hm:aF v c with
  | false=>
   have Hno:=hid (hP.notMay HE.out.1 HE.out.2 ho.at_ hm);clear hkr ha6 ht6 hP;go_wp2_with (refine zSr rfl h1 ?_;go_simp;(repeat go_step);exact bodyPost_ret (w:=w6.setRow w.heap.size zeroV.cells) (az (i:=2) (j:=3) (t:=36) rfl rfl rfl (by kernel_rfl) (by kernel_rfl) fz1) rfl ⟨fz2,.inr ⟨rfl,Hno.out⟩⟩)
  | true=>
   have Hyes:=hid (hP.done HE.out.1 HE.out.2);clear hkr hP;go_wp2_with (first | (refine zLr rfl hbox6 ?_;go_simp) | (refine zSr rfl h1 ?_;go_simp;(repeat go_step);exact bodyPost_ret (w:=w6.setRow w.heap.size v.cells) (az (i:=2) (j:=3) (t:=36) rfl rfl rfl (by kernel_rfl) (by kernel_rfl) fv1) rfl ⟨fv2,.inl ⟨v,c,rfl,ha6,ht6,hm,Hyes.out⟩⟩))
 have f0:decide (s.bad=false/\s.l=[])=false:=decide_eq_false he;have Hno:=hid (hP.left (by
  cases hb:s.bad with
  | true=>exact .inl rfl
  | false=>exact .inr (List.length_pos_iff.2 (fun h=>he ⟨hb,h⟩))))
 obtain⟨h1,fz1,fz2⟩:=hfin W6 ho.bel zeroV.cells;clear he hP;go_wp2_with (refine zSr rfl h1 ?_;go_simp;(repeat go_step);exact bodyPost_ret (w:=W6.setRow w.heap.size zeroV.cells) (az (i:=2) (j:=3) (t:=36) rfl rfl rfl (by kernel_rfl) (by kernel_rfl) fz1) rfl ⟨fz2,.inr ⟨rfl,Hno.out⟩⟩)
end Go.Proofs.YtfmmandlmbcncaaGreatDoor.Msg
