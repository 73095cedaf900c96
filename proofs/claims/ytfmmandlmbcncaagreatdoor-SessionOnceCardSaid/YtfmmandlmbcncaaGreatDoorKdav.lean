/-
  A part of the proof.
-/
import Derived.Test.YtfmmandlmbcncaaGreatDoorKdau
set_option maxHeartbeats 40000000
set_option maxRecDepth 100000
namespace Go.Proofs.YtfmmandlmbcncaaGreatDoor.Msg
open Go.RowKit Go.Lib Mem Tlv
theorem je (ys:List (ByteArray×ByteArray)):aC ys=aP 3 (ys.map fU):=by
 unfold aC aP;rw[List.flatMap_map];rfl
theorem zk {o:UInt8}(ho:0<o.toNat){L M:List (List UInt8)}(hL:(aP o L).length<=4194304)(h:aP o L=aP o M):L=M:=by
 have h1:=oU o ho L hL;have h2:=oU o ho M (by rw[<-h];exact hL);rw[h,h2] at h1;have h3:=congrArg (List.map Prod.snd) h1;rw[List.map_map,List.map_map,show (Prod.snd∘fun b:List UInt8=>(o,b))=id from rfl,List.map_id,List.map_id] at h3;exact h3.symm
theorem LV (e:List UInt8):((RS.bytes (RS.bytes ⟨e,false⟩ 1).2 2).2.bad=false/\(RS.bytes (RS.bytes ⟨e,false⟩ 1).2 2).2.l=[]->e=fU (⟨(RS.bytes ⟨e,false⟩ 1).1.toArray⟩,⟨(RS.bytes (RS.bytes ⟨e,false⟩ 1).2 2).1.toArray⟩)) /\
  (¬((RS.bytes (RS.bytes ⟨e,false⟩ 1).2 2).2.bad=false/\(RS.bytes (RS.bytes ⟨e,false⟩ 1).2 2).2.l=[])->BR e):=by
 have T1:=bI ⟨e,false⟩ 1 (by decide);have T2:=bI (RS.bytes ⟨e,false⟩ 1).2 2 (by decide);generalize RS.bytes ⟨e,false⟩ 1=r1 at *;obtain⟨y1,s1⟩:=r1;dsimp only at *;generalize s1.bytes 2=r2 at *;obtain⟨y2,s2⟩:=r2;dsimp only at *;constructor
 ·rintro⟨h1,h2⟩;obtain⟨e1,e2,e3⟩:=T2.yes h1;obtain⟨_,f2,f3⟩:=T1.yes e1;rw[h2,List.append_nil] at e2;dsimp only at f2;rw[f2,e2];rfl
 intro h u hu ee;subst ee;rw[kK] at hu;cases hb1:s1.bad with
 | true=>
  rcases T1.no hb1 with h | h
  ·cases h
  exact h u.1.data.toList (val 2 u.2.data.toList) (by omega) rfl
 | false=>
  obtain⟨_,f2,f3⟩:=T1.yes hb1;dsimp only at f2;unfold fU at f2;obtain⟨_,f4⟩:=ak (t:=1) (by decide) (by omega) f3 f2;cases hb2:s2.bad with
  | true=>
   rcases T2.no hb2 with h | h
   ·rw[hb1] at h;cases h
   exact h u.2.data.toList [] (by omega) (by rw[List.append_nil];exact f4.symm)
  | false=>
   obtain⟨_,g2,g3⟩:=T2.yes hb2;rw[<-f4] at g2;have:=(ak (t:=2) (a:=u.2.data.toList) (b:=y2) (r:=[]) (r':=s2.l) (by decide) (by omega) g3 (by rw[List.append_nil];exact g2)).2;exact h ⟨hb2,this.symm⟩
def NR (B g:Nat)(t:UInt8)(s:RS)(W:World)(e:Ending)(w':World):Prop:=∃ao n cap xs s',e=.returned (.slice ao n cap)/\Rd w' 2 ao n cap (atV xs)/\n<=100000000/\TyX 106 w' ao cap/\RfS B g s' w'/\W.grownBy w' (some g) /\
 Took (fun ys=>val t (aC ys)) (fun ys=>ys.length<=50/\(aC ys).length<=4194304) (fun ys=>(aC ys).length<=4194304) s xs s'
theorem Iy {s s1:RS}{L:List (List UInt8)}{t:UInt8}(T:Took (fun L=>val t (aP 3 L)) (fun L=>(aP 3 L).length<=4194304) (fun L=>(aP 3 L).length<=4194304) s L s1)(ht:0<t.toNat) :
  (∀ys,ys.map fU=L->Took (fun ys=>val t (aC ys)) (fun ys=>ys.length<=50/\(aC ys).length<=4194304) (fun ys=>(aC ys).length<=4194304) s ys s1) /\
  ((∃e∈L,BR e)->Took (fun ys=>val t (aC ys)) (fun ys=>ys.length<=50/\(aC ys).length<=4194304) (fun ys=>(aC ys).length<=4194304) s [] ⟨s1.l,true⟩):=by
 constructor
 ·intro ys hy;refine⟨fun hb=>?_,fun hb=>(T.no hb).imp id (fun h zs r hz=>?_),T.le⟩
  ·rw[je,hy];exact T.yes hb
  rw[je];exact h _ r (by rw[<-je];exact hz.2)
 rintro⟨e,he,hno⟩;refine⟨fun hb=>(by cases hb),fun _=>?_,T.le⟩;cases hb:s1.bad with
 | true=>
  refine (T.no hb).imp id (fun h zs r hz=>?_);rw[je];exact h _ r (by rw[<-je];exact hz.2)
 | false=>
  obtain⟨h1,h2,h3⟩:=T.yes hb;refine .inr fun zs r hz ee=>?_;rw[h2,je] at ee;have h4:=(ak ht h3 (by rw[<-je];exact hz.2) ee).1;have h5:=zk (by decide) h3 h4;rw[h5,List.mem_map] at he;obtain⟨u,hu,rfl⟩:=he;refine hno u ?_ rfl;have h6:∀(zs:List (ByteArray×ByteArray)),u∈zs->(fU u).length<=(aC zs).length:=by
   intro zs;induction zs with
   | nil=>intro h;cases h
   | cons z zs ih=>
    intro h;rw[dK,List.length_append,ae];rcases List.mem_cons.1 h with rfl | h
    ·unfold fU;omega
    have:=ih h;omega
  have:=h6 zs hu;have:=hz.2;omega
theorem wP {B:Nat}{w:World}{l:List UInt8}{ao:Option Addr}{cap:Nat}(hr:Rd w 1 ao l.length cap (byV l))(hB:B<=w.heap.size)(ht:TyB B w ao cap):RfS B w.heap.size ⟨l,false⟩ (w.alloc (.cells #[.slice ao l.length cap,.bool false] 119)):=by
 have hb:Below w.heap.size w (w.alloc (.cells #[.slice ao l.length cap,.bool false] 119)):=(Below.refl _ _).alloc (Nat.le_refl _) _;exact⟨ao,cap,by show (w.heap.push _)[w.heap.size]?=some _;exact Array.getElem?_push_size,hB,hr.later hb,ht.later hb⟩
theorem yE (B g:Nat)(s:RS)(t:UInt8)(W:World)(ht:0<t.toNat)(hr:RfS B g s W)(hl:s.l.length<=100000000) :
  Calls Tryz.prog 160 #[.pointer (some ⟨g,0,none⟩),.int .u8 (t.toNat:Int)] W (NR B g t s W):=by
 have hgs:=hr.lt;have hc:=xu B g s t 3 W ht (by decide) hr hl;have HT:=hid ht;clear ht hr;go_in;go_wp2_with fail;refine hc.mono ?_;rintro e W1 ⟨ao1,cap1,els,s1,rfl,hrd1,hall1,hfr1,hn1,⟨hel,-⟩,hr1,hg1,T⟩;have hTA:=hid (Iy T HT.out);have Hel:=hid hel;have Hall1:=hid hall1;have hz1:=hg1.size;clear T hel hall1;have ho0:W1.ownsRow W1.heap.size 106 2 (.slice none 0 0) 0 (atV []):=World.ownsRow_nil _ _ _ _;go_wp2_with fail;go_loopw [6,7] (fun v p wr=>∃(k:Nat) (ys:List (ByteArray×ByteArray)),k<=els.length/\p=.int .i64 (k:Int)/\wr.ownsRow W1.heap.size 106 2 v k (atV ys)/\Below W1.heap.size W1 wr/\Hid (ys.length=k/\ys.map fU=(els.map fun x=>x.it.2).take k)) (fun _ p _=>els.length-(intOf p).toNat)
 case atStart=>exact⟨0,[],Nat.zero_le _,rfl,ho0,Below.refl _ _,hid ⟨rfl,rfl⟩⟩
 case round=>
  obtain⟨k,ys,hk,rfl,own,hbr,Hys⟩:=hrel;have hr2:=hr1.later hbr;have hg2:W.grownBy wr (some g):=aV hg1 (fG hbr _);by_cases hkn:k<els.length
  ·obtain⟨b1,o1,rfl,hl1,hc1⟩:=hrd1.some (by have:=hrd1.le;omega);obtain⟨u,hue⟩:∃u,els[k]?=some u:=⟨_,List.getElem?_eq_getElem hkn⟩
   have c1:=(hbr.cell (p:=⟨b1,o1+k,none⟩) hl1).trans (hc1 k _ (wX els k u hue));have c2:wr.cell? ⟨b1,o1+k*1,none⟩=some (.slice u.ao u.it.2.length u.cap):=by rw[Nat.mul_one];exact c1
   have hum:=List.mem_of_getElem? hue;have hul:=Hel.out u hum;obtain⟨hu1,hu2⟩:=Hall1.out u hum;have hu3:Rd wr 1 u.ao u.it.2.length u.cap (byV u.it.2):=hu1.later hbr;have hu4:TyB B wr u.ao u.cap:=hu2.later hbr;have hBwr:B<=wr.heap.size:=Nat.le_trans hr2.le (Nat.le_of_lt hr2.lt);have i0:(0:Int)<=(k:Int):=by omega
   have i1:(k:Int)<(els.length:Int):=by omega
   have hX:=wP hu3 hBwr hu4;have hbX:Below wr.heap.size wr (wr.alloc (.cells #[.slice u.ao u.it.2.length u.cap,.bool false] 119)):=(Below.refl _ _).alloc (Nat.le_refl _) _;have Hue:=hid hue;have hAR:=hid (LV u.it.2);clear hc1 hue hum hu1 hu2 hu3 hu4;obtain⟨eb,hub⟩:∃eb,u.it.2=eb:=⟨_,rfl⟩
   have Hub:=hid hub;rw[hub] at hX hbX hAR hul c1 c2;clear hub;have hB1:=RS.bytes ⟨eb,false⟩ 1;have hT1:=(bI ⟨eb,false⟩ 1 (by decide)).le;have hc1:=fun W0 h0=>rF B wr.heap.size ⟨eb,false⟩ 1 W0 h0 (by dsimp only;omega);clear hB1;generalize RS.bytes ⟨eb,false⟩ 1=r1 at *;obtain⟨y1,e1⟩:=r1;dsimp only at hT1 hc1 hAR;have hc2:=fun W0 h0=>rF B wr.heap.size e1 2 W0 h0 (by omega);have hT2:=(bI e1 2 (by decide)).le;generalize RS.bytes e1 2=r2 at *;obtain⟨y2,e2⟩:=r2;dsimp only at hT2 hc2 hAR;go_upto_region 7 with fail;generalize hg:wr.alloc _=W3 at *;have hzA:W3.heap.size=wr.heap.size+1:=by rw[<-hg];simp
   clear hg;go_upto_region 8 with (refine zNr rfl ?_;go_simp);generalize hg:W3.alloc _=W4;have hbA:Below W3.heap.size W3 W4:=by rw[<-hg];exact (Below.refl _ _).alloc (Nat.le_refl _) _
   have kA:W4.heap[W3.heap.size]?=some (bC (⟨#[]⟩,⟨#[]⟩)):=by rw[<-hg];show (W3.heap.push _)[W3.heap.size]?=some _;exact Array.getElem?_push_size
   have hX4:=hX.later hbA;have hb4:Below wr.heap.size wr W4:=hbX.trans (hbA.mono (by omega));rw[hzA] at kA;clear hg hbA hX hbX;go_wp2_with fail;refine (hc1 W4 hX4).mono ?_;rintro e W5 ⟨rfl,hX5,hg5⟩;have kA5:W5.heap[wr.heap.size+1]?=some (bC (⟨#[]⟩,⟨#[]⟩)):=(hg5.block _ (Array.getElem?_eq_some_iff.1 kA).1 (fun e=>by have:=Option.some.inj e;omega)).trans kA;have hb5:Below wr.heap.size wr W5:=hb4.trans (below_of_grown hg5 (Nat.le_refl _) hX4.lt);obtain⟨g0,g1⟩:=lJ kA5;have g2:∀i,W5.frozen? ⟨wr.heap.size+1,i,none⟩=false:=fun i=>by simp[World.frozen?,kA5,bC]
   have kA6:(W5.setCell ⟨wr.heap.size+1,0,none⟩ (.string ⟨y1.toArray⟩)).heap[wr.heap.size+1]?=some (bC (⟨y1.toArray⟩,⟨#[]⟩)):=at_set kA5;have hX6:=hX5.grown (ai W5 (wr.heap.size+1) 0 (.string ⟨y1.toArray⟩)) kA5 (fun c fr h=>by cases h) (by omega) (by omega);have hb6:Below wr.heap.size wr (W5.setCell ⟨wr.heap.size+1,0,none⟩ (.string ⟨y1.toArray⟩)):=hb5.setCell (p:=⟨wr.heap.size+1,0,none⟩) (by show wr.heap.size<=wr.heap.size+1;omega) _;clear hc1 hX4 hb4 kA hX5 hg5 hb5;go_upto_region 9 with fail;generalize W5.setCell _ _=W6 at *;clear kA5 g0 g1 g2;go_wp2_with fail;refine (hc2 W6 hX6).mono ?_;rintro e W7 ⟨rfl,hX7,hg7⟩;have kA7:W7.heap[wr.heap.size+1]?=some (bC (⟨y1.toArray⟩,⟨#[]⟩)):=(hg7.block _ (Array.getElem?_eq_some_iff.1 kA6).1 (fun e=>by have:=Option.some.inj e;omega)).trans kA6;have hb7:Below wr.heap.size wr W7:=hb6.trans (below_of_grown hg7 (Nat.le_refl _) hX6.lt);obtain⟨g0,g1⟩:=lJ kA7;have g2:∀i,W7.frozen? ⟨wr.heap.size+1,i,none⟩=false:=fun i=>by simp[World.frozen?,kA7,bC]
   have kA8:(W7.setCell ⟨wr.heap.size+1,1,none⟩ (.string ⟨y2.toArray⟩)).heap[wr.heap.size+1]?=some (bC (⟨y1.toArray⟩,⟨y2.toArray⟩)):=at_set kA7;have hX8:=hX7.grown (ai W7 (wr.heap.size+1) 1 (.string ⟨y2.toArray⟩)) kA7 (fun c fr h=>by cases h) (by omega) (by omega);have hb8:Below wr.heap.size wr (W7.setCell ⟨wr.heap.size+1,1,none⟩ (.string ⟨y2.toArray⟩)):=hb7.setCell (p:=⟨wr.heap.size+1,1,none⟩) (by show wr.heap.size<=wr.heap.size+1;omega) _;clear hc2 hX6 hb6 kA6 hX7 hg7 hb7;go_upto_region 10 with fail;generalize W7.setCell _ _=W8 at *;clear kA7 g0 g1 g2;have own8:=aF own hb8;have hr8:=hr2.later hb8;have hg8:W.grownBy W8 (some g):=aV hg2 (fG hb8 _);have hbr8:=hbr.trans (hb8.mono hbr.size);go_wp2_with fail;refine (qM _ _ e2 W8 hX8).mono ?_;rintro e W9 ⟨rfl,rfl⟩;by_cases hdone:e2.bad=false/\e2.l=[]
   ·have hy:=hAR.out.1 hdone;have f0:decide (e2.bad=false/\e2.l=[])=true:=decide_eq_true hdone;obtain⟨g0,g1⟩:=lJ kA8;have hz8:=hbr8.size;have Hy:=hid hy;clear hy hdone;go_wp2_with (at_builtin;refine fD _ rfl (.tmp 38) (.tmp 40) 32 rfl W1.heap.size 106 (.agg #[.string ⟨#[]⟩,.string ⟨#[]⟩]) 2 32 mW (by decide) _ k (atV ys) rfl own8 1 [.string ⟨y1.toArray⟩,.string ⟨y2.toArray⟩] rfl rfl (fun x hx=>by simp at hx;rcases hx with rfl|rfl<;>rfl) hz8 (by omega) ?_;intro ao' cap' w2 ho2 _ hb3 _);go_roundw
    case rel=>
     refine⟨k+1,ys++[(⟨y1.toArray⟩,⟨y2.toArray⟩)],by omega,by go_num,?_,hbr8.trans hb3,hid ⟨by rw[List.length_append,Hys.out.1];rfl,?_⟩⟩
     ·rw[wz];exact ho2
     rw[List.take_add_one,List.map_append,Hys.out.2,List.getElem?_map,Hue.out];simp only[List.map_cons,List.map_nil,Option.map_some,Option.toList_some];rw[<-Hy.out,Hub.out]
    case measure=>simp[intOf];omega
   have hno:=hAR.out.2 hdone;have f0:decide (e2.bad=false/\e2.l=[])=false:=decide_eq_false hdone;obtain⟨ao9,cap9,h9⟩:=hr8;obtain⟨d0,d1,z0,z1⟩:=gy h9;have hT:=hTA.out.2 ⟨eb,List.mem_map.2 ⟨u,List.mem_of_getElem? Hue.out,Hub.out⟩,hno⟩;have hF:=h9.fail;clear hno hdone;go_wp2_with fail;go_ret;exact⟨none,0,0,[],⟨s1.l,true⟩,rfl,Rd.nil _ _,Nat.zero_le _,(fun h=>absurd h (Nat.lt_irrefl 0)),⟨_,_,hF⟩,aV hg8 (ai _ _ _ _),hT⟩
  obtain rfl:k=els.length:=by omega
  obtain⟨hy1,hy2⟩:=Hys.out;rw[List.take_of_length_le (by rw[List.length_map];omega)] at hy2;have hT:=hTA.out.1 ys hy2;obtain⟨ao4,cap4,rfl,hrd4⟩:=Rd.of_own own;have hty:=TyX.of_own own;clear hy2;go_wp2_with fail;go_ret;exact⟨ao4,els.length,cap4,ys,s1,rfl,hrd4,hn1,hty,hr2,hg2,hT⟩
structure KeepB (B:Nat)(W W':World):Prop where
 kr:KeepR W W'
 low:∀k,k<B->k<W.heap.size->W'.heap[k]?=W.heap[k]?
theorem TyB.kpb {B:Nat}{a b:World}{ao:Option Addr}{cap:Nat}(hy:TyB B a ao cap)(hk:KeepB B a b):TyB B b ao cap:=fun h0 x hx=>by
 rcases hy h0 x hx with h1 | ⟨c,fr,h1⟩
 ·exact .inl h1
 exact .inr ⟨c,fr,hk.kr.rows _ _ _ _ (.inl rfl) h1⟩
theorem jZ {B:Nat}{a b:World}{ao:Option Addr}{n cap:Nat}{xs:List Value}(h:Rd a 1 ao n cap xs)(hy:TyB B a ao cap)(hk:KeepB B a b):Rd b 1 ao n cap xs:=by
 obtain⟨h1,h2,h3,h4,h5⟩:=h;refine⟨h1,h2,h3,h4,fun h0 x hx=>?_⟩;obtain⟨s1,l,c⟩:=h5 h0 x hx;have he:b.heap[x.block]?=a.heap[x.block]?:=by
  rcases hy h0 x hx with h6 | ⟨c',fr,h6⟩
  ·exact hk.low _ h6 l
  exact (hk.kr.rows _ _ _ _ (.inl rfl) h6).trans h6.symm
 exact⟨s1,Nat.lt_of_lt_of_le l hk.kr.size,fun j u hu=>(World.cell?_of_block (a:=⟨x.block,x.off+j,none⟩) he).trans (c j u hu)⟩
structure OpTyB (B:Nat)(W:World)(v:OV):Prop where
 a:TyX 106 W v.ao v.ac
 b:TyX 9 W v.bo v.bc
 c:TyB B W v.co v.cc
theorem OpTyB.kpb {B:Nat}{a b:World}{v:OV}(h:OpTyB B a v)(hk:KeepB B a b):OpTyB B b v:=⟨h.a.kpr (.inr (.inr rfl)) hk.kr,h.b.kpr (.inr (.inl rfl)) hk.kr,TyB.kpb h.c hk⟩
theorem OpAt.kpb {B:Nat}{a b:World}{v:OV}{c:OC}(h:OpAt a v c)(hy:OpTyB B a v)(hk:KeepB B a b):OpAt b v c:=
 ⟨jI (.inr (.inr rfl)) h.a hy.a hk.kr,jI (.inr (.inl rfl)) h.b hy.b hk.kr,jZ h.c hy.c hk,h.la,h.lb,h.lc⟩
end Go.Proofs.YtfmmandlmbcncaaGreatDoor.Msg
