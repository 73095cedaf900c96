/-A part of the proof.-/
import Derived.Test.YtfmmandlmbcncaaGreatDoorKfaj
set_option maxHeartbeats 40000000
set_option maxRecDepth 100000
set_option linter.all false
namespace Go.Proofs.YtfmmandlmbcncaaGreatDoor
namespace Msg
open Go.RowKit Go.Lib Mem Utf
def fJ (v:OV)(c:OC):Bool:=
 decide (fieldsOf v.k≠[])&&bg v c (bP (fieldsOf v.k) v) (iQ (fieldsOf v.k) c)&&aT v.name&&aT v.to&&decide (v.an<=50)&&decide (v.bn<=8)&&decide (v.cn<=4000)&&decide (0<=v.n)&&decide (v.n<=1000) &&
  (c.attrs.all aQ&&c.parts.all aT&&(!decide (v.k=1)||bI c.attrs)&&(!decide (v.k=5)||decide (v.an=1)))
theorem QS (l:List ByteArray):(!l.any fun u=>!aT u)=l.all aT:=by
 rw[List.all_eq_not_any_not]
theorem NL (l:List (ByteArray×ByteArray)):(!l.any fun u=>!aQ u)=l.all aQ:=by
 rw[List.all_eq_not_any_not]
theorem nN (k:Int):fieldsOf k=[]\/(k=1/\fieldsOf k=[110,97])\/(k=2/\fieldsOf k=[110])\/(k=3/\fieldsOf k=[110,97])\/(k=4/\fieldsOf k=[110,116])\/(k=5/\fieldsOf k=[110,97])\/(k=6/\fieldsOf k=[110])\/(k=7/\fieldsOf k=[112,99,107])\/(k=8/\fieldsOf k=[99,107]):=by
 by_cases h:1<=k/\k<=8
 ·rcases (by omega:k=1\/k=2\/k=3\/k=4\/k=5\/k=6\/k=7\/k=8) with rfl|rfl|rfl|rfl|rfl|rfl|rfl|rfl<;>simp[fieldsOf]
 left;unfold fieldsOf
 repeat rw[if_neg (by omega)]
theorem Jb (v:OV)(c:OC)(W:World)(h:OpAt W v c):fJ v c=aA v c:=by
 have lb:c.parts.length=v.bn:=by have:=h.b.1;rw[ig] at this;omega
 have lc:c.cursor.length=v.cn:=by have:=h.c.1;rw[aV] at this;omega
 unfold fJ aA dX oD;rw[NL,QS];rcases nN v.k with hf | ⟨hk,hf⟩ | ⟨hk,hf⟩ | ⟨hk,hf⟩ | ⟨hk,hf⟩ | ⟨hk,hf⟩ | ⟨hk,hf⟩ | ⟨hk,hf⟩ | ⟨hk,hf⟩
 ·rw[hf];simp
 all_goals
  by_cases hs:bg v c (bP (fieldsOf v.k) v) (iQ (fieldsOf v.k) c)=true
  case neg=>rw[ybs] at hs;rw[hs];simp
  rw[hs];rw[hf] at hs ⊢;have h2:=yar hs;simp[bP,iQ] at h2;rw[ybk];have hn:(0:Int)<=v.n/\v.n<=1000\/¬((0:Int)<=v.n/\v.n<=1000):=by omega
  simp only[hk,<-lb,<-lc,yaq,yaG,Bool.or_eq_true,ybz,ybT];simp[h2]
  try grind
structure MayAt (w:World)(v:OV)(bb:Nat)(W:World):Prop where
 o:W.heap[w.heap.size]?=some v.box
 b:W.heap[bb]?=some (bP (fieldsOf v.k) v).box
 bel:Below w.heap.size w W
theorem MayAt.step {w W W':World}{v:OV}{bb:Nat}(h:MayAt w v bb W)(hb:Below W.heap.size W W'):MayAt w v bb W':=
 ⟨(hb.q h.o),(hb.q h.b),h.bel.trans (hb.mono h.bel.size)⟩
theorem jq (v:OV)(c:OC)(w:World)(ho:OpAt w v c):Calls Tryz.prog 12 #[v.val] w (GivesB (aA v c) w):=by
 rw[<-Jb v c w ho];have la:c.attrs.length=v.an:=by have:=ho.a.1;rw[fG] at this;omega
 have lb:c.parts.length=v.bn:=by have:=ho.b.1;rw[ig] at this;omega
 have LA:=hid la;have LB:=hid lb;clear la lb;have hb0:=bN w v.box;have k0:=aN w v.box
 unfold OV.box at hb0 k0;unfold OV.val;go_in;go_upto_region 1 with fail;generalize hg:w.alloc _=W0 at *;have k0f:W0.heap[w.heap.size]?=some v.box:=k0;clear hg k0;go_wp2_with (refine zLr rfl k0f ?_;go_simp);obtain⟨ok,hok⟩:∃ok,decide (fieldsOf v.k≠[])=ok:=⟨_,rfl⟩
 have HOK:=hid hok;clear hok;refine (JR v W0).mono ?_;rintro e w1 ⟨rfl,hb1⟩;rw[HOK.out];go_upto_region 2 with (refine zNr rfl ?_;go_simp);generalize hg:w1.alloc _=W2;have hb2:=bE hg
 have q2:W2.heap[w1.heap.size]?=some (bP (fieldsOf v.k) v).box:=aE hg
 have s2:MayAt w v w1.heap.size W2:=⟨(hb2.block _ (yaz (lA k0f) hb1.size)).trans ((hb1.q k0f)),q2,(hb0.trans (hb1.mono hb0.size)).trans (hb2.mono (yae hb0.size hb1.size))⟩
 clear hg hb2 q2 hb1 hb0 k0f;generalize w1.heap.size=bb at *;have o2:=ho.later s2.bel;have hsame:=rH v (bP (fieldsOf v.k) v) c (iQ (fieldsOf v.k) c) W2 o2 (FI o2 _);cases ok with
 | false=>
  have Hs:Hid (fJ v c=false):=hid (by unfold fJ;rw[HOK.out];simp);clear hsame;go_wp2_with fail;go_ret;exact⟨by rw[Hs.out];rfl,s2.bel⟩
 | true=>
 have HD:=HOK;go_wp2_with (first | (refine zLr rfl s2.o ?_;go_simp) | (refine zLr rfl s2.b ?_;go_simp));refine hsame.mono ?_;rintro e w3 ⟨rfl,hb3⟩;have s3:=s2.step hb3;clear hsame;by_cases h1:bg v c (bP (fieldsOf v.k) v) (iQ (fieldsOf v.k) c)=true
 case neg=>
  rw[ybs] at h1;have Hs:Hid (fJ v c=false):=hid (by unfold fJ;rw[h1];simp);rw[h1];clear h1;go_wp2_with fail;go_ret;exact⟨by rw[Hs.out];rfl,s3.bel⟩
 have H1:=hid h1;rw[h1];clear h1;obtain⟨c0,c1,c2,c3,c4,c5,c6,-⟩:=aC s3.o;go_wp2_with fail;refine (kU v.name w3).mono ?_;rintro e w4 ⟨rfl,hb4⟩;have s4:=s3.step hb4;clear c0 c1 c2 c3 c4 c5 c6;by_cases h2:aT v.name=true
 case neg=>
  rw[ybs] at h2;have Hs:Hid (fJ v c=false):=hid (by unfold fJ;rw[h2];simp);rw[h2];clear h2;go_wp2_with fail;go_ret;exact⟨by rw[Hs.out];rfl,s4.bel⟩
 have H2:=hid h2;rw[h2];clear h2;obtain⟨c0,c1,c2,c3,c4,c5,c6,-⟩:=aC s4.o;go_wp2_with fail;refine (kU v.to w4).mono ?_;rintro e w5 ⟨rfl,hb5⟩;have s5:=s4.step hb5;clear c0 c1 c2 c3 c4 c5 c6;by_cases h3:aT v.to=true
 case neg=>
  rw[ybs] at h3;have Hs:Hid (fJ v c=false):=hid (by unfold fJ;rw[h3];simp);rw[h3];clear h3;go_wp2_with fail;go_ret;exact⟨by rw[Hs.out];rfl,s5.bel⟩
 have H3:=hid h3;rw[h3];clear h3;obtain⟨c0,c1,c2,c3,c4,c5,c6,-⟩:=aC s5.o;by_cases h4:v.an<=50/\v.bn<=8/\v.cn<=4000/\0<=v.n/\v.n<=1000
 case neg=>
  have Hs:Hid (fJ v c=false):=hid (by
   cases hq:fJ v c with
   | false=>rfl
   | true=>
    unfold fJ at hq;simp only[yaq,yaG] at hq;omega)
  by_cases g1:v.an<=50
  case neg=>
   have f1:decide ((50:Int)<(v.an:Int))=true:=yaa (by omega);clear h4 g1;go_wp2_with fail;go_ret;exact⟨by rw[Hs.out];rfl,s5.bel⟩
  have f1:decide ((50:Int)<(v.an:Int))=false:=yad (by omega);by_cases g2:v.bn<=8
  case neg=>
   have f2:decide ((8:Int)<(v.bn:Int))=true:=yaa (by omega);clear h4 g1 g2;go_wp2_with fail;go_ret;exact⟨by rw[Hs.out];rfl,s5.bel⟩
  have f2:decide ((8:Int)<(v.bn:Int))=false:=yad (by omega);by_cases g3:v.cn<=4000
  case neg=>
   have f3:decide ((4000:Int)<(v.cn:Int))=true:=yaa (by omega);clear h4 g1 g2 g3;go_wp2_with fail;go_ret;exact⟨by rw[Hs.out];rfl,s5.bel⟩
  have f3:decide ((4000:Int)<(v.cn:Int))=false:=yad (by omega);by_cases g4:0<=v.n
  case neg=>
   have f4:decide (v.n<0)=true:=yaa (by omega);clear h4 g1 g2 g3 g4;go_wp2_with fail;go_ret;exact⟨by rw[Hs.out];rfl,s5.bel⟩
  have f4:decide (v.n<0)=false:=yad (by omega);have f5:decide ((1000:Int)<v.n)=true:=yaa (by omega);clear h4 g1 g2 g3 g4;go_wp2_with fail;go_ret;exact⟨by rw[Hs.out];rfl,s5.bel⟩
 obtain⟨g1,g2,g3,g4,g5⟩:=h4;have HR:Hid (fJ v c=(c.attrs.all aQ&&c.parts.all aT&&(!decide (v.k=1)||bI c.attrs)&&(!decide (v.k=5)||decide (v.an=1)))):=hid (by
  unfold fJ;rw[HD.out,H1.out,H2.out,H3.out,yaa g1,yaa g2,yaa g3,yaa g4,yaa g5];simp)
 have f1:decide ((50:Int)<(v.an:Int))=false:=yad (by omega);have f2:decide ((8:Int)<(v.bn:Int))=false:=yad (by omega);have f3:decide ((4000:Int)<(v.cn:Int))=false:=yad (by omega);have f4:decide (v.n<0)=false:=yad (by omega);have f5:decide ((1000:Int)<v.n)=false:=yad (by omega);have o5:=ho.later s5.bel;clear g3 g4 g5 HD H1 H2 H3;go_wp2_with fail;clear f1 f2 f3 f4 f5 c0 c1 c2 c3 c4 c5 c6;go_loopw [5] (fun p wr=>∃k:Nat,k<=v.an/\p=.int .i64 (k:Int)/\Hid ((c.attrs.take k).all aQ=true)/\Below w5.heap.size w5 wr) (fun p _=>v.an-(intOf p).toNat)
 case atStart=>exact⟨0,yam _,rfl,hid rfl,yaj _ _⟩
 case round=>
  obtain⟨k,hk,rfl,Ha,hbr⟩:=hrel;have sr:=s5.step hbr;obtain⟨c0,c1,c2,c3,c4,c5,c6,-⟩:=aC sr.o;by_cases hkn:k<v.an
  ·obtain⟨b1,o1,ea,hl1,hc1⟩:=(o5.a.later hbr).some (by have:=o5.a.le;omega);rw[ea] at c3;clear ea;obtain⟨u,hu⟩:∃u,c.attrs[k]?=some u:=⟨_,yac (by rw[LA.out];exact hkn)⟩
   obtain⟨v1,v2⟩:=kH c.attrs k u hu;have d1:=hc1 _ _ v1;have d2:wr.cell? ⟨b1,o1+k*2+1,none⟩=_:=hc1 _ _ v2;have i0:(0:Int)<=(k:Int):=by omega
   have i1:(k:Int)<(v.an:Int):=by omega
   clear v1 v2 hc1;go_wp2_with fail;refine (kN u wr).mono ?_;rintro e w6 ⟨rfl,hb6⟩;have hb7:=hbr.trans (hb6.mono hbr.size);by_cases hm:aQ u=true
   ·have HT:Hid ((c.attrs.take (k+1)).all aQ=true):=hid (by obtain⟨hl,e⟩:=yao.1 hu;rw[yau hl,e,ycg,Ha.out];simp[hm]);rw[hm];clear hm c0 c1 c2 c3 c4 c5 c6 d1 d2;go_wp2_with fail;go_roundw
    case rel=>exact⟨k+1,by omega,by go_num,HT,hb7⟩
    case measure=>simp[intOf];omega
   rw[ybs] at hm;have Hs:Hid (fJ v c=false):=hid (by
    rw[HR.out,show c.attrs.all aQ=false from by rw[ycw];exact⟨u,yan hu,by simp[hm]⟩];simp)
   rw[hm];clear hm c0 c1 c2 c3 c4 c5 c6 d1 d2;go_wp2_with fail;go_ret;exact⟨by rw[Hs.out];rfl,(s5.step hb7).bel⟩
  have HA:Hid (c.attrs.all aQ=true):=hid (by
   have h:=Ha.out;rw[yak (by rw[LA.out];omega)] at h;exact h)
  have o6:=o5.later hbr;generalize wr=w9 at *;go_wp2_with fail;clear c0 c1 c2 c3 c4 c5 c6;go_loopw [6] (fun p wq=>∃k:Nat,k<=v.bn/\p=.int .i64 (k:Int)/\Hid ((c.parts.take k).all aT=true)/\Below w9.heap.size w9 wq) (fun p _=>v.bn-(intOf p).toNat)
  case atStart=>exact⟨0,yam _,rfl,hid rfl,yaj _ _⟩
  case round=>
   obtain⟨j,hj,rfl,Hp,hbq⟩:=hrel;have sq:=sr.step hbq;obtain⟨c0,c1,c2,c3,c4,c5,c6,-⟩:=aC sq.o;by_cases hjn:j<v.bn
   ·obtain⟨b2,o2',eb,hl2,hc2⟩:=(o6.b.later hbq).some (by have:=o6.b.le;omega);rw[eb] at c4;clear eb;obtain⟨u,hu⟩:∃u,c.parts[j]?=some u:=⟨_,yac (by rw[LB.out];exact hjn)⟩
    have d1:=hc2 _ _ (oC c.parts j u hu);have d2:wr.cell? ⟨b2,o2'+j*1,none⟩=some (.string u):=by rw[ycf];exact d1
    have i0:(0:Int)<=(j:Int):=by omega
    have i1:(j:Int)<(v.bn:Int):=by omega
    clear hc2;go_wp2_with fail;refine (kU u wr).mono ?_;rintro e w6 ⟨rfl,hb6⟩;have hb7:=hbq.trans (hb6.mono hbq.size);by_cases hm:aT u=true
    ·have HT:Hid ((c.parts.take (j+1)).all aT=true):=hid (by obtain⟨hl,e⟩:=yao.1 hu;rw[yau hl,e,ycg,Hp.out];simp[hm]);rw[hm];clear hm c0 c1 c2 c3 c4 c5 c6 d1 d2;go_wp2_with fail;go_roundw
     case rel=>exact⟨j+1,by omega,by go_num,HT,hb7⟩
     case measure=>simp[intOf];omega
    rw[ybs] at hm;have Hs:Hid (fJ v c=false):=hid (by
     rw[HR.out,show c.parts.all aT=false from by rw[ycw];exact⟨u,yan hu,by simp[hm]⟩];simp)
    rw[hm];clear hm c0 c1 c2 c3 c4 c5 c6 d1 d2;go_wp2_with fail;go_ret;exact⟨by rw[Hs.out];rfl,(sr.step hb7).bel⟩
   have HP:Hid (c.parts.all aT=true):=hid (by
    have h:=Hp.out;rw[yak (by rw[LB.out];omega)] at h;exact h)
   have o7:=o6.later hbq;have hH2:Hid (fJ v c=((!decide (v.k=1)||bI c.attrs)&&(!decide (v.k=5)||decide (v.an=1)))):=hid (by rw[HR.out,HA.out,HP.out];simp);by_cases e1:v.k=1
   ·have f1:(v.k != 1)=false:=by simp[e1]
    have f2:(v.k != 5)=true:=by simp[e1]
    have hH3:Hid (fJ v c=bI c.attrs):=hid (by rw[hH2.out];simp[e1]);clear e1;go_wp2_with fail;refine (ve v.ao v.an v.ac c.attrs wr o7.a).mono ?_;rintro e w8 ⟨rfl,hb8⟩;have s8:=sq.step hb8;obtain⟨d0,-⟩:=aC s8.o;clear c0 c1 c2 c3 c4 c5 c6;cases hq:bI c.attrs
    ·have HQ:=hid hq;clear hq;go_wp2_with fail;go_ret;exact⟨by rw[hH3.out,HQ.out];rfl,s8.bel⟩
    have HQ:=hid hq;clear hq;go_wp2_with fail;go_ret;exact⟨by rw[hH3.out,HQ.out];rfl,s8.bel⟩
   have f1:(v.k != 1)=true:=by simp[e1]
   by_cases e5:v.k=5
   ·have f2:(v.k != 5)=false:=by simp[e5]
    have hH3:Hid (fJ v c=decide (v.an=1)):=hid (by rw[hH2.out];simp[e5]);clear e1 e5;by_cases ea:v.an=1
    ·have f3:((v.an:Int)==1)=true:=by simp[ea]
     have HQ:=hid (yaa ea);clear ea;go_wp2_with fail;go_ret;exact⟨by rw[hH3.out,HQ.out];rfl,sq.bel⟩
    have f3:((v.an:Int)==1)=false:=by simp;omega
    have HQ:=hid (yad ea);clear ea;go_wp2_with fail;go_ret;exact⟨by rw[hH3.out,HQ.out];rfl,sq.bel⟩
   have f2:(v.k != 5)=true:=by simp[e5]
   have hH3:Hid (fJ v c=true):=hid (by rw[hH2.out];simp[e1,e5]);clear e1 e5;go_wp2_with fail;go_ret;exact⟨by rw[hH3.out];rfl,sq.bel⟩
end Msg
namespace Msg
open Go.RowKit Go.Lib Mem Utf Tlv
variable{B b n o size:Nat}{W W':World}{e:TypeId}{v:Value}{xs:List Value}
theorem iP(h:W.ownsRow B e size v n xs):∀k,v.ownBlock=some k->k<W.heap.size:=by
 intro k hk;rcases h.2 with ⟨rfl,-⟩ | ⟨g,cap,cur,rfl,-,hg,-⟩
 ·cases hk
 have:g=k:=by simpa [Value.ownBlock] using hk
 subst this;exact lA hg
theorem own_below{B':Nat}(h:W.ownsRow B e size v n xs)(hb:Below B' W W')(hlt:∀k,v.ownBlock=some k->k<B'):W'.ownsRow B e size v n xs:=by
 obtain⟨h1,h2⟩:=h;refine⟨h1,?_⟩;rcases h2 with h2 | ⟨g,cap,cur,hv,hbg,hg,rest⟩
 ·exact .inl h2
 exact .inr ⟨g,cap,cur,hv,hbg,(hb.block g (hlt g (by rw[hv];rfl))).trans hg,rest⟩
theorem Lc(l:List (ByteArray×ByteArray))(k:Nat)(u:ByteArray×ByteArray)(h:l[k]?=some u):aI (l.take (k+1))=aI (l.take k)++val 3 (val 1 u.1.data.toList++val 2 u.2.data.toList):=by
 obtain⟨hl,e⟩:=yao.1 h;rw[yau hl,e];simp[aI]
theorem LJ(l:List ByteArray)(k:Nat)(u:ByteArray)(h:l[k]?=some u):bT (l.take (k+1))=bT (l.take k)++val 1 u.data.toList:=by
 obtain⟨hl,e⟩:=yao.1 h;rw[yau hl,e];simp[bT]
theorem Qw(l:List (ByteArray×ByteArray))(k:Nat):(aI (l.take k)).length<=(aI l).length:=by
 have e:aI l=aI (l.take k)++aI (l.drop k):=by unfold aI;rw[<-ybV,ybf]
 rw[e,yab];omega
theorem QI(l:List ByteArray)(k:Nat):(bT (l.take k)).length<=(bT l).length:=by
 have e:bT l=bT (l.take k)++bT (l.drop k):=by unfold bT;rw[<-ybV,ybf]
 rw[e,yab];omega
def AtAt (u:ByteArray×ByteArray)(b o:Nat)(W:World):Prop:=W.cell? ⟨b,o,none⟩=some (.string u.1)/\W.cell? ⟨b,o+1,none⟩=some (.string u.2)
theorem AtAt.step{u:ByteArray×ByteArray}(h:AtAt u b o W)(hb:Below W.heap.size W W'):AtAt u b o W':=⟨dK hb h.1,dK hb h.2⟩
theorem AtAt.below{u:ByteArray×ByteArray}(h:AtAt u b o W)(hb:Below B W W')(hlt:b<B):AtAt u b o W':=⟨(hb.cell (p:=⟨b,o,none⟩) hlt).trans h.1,(hb.cell (p:=⟨b,o+1,none⟩) hlt).trans h.2⟩
theorem yT(t:UInt8)(ao:Option Addr)(n cap:Nat)(x:List (ByteArray×ByteArray))(w:World)(hx:Rd w 2 ao n cap (atV x))(hn:n<=1000)(hu:∀u∈x,u.1.size<=1000/\u.2.size<=1000)(hl:(aI x).length<=200000) :
  Calls Tryz.prog 157 #[.int .u8 (t.toNat:Int),.slice ao n cap] w (jw w (val t (aI x))):=by
 have hmo:=hmO
 have lx:x.length=n:=by have:=hx.1;rw[fG] at this;omega
 have LX:=hid lx;have HL:=hid hl;clear lx hl;have own0:w.ownsRow w.heap.size 5 1 (.slice none 0 0) (aI (x.take 0)).length (byV (aI (x.take 0))):=yaC _ _ _ _;go_in;go_wp2_with fail;go_loopw [5,6] (fun bv p wr=>∃k:Nat,k<=n/\p=.int .i64 (k:Int)/\wr.ownsRow w.heap.size 5 1 bv (aI (x.take k)).length (byV (aI (x.take k)))/\Below w.heap.size w wr) (fun _ p _=>n-(intOf p).toNat)
 case atStart=>exact⟨0,yam _,rfl,own0,yaj _ _⟩
 case round=>
  obtain⟨k,hk,rfl,own,hbr⟩:=hrel;by_cases hkn:k<n
  ·obtain⟨b1,o1,rfl,hl1,hc1⟩:=hx.some (by have:=hx.le;omega);obtain⟨u,hue⟩:∃u,x[k]?=some u:=⟨_,yac (by rw[LX.out];exact hkn)⟩
   obtain⟨v1,v2⟩:=kH x k u hue;have c1:=(hbr.cell (p:=⟨b1,o1+k*2,none⟩) hl1).trans (hc1 (k*2) _ v1);have c2:wr.cell? ⟨b1,o1+k*2+1,none⟩=_:=(hbr.cell (p:=⟨b1,o1+(k*2+1),none⟩) hl1).trans (hc1 (k*2+1) _ v2);obtain⟨hu1,hu2⟩:=hu u (yan hue);have hm1:u.1.size<=maxLen:=by unfold maxLen;omega
   have hm2:u.2.size<=maxLen:=by unfold maxLen;omega
   have hn1:u.1.size<=4194304:=by omega
   have hn2:u.2.size<=4194304:=by omega
   have hL:(aI (x.take k)).length<=200000:=yae (Qw x k) HL.out;have hnext:=hid (Lc x k u hue);obtain⟨V1,hv1⟩:∃V1,val 1 u.1.data.toList=V1:=⟨_,rfl⟩
   obtain⟨V2,hv2⟩:∃V2,val 2 u.2.data.toList=V2:=⟨_,rfl⟩
   obtain⟨V3,hv3⟩:∃V3,val 3 (V1++V2)=V3:=⟨_,rfl⟩
   obtain⟨A,hA⟩:∃A,aI (x.take k)=A:=⟨_,rfl⟩
   have hV1:V1.length=u.1.size+5:=by rw[<-hv1,ae,dI];omega
   have hV2:V2.length=u.2.size+5:=by rw[<-hv2,ae,dI];omega
   have hV3:V3.length=u.1.size+5+(u.2.size+5)+5:=by rw[<-hv3,ae,yab,hV1,hV2];omega
   have hN:Hid (aI (x.take (k+1))=A++V3):=hid (by rw[hnext.out,hv1,hv2,hv3,hA]);have h15:V1.length+V2.length<=maxLen:=by rw[hV1,hV2];unfold maxLen;omega
   have h15b:(V1.length+V2.length)*1<=140737488355328:=by rw[hV1,hV2];omega
   have h16:V1.length+V2.length<=4194304:=by rw[hV1,hV2];omega
   rw[hA] at hL;have h17:A.length+V3.length<=maxLen:=by rw[hV3];unfold maxLen;omega
   have h17b:(A.length+V3.length)*1<=140737488355328:=by rw[hV3];omega
   rw[hA] at own;have Hv1:=hid hv1;have Hv2:=hid hv2;have Hv3:=hid hv3;clear hv1 hv2 hv3 hA hL hnext;have i0:(0:Int)<=(k:Int):=by omega
   have i1:(k:Int)<(n:Int):=by omega
   have s0:AtAt u b1 (o1+k*2) wr.drew:=⟨c1,c2⟩
   have b0:wr.drew.ownsRow w.heap.size 5 1 u5 A.length (byV A):=ag own (yaj _ _).drew;have hb0:Below w.heap.size w wr.drew:=hbr.drew;have z0:=hb0.size;clear v1 v2 c1 c2 hc1 hV1 hV2 hV3;go_upto_region 5 with fail;refine yaB (S:=AtAt u b1 (o1+k*2)) hmo ?_;change wpAnyH _ _ _ _ _ _ _ _ (World.drew wr);clear own hbr;generalize World.drew wr=W0 at *;have hbb0:=hb0;have zf0:=fun (w0:World) (h:AtAt u b1 (o1+k*2) w0)=>h.1;have zf1:=fun (w0:World) (h:AtAt u b1 (o1+k*2) w0)=>h.2;refine zp 0 (u5) rfl (zp 1 (.slice (some ⟨b1,o1,none⟩) n cap) rfl (zp 2 (.int .i64 (k:Int)) rfl ?_));go_simp;refine zv 3 (.pointer (some ⟨b1,o1+k*2,none⟩)) rfl ?_;go_simp;refine zv 4 (.pointer (some ⟨b1,o1+k*2,none⟩)) rfl ?_;go_simp;refine zv 5 (.string u.1) rfl ?_;go_simp;refine zp 8 (.slice (some ⟨b1,o1,none⟩) n cap) rfl (zp 9 (.int .i64 (k:Int)) rfl ?_);go_simp;refine zv 10 (.pointer (some ⟨b1,o1+k*2,none⟩)) rfl ?_;go_simp;refine zv 11 (.pointer (some ⟨b1,o1+k*2+1,none⟩)) rfl ?_;go_simp;refine zv 12 (.string u.2) rfl ?_;go_simp;refine wpAnyH_all (rs:=[6,13]) (by kernel_rfl) (by simp) (fun j hj=>?_);simp only[yas,yal,or_false] at hj;rcases hj with rfl|rfl
   ·refine ybZ rfl (fun K hK=>?_);obtain⟨k6,W1,hrun,r6_1,hb1⟩:=gI u.1 hm1 W0;go_simp;have b1:=ag b0 hb1;have s1:=s0.step hb1;have z1:=yae z0 hb1.size;have hbb1:=hbb0.trans (hb1.mono z0);clear hrun;refine hK _ _ ⟨s1,?_⟩;clear hK K;refine wpAnyH_all (rs:=[7,13]) (by kernel_rfl) (by simp) (fun j hj=>?_);simp only[yas,yal,or_false] at hj;rcases hj with rfl|rfl
    ·refine ybZ rfl (fun K hK=>?_);go_simp;refine (aW 1 u.1.data.toList _ _ _ W1 hn1 r6_1).mono ?_;rintro e W2 ⟨v7,rfl,o7_2,hb2⟩;rw[Hv1.out] at o7_2;have b2:=ag b1 hb2;have s2:=s1.step hb2;have z2:=yae z1 hb2.size;have hbb2:=hbb1.trans (hb2.mono z1);have lt7:=iP b1;have y7:=z1;have q7:=hbb1.size;generalize hZ7:W1.heap.size=Z7 at o7_2 lt7 y7;have gz2:Z7<=W2.heap.size:=by rw[<-hZ7];exact hb2.size
     go_simp;refine hK _ _ ⟨s2,?_⟩;clear hK K;refine zH1 13 rfl (fun K hK=>?_);obtain⟨k13,W3,hrun,r13_3,hb3⟩:=gI u.2 hm2 W2;go_simp;have b3:=ag b2 hb3;have s3:=s2.step hb3;have o7_3:=ag o7_2 hb3;have z3:=yae z2 hb3.size;have gz3:=yae gz2 hb3.size;have hbb3:=hbb2.trans (hb3.mono z2);clear hrun;refine hK _ _ ⟨s3,?_⟩;clear hK K;refine zH1 14 rfl (fun K hK=>?_);go_simp;refine (aW 2 u.2.data.toList _ _ _ W3 hn2 r13_3).mono ?_;rintro e W4 ⟨v14,rfl,o14_4,hb4⟩;rw[Hv2.out] at o14_4;have b4:=ag b3 hb4;have s4:=s3.step hb4;have o7_4:=ag o7_3 hb4;have z4:=yae z3 hb4.size;have gz4:=yae gz3 hb4.size;have hbb4:=hbb3.trans (hb4.mono z3);go_simp;refine hK _ _ ⟨s4,?_⟩;clear hK K;refine zH1 15 rfl (fun K hK=>?_);obtain⟨a14,k14,e14,r14⟩:=Rd.of_own o14_4;subst e14;refine di rfl (.tmp 20) (.tmp 27) 34 rfl Z7 5 (.int .u8 0) 1 1 Tlv.byT v7 _ _ rfl o7_4 a14 _ k14 _ rfl r14 (bM _) h15 h15b gz4 ?_;intro ao15 cap15 W5 o15x hg15 hb15 _;have r15_5:Rd W5 1 ao15 (V1.length+V2.length) cap15 (byV (V1++V2)):=by rw[dS];exact Rd.of_own_slice o15x
     have b5:=own_below b4 hb15 lt7;have s5:=s4.below hb15 (by omega);have z5:=yae z4 hb15.size;have hbb5:=hbb4.trans (hb15.mono (by omega));clear o15x hg15 hb15;refine hK _ _ ⟨s5,?_⟩;clear hK K;refine zC 16 rfl (aW 3 (V1++V2) ao15 (V1.length+V2.length) cap15 W5 h16 r15_5) ?_;rintro e W6 ⟨v16,rfl,o16_6,hb6⟩;rw[Hv3.out] at o16_6;have b6:=ag b5 hb6;have s6:=s5.step hb6;have z6:=yae z5 hb6.size;have hbb6:=hbb5.trans (hb6.mono z5);refine⟨s6,?_⟩;go_simp;refine zH1 17 rfl (fun K hK=>?_);obtain⟨a16,k16,e16,r16⟩:=Rd.of_own o16_6;subst e16;refine di rfl (.tmp 13) (.tmp 29) 34 rfl w.heap.size 5 (.int .u8 0) 1 1 Tlv.byT u5 _ _ rfl b6 a16 _ k16 _ rfl r16 (bM _) h17 h17b z6 ?_;intro ao17 cap17 W7 o17x hg17 hb17 _;have o17:W7.ownsRow w.heap.size 5 1 (.slice ao17 (A.length+V3.length) cap17) (aI (x.take (k+1))).length (byV (aI (x.take (k+1)))):=by rw[hN.out,yab,dS];exact o17x
     have s7:=s6.below hb17 hl1;have hbb7:=hbb6.trans hb17;clear o17x hg17 hb17;refine hK _ _ ⟨s7,?_⟩;clear hK K;refine zp 18 (.slice ao17 (A.length+V3.length) cap17) rfl ?_;go_simp;refine zd ?_;clear h15 h15b h16 h17 h17b;go_wp2_with fail;go_roundw
     case rel=>exact⟨k+1,by omega,by go_num,o17,hbb7⟩
     case measure=>simp[intOf];omega
    refine ybZ rfl (fun K hK=>?_);obtain⟨k13,W2,hrun,r13_2,hb2⟩:=gI u.2 hm2 W1;go_simp;have b2:=ag b1 hb2;have s2:=s1.step hb2;have r6_2:=r6_1.later hb2;have z2:=yae z1 hb2.size;have hbb2:=hbb1.trans (hb2.mono z1);clear hrun;refine hK _ _ ⟨s2,?_⟩;clear hK K;refine zH1 7 rfl (fun K hK=>?_);go_simp;refine (aW 1 u.1.data.toList _ _ _ W2 hn1 r6_2).mono ?_;rintro e W3 ⟨v7,rfl,o7_3,hb3⟩;rw[Hv1.out] at o7_3;have b3:=ag b2 hb3;have s3:=s2.step hb3;have r13_3:=r13_2.later hb3;have z3:=yae z2 hb3.size;have hbb3:=hbb2.trans (hb3.mono z2);have lt7:=iP b2;have y7:=z2;have q7:=hbb2.size;generalize hZ7:W2.heap.size=Z7 at o7_3 lt7 y7;have gz3:Z7<=W3.heap.size:=by rw[<-hZ7];exact hb3.size
    go_simp;refine hK _ _ ⟨s3,?_⟩;clear hK K;refine zH1 14 rfl (fun K hK=>?_);go_simp;refine (aW 2 u.2.data.toList _ _ _ W3 hn2 r13_3).mono ?_;rintro e W4 ⟨v14,rfl,o14_4,hb4⟩;rw[Hv2.out] at o14_4;have b4:=ag b3 hb4;have s4:=s3.step hb4;have o7_4:=ag o7_3 hb4;have z4:=yae z3 hb4.size;have gz4:=yae gz3 hb4.size;have hbb4:=hbb3.trans (hb4.mono z3);go_simp;refine hK _ _ ⟨s4,?_⟩;clear hK K;refine zH1 15 rfl (fun K hK=>?_);obtain⟨a14,k14,e14,r14⟩:=Rd.of_own o14_4;subst e14;refine di rfl (.tmp 20) (.tmp 27) 34 rfl Z7 5 (.int .u8 0) 1 1 Tlv.byT v7 _ _ rfl o7_4 a14 _ k14 _ rfl r14 (bM _) h15 h15b gz4 ?_;intro ao15 cap15 W5 o15x hg15 hb15 _;have r15_5:Rd W5 1 ao15 (V1.length+V2.length) cap15 (byV (V1++V2)):=by rw[dS];exact Rd.of_own_slice o15x
    have b5:=own_below b4 hb15 lt7;have s5:=s4.below hb15 (by omega);have z5:=yae z4 hb15.size;have hbb5:=hbb4.trans (hb15.mono (by omega));clear o15x hg15 hb15;refine hK _ _ ⟨s5,?_⟩;clear hK K;refine zC 16 rfl (aW 3 (V1++V2) ao15 (V1.length+V2.length) cap15 W5 h16 r15_5) ?_;rintro e W6 ⟨v16,rfl,o16_6,hb6⟩;rw[Hv3.out] at o16_6;have b6:=ag b5 hb6;have s6:=s5.step hb6;have z6:=yae z5 hb6.size;have hbb6:=hbb5.trans (hb6.mono z5);refine⟨s6,?_⟩;go_simp;refine zH1 17 rfl (fun K hK=>?_);obtain⟨a16,k16,e16,r16⟩:=Rd.of_own o16_6;subst e16;refine di rfl (.tmp 13) (.tmp 29) 34 rfl w.heap.size 5 (.int .u8 0) 1 1 Tlv.byT u5 _ _ rfl b6 a16 _ k16 _ rfl r16 (bM _) h17 h17b z6 ?_;intro ao17 cap17 W7 o17x hg17 hb17 _;have o17:W7.ownsRow w.heap.size 5 1 (.slice ao17 (A.length+V3.length) cap17) (aI (x.take (k+1))).length (byV (aI (x.take (k+1)))):=by rw[hN.out,yab,dS];exact o17x
    have s7:=s6.below hb17 hl1;have hbb7:=hbb6.trans hb17;clear o17x hg17 hb17;refine hK _ _ ⟨s7,?_⟩;clear hK K;refine zp 18 (.slice ao17 (A.length+V3.length) cap17) rfl ?_;go_simp;refine zd ?_;clear h15 h15b h16 h17 h17b;go_wp2_with fail;go_roundw
    case rel=>exact⟨k+1,by omega,by go_num,o17,hbb7⟩
    case measure=>simp[intOf];omega
   refine ybZ rfl (fun K hK=>?_);obtain⟨k13,W1,hrun,r13_1,hb1⟩:=gI u.2 hm2 W0;go_simp;have b1:=ag b0 hb1;have s1:=s0.step hb1;have z1:=yae z0 hb1.size;have hbb1:=hbb0.trans (hb1.mono z0);clear hrun;refine hK _ _ ⟨s1,?_⟩;clear hK K;refine zH1 6 rfl (fun K hK=>?_);obtain⟨k6,W2,hrun,r6_2,hb2⟩:=gI u.1 hm1 W1;go_simp;have b2:=ag b1 hb2;have s2:=s1.step hb2;have r13_2:=r13_1.later hb2;have z2:=yae z1 hb2.size;have hbb2:=hbb1.trans (hb2.mono z1);clear hrun;refine hK _ _ ⟨s2,?_⟩;clear hK K;refine zH1 7 rfl (fun K hK=>?_);go_simp;refine (aW 1 u.1.data.toList _ _ _ W2 hn1 r6_2).mono ?_;rintro e W3 ⟨v7,rfl,o7_3,hb3⟩;rw[Hv1.out] at o7_3;have b3:=ag b2 hb3;have s3:=s2.step hb3;have r13_3:=r13_2.later hb3;have z3:=yae z2 hb3.size;have hbb3:=hbb2.trans (hb3.mono z2);have lt7:=iP b2;have y7:=z2;have q7:=hbb2.size;generalize hZ7:W2.heap.size=Z7 at o7_3 lt7 y7;have gz3:Z7<=W3.heap.size:=by rw[<-hZ7];exact hb3.size
   go_simp;refine hK _ _ ⟨s3,?_⟩;clear hK K;refine zH1 14 rfl (fun K hK=>?_);go_simp;refine (aW 2 u.2.data.toList _ _ _ W3 hn2 r13_3).mono ?_;rintro e W4 ⟨v14,rfl,o14_4,hb4⟩;rw[Hv2.out] at o14_4;have b4:=ag b3 hb4;have s4:=s3.step hb4;have o7_4:=ag o7_3 hb4;have z4:=yae z3 hb4.size;have gz4:=yae gz3 hb4.size;have hbb4:=hbb3.trans (hb4.mono z3);go_simp;refine hK _ _ ⟨s4,?_⟩;clear hK K;refine zH1 15 rfl (fun K hK=>?_);obtain⟨a14,k14,e14,r14⟩:=Rd.of_own o14_4;subst e14;refine di rfl (.tmp 20) (.tmp 27) 34 rfl Z7 5 (.int .u8 0) 1 1 Tlv.byT v7 _ _ rfl o7_4 a14 _ k14 _ rfl r14 (bM _) h15 h15b gz4 ?_;intro ao15 cap15 W5 o15x hg15 hb15 _;have r15_5:Rd W5 1 ao15 (V1.length+V2.length) cap15 (byV (V1++V2)):=by rw[dS];exact Rd.of_own_slice o15x
   have b5:=own_below b4 hb15 lt7;have s5:=s4.below hb15 (by omega);have z5:=yae z4 hb15.size;have hbb5:=hbb4.trans (hb15.mono (by omega));clear o15x hg15 hb15;refine hK _ _ ⟨s5,?_⟩;clear hK K;refine zC 16 rfl (aW 3 (V1++V2) ao15 (V1.length+V2.length) cap15 W5 h16 r15_5) ?_;rintro e W6 ⟨v16,rfl,o16_6,hb6⟩;rw[Hv3.out] at o16_6;have b6:=ag b5 hb6;have s6:=s5.step hb6;have z6:=yae z5 hb6.size;have hbb6:=hbb5.trans (hb6.mono z5);refine⟨s6,?_⟩;go_simp;refine zH1 17 rfl (fun K hK=>?_);obtain⟨a16,k16,e16,r16⟩:=Rd.of_own o16_6;subst e16;refine di rfl (.tmp 13) (.tmp 29) 34 rfl w.heap.size 5 (.int .u8 0) 1 1 Tlv.byT u5 _ _ rfl b6 a16 _ k16 _ rfl r16 (bM _) h17 h17b z6 ?_;intro ao17 cap17 W7 o17x hg17 hb17 _;have o17:W7.ownsRow w.heap.size 5 1 (.slice ao17 (A.length+V3.length) cap17) (aI (x.take (k+1))).length (byV (aI (x.take (k+1)))):=by rw[hN.out,yab,dS];exact o17x
   have s7:=s6.below hb17 hl1;have hbb7:=hbb6.trans hb17;clear o17x hg17 hb17;refine hK _ _ ⟨s7,?_⟩;clear hK K;refine zp 18 (.slice ao17 (A.length+V3.length) cap17) rfl ?_;go_simp;refine zd ?_;clear h15 h15b h16 h17 h17b;go_wp2_with fail;go_roundw
   case rel=>exact⟨k+1,by omega,by go_num,o17,hbb7⟩
   case measure=>simp[intOf];omega
  have hke:k=n:=by omega
  have hfull:x.take k=x:=yak (by rw[LX.out];omega);rw[hfull] at own;obtain⟨ao',cap',e',hr'⟩:=Rd.of_own own;subst e';have z0:=hbr.size;have hlen:(aI x).length<=4194304:=yae HL.out (by decide);clear hke hfull;go_wp2_with fail;refine (aW t (aI x) ao' _ cap' wr hlen hr').mono ?_;rintro e W1 ⟨v1,rfl,o1,hb1⟩;go_wp2_with fail;go_ret;exact⟨v1,rfl,own_base o1 z0,hbr.trans (hb1.mono z0)⟩
theorem IQ(t:UInt8)(ao:Option Addr)(n cap:Nat)(x:List ByteArray)(w:World)(hx:Rd w 1 ao n cap (txV x))(hn:n<=1000)(hu:∀u∈x,u.size<=1000)(hl:(bT x).length<=200000) :
  Calls Tryz.prog 158 #[.int .u8 (t.toNat:Int),.slice ao n cap] w (jw w (val t (bT x))):=by
 have lx:x.length=n:=by have:=hx.1;rw[ig] at this;omega
 have LX:=hid lx;have HL:=hid hl;clear lx hl;have own0:w.ownsRow w.heap.size 5 1 (.slice none 0 0) (bT (x.take 0)).length (byV (bT (x.take 0))):=yaC _ _ _ _;go_in;go_wp2_with fail;go_loopw [5,6] (fun bv p wr=>∃k:Nat,k<=n/\p=.int .i64 (k:Int)/\wr.ownsRow w.heap.size 5 1 bv (bT (x.take k)).length (byV (bT (x.take k)))/\Below w.heap.size w wr) (fun _ p _=>n-(intOf p).toNat)
 case atStart=>exact⟨0,yam _,rfl,own0,yaj _ _⟩
 case round=>
  obtain⟨k,hk,rfl,own,hbr⟩:=hrel;by_cases hkn:k<n
  ·obtain⟨b1,o1,rfl,hl1,hc1⟩:=hx.some (by have:=hx.le;omega);obtain⟨u,hue⟩:∃u,x[k]?=some u:=⟨_,yac (by rw[LX.out];exact hkn)⟩
   have c1:=(hbr.cell (p:=⟨b1,o1+k,none⟩) hl1).trans (hc1 k _ (oC x k u hue));have c2:wr.cell? ⟨b1,o1+k*1,none⟩=some (.string u):=by rw[ycf];exact c1
   have hu1:=hu u (yan hue);have hm1:u.size<=maxLen:=by unfold maxLen;omega
   have hn1:u.size<=4194304:=by omega
   have hL:(bT (x.take k)).length<=200000:=yae (QI x k) HL.out;have hnext:=hid (LJ x k u hue);obtain⟨V1,hv1⟩:∃V1,val 1 u.data.toList=V1:=⟨_,rfl⟩
   obtain⟨A,hA⟩:∃A,bT (x.take k)=A:=⟨_,rfl⟩
   have hV1:V1.length=u.size+5:=by rw[<-hv1,ae,dI];omega
   have hN:Hid (bT (x.take (k+1))=A++V1):=hid (by rw[hnext.out,hv1,hA]);rw[hA] at hL;have h17:A.length+V1.length<=maxLen:=by rw[hV1];unfold maxLen;omega
   have h17b:(A.length+V1.length)*1<=140737488355328:=by rw[hV1];omega
   rw[hA] at own;have Hv1:=hid hv1;clear hv1 hA hL hnext hV1 hc1;have i0:(0:Int)<=(k:Int):=by omega
   have i1:(k:Int)<(n:Int):=by omega
   have z0:=hbr.size;obtain⟨k1,W1,hrun,r1,hb1⟩:=gI u hm1 wr;go_wp2_with fail;refine (aW 1 u.data.toList _ _ _ W1 hn1 r1).mono ?_;rintro e W2 ⟨v1,rfl,o2,hb2⟩;rw[Hv1.out] at o2;obtain⟨a2,k2,e2,r2⟩:=Rd.of_own o2;subst e2;have own2:=ag (ag own hb1) hb2;have hB2:=(hbr.trans (hb1.mono z0)).trans (hb2.mono (yae z0 hb1.size));have z2:=hB2.size;clear hrun c1 c2 own r1 o2 hm1 hn1 hu1;go_wp2_with (at_builtin;refine dZ _ rfl (.tmp 13) (.tmp 19) 34 rfl w.heap.size 5 (.int .u8 0) 1 1 Tlv.byT u5 _ _ rfl own2 a2 _ k2 _ rfl r2 (bM _) h17 h17b z2 ?_;intro ao3 cap3 W3 o3 _ hb3 _);have o4:W3.ownsRow w.heap.size 5 1 (.slice ao3 (A.length+V1.length) cap3) (bT (x.take (k+1))).length (byV (bT (x.take (k+1)))):=by rw[hN.out,yab,dS];exact o3
   clear h17 h17b;go_roundw
   case rel=>exact⟨k+1,by omega,by go_num,o4,hB2.trans hb3⟩
   case measure=>simp[intOf];omega
  have hke:k=n:=by omega
  have hfull:x.take k=x:=yak (by rw[LX.out];omega);rw[hfull] at own;obtain⟨ao',cap',e',hr'⟩:=Rd.of_own own;subst e';have z0:=hbr.size;have hlen:(bT x).length<=4194304:=yae HL.out (by decide);clear hke hfull;go_wp2_with fail;refine (aW t (bT x) ao' _ cap' wr hlen hr').mono ?_;rintro e W1 ⟨v1,rfl,o1,hb1⟩;go_wp2_with fail;go_ret;exact⟨v1,rfl,own_base o1 z0,hbr.trans (hb1.mono z0)⟩
end Msg
namespace Msg
open Go.RowKit Go.Lib Mem Tlv
variable{B b:Nat}{W w:World}{c:OC}{r:RV}{u y:OV}
def bG:RV:=⟨0,0,zeroV⟩
def kG (W:World)(b:Nat)(u:OV):World:=((((((W.setCell ⟨b,2,none⟩ (.int .i64 u.k)).setCell ⟨b,3,none⟩ (.string u.name)).setCell ⟨b,4,none⟩ (.string u.to)).setCell ⟨b,5,none⟩ (.slice u.ao u.an u.ac)).setCell ⟨b,6,none⟩ (.slice u.bo u.bn u.bc)).setCell ⟨b,7,none⟩ (.slice u.co u.cn u.cc)).setCell ⟨b,8,none⟩ (.int .i64 u.n)
theorem qN(h:W.heap[b]?=some r.box):(kG W b u).heap[b]?=some (RV.box ⟨r.cl,r.nu,u⟩):=by
 unfold RV.box RV.cells at h;have h0:=at_set (i:=2) (x:=.int .i64 u.k) h;have h1:=at_set (i:=3) (x:=.string u.name) h0;have h2:=at_set (i:=4) (x:=.string u.to) h1;have h3:=at_set (i:=5) (x:=.slice u.ao u.an u.ac) h2;have h4:=at_set (i:=6) (x:=.slice u.bo u.bn u.bc) h3;have h5:=at_set (i:=7) (x:=.slice u.co u.cn u.cc) h4;have h6:=at_set (i:=8) (x:=.int .i64 u.n) h5;unfold kG;refine h6.trans ?_
 kernel_rfl
theorem BB(h:OpAt W y c)(fa:∀a,y.ao=some a->a.block≠b)(fb:∀a,y.bo=some a->a.block≠b)(fc:∀a,y.co=some a->a.block≠b):OpAt (kG W b u) y c:=
 ((((((h.set ⟨b,2,none⟩ _ fa fb fc).set ⟨b,3,none⟩ _ fa fb fc).set ⟨b,4,none⟩ _ fa fb fc).set ⟨b,5,none⟩ _ fa fb fc).set ⟨b,6,none⟩ _ fa fb fc).set ⟨b,7,none⟩ _ fa fb fc).set ⟨b,8,none⟩ _ fa fb fc
theorem jO(h:Below B w W)(hb:B<=b):Below B w (kG W b u):=
 ((((((h.setCell (p:=⟨b,2,none⟩) hb _).setCell (p:=⟨b,3,none⟩) hb _).setCell (p:=⟨b,4,none⟩) hb _).setCell (p:=⟨b,5,none⟩) hb _).setCell (p:=⟨b,6,none⟩) hb _).setCell (p:=⟨b,7,none⟩) hb _).setCell (p:=⟨b,8,none⟩) hb _
def vG (W:World)(b:Nat)(r:RV):World:=kG ((W.setCell ⟨b,0,none⟩ (.int .u64 r.cl)).setCell ⟨b,1,none⟩ (.int .u64 r.nu)) b r.op
theorem JI{q:RV}(h:W.heap[b]?=some q.box):(vG W b r).heap[b]?=some r.box:=by
 unfold RV.box RV.cells at h;have h0:=at_set (i:=0) (x:=.int .u64 r.cl) h;have h1:=at_set (i:=1) (x:=.int .u64 r.nu) h0;have h2:((W.setCell ⟨b,0,none⟩ (.int .u64 r.cl)).setCell ⟨b,1,none⟩ (.int .u64 r.nu)).heap[b]?=some (RV.box ⟨r.cl,r.nu,q.op⟩):=h1.trans (by kernel_rfl);exact qN (r:=⟨r.cl,r.nu,q.op⟩) (u:=r.op) h2
theorem Ky(h:OpAt W y c)(fa:∀a,y.ao=some a->a.block≠b)(fb:∀a,y.bo=some a->a.block≠b)(fc:∀a,y.co=some a->a.block≠b):OpAt (vG W b r) y c:=
 BB ((h.set ⟨b,0,none⟩ _ fa fb fc).set ⟨b,1,none⟩ _ fa fb fc) fa fb fc
theorem Eo(h:Below B w W)(hb:B<=b):Below B w (vG W b r):=
 jO ((h.setCell (p:=⟨b,0,none⟩) hb _).setCell (p:=⟨b,1,none⟩) hb _) hb
theorem EH{f:Func}{i:Nat}{tmps:Array Value}(hr:f.results=#[.cell i 55])(hp:tmps.getD i undef=.pointer (some ⟨b,0,none⟩))(h:W.heap[b]?=some r.box):(results f tmps).run Tryz.prog W=.ok r.val W:=by
 obtain⟨c0,c1,c2,c3,c4,c5,c6,c7,c8,-⟩:=gY h;simp only[results,hr];have hp':tmps[i]?.getD undef=.pointer (some ⟨b,0,none⟩):=by simpa using hp
 unfold RV.val RV.cells;simp[hp',asAddr];go_simp
def jm (r:RV)(c:OC)(w:World)(e:Ending)(w':World):Prop:=∃u:OV,e=.returned (RV.val ⟨r.cl,r.nu,u⟩)/\CopyOf w r.op u/\OpAt w' u c/\Below w.heap.size w w'
theorem CopyOf.low{v:OV}(h:CopyOf W v u)(hb:w.heap.size<=W.heap.size):CopyOf w v u:=
 ⟨h.ek,h.ename,h.eto,h.en,h.ean,h.ebn,h.ecn,fun a ha=>yae hb (h.fa a ha),fun a ha=>yae hb (h.fb a ha),fun a ha=>yae hb (h.fc a ha),h.na,h.nb,h.nc⟩
theorem rF(r:RV)(c:OC)(w:World)(ho:OpAt w r.op c):Calls Tryz.prog 44 #[r.val] w (jm r c w):=by
 have hb0:Below w.heap.size w ((w.alloc r.box).alloc bG.box):=cu w _ _;obtain⟨k1,k2⟩:=dh w r.box bG.box;have hz:((w.alloc r.box).alloc bG.box).heap.size=w.heap.size+1+1:=by simp
 unfold RV.val RV.cells;go_in;go_wp2_with fail;generalize hg:(w.alloc _).alloc _=W0;have e:(w.alloc r.box).alloc bG.box=W0:=by simp only[RV.box,RV.cells,bG,zeroV];exact hg
 rw[e] at hb0 k1 k2 hz;clear hg e;have hc:=Gs r.op c _ (ho.later hb0);unfold OV.val at hc;refine hc.mono ?_;rintro e w1 ⟨u,rfl,hC,hO,hb1⟩;have q1:=(hb1.block w.heap.size (by omega)).trans k1;have q2:=(hb1.block (w.heap.size+1) (by omega)).trans k2;have hb2:=hb0.trans (hb1.mono hb0.size);obtain⟨c0,c1,c2,c3,c4,c5,c6,c7,c8,c9⟩:=gY q1;have ga:∀i,i<=1->∀a,u.ao=some a->a.block≠w.heap.size+i:=fun i hi a ha=>by have h2:=hC.fa a ha;omega
 have gb:∀i,i<=1->∀a,u.bo=some a->a.block≠w.heap.size+i:=fun i hi a ha=>by have h2:=hC.fb a ha;omega
 have gc:∀i,i<=1->∀a,u.co=some a->a.block≠w.heap.size+i:=fun i hi a ha=>by have h2:=hC.fc a ha;omega
 have HC:=hid (hC.low hb0.size);clear hC;unfold OV.val;go_upto_region 2 with fail;clear c0 c1 c2 c3 c4 c5 c6 c7 c8 c9;generalize hg:World.setCell _ _ _=W4;have e:kG w1 w.heap.size u=W4:=hg;clear hg;have p1:W4.heap[w.heap.size]?=some (RV.box ⟨r.cl,r.nu,u⟩):=by rw[<-e];exact qN q1
 have p2:W4.heap[w.heap.size+1]?=some bG.box:=by rw[<-e];exact ah (ah (ah (ah (ah (ah (ah q2 (by omega)) (by omega)) (by omega)) (by omega)) (by omega)) (by omega)) (by omega)
 have p3:OpAt W4 u c:=by rw[<-e];exact BB hO (ga 0 (by omega)) (gb 0 (by omega)) (gc 0 (by omega))
 have p4:Below w.heap.size w W4:=by rw[<-e];exact jO hb2 (yag _)
 clear e;obtain⟨c0,c1,c2,c3,c4,c5,c6,c7,c8,-⟩:=gY p1;obtain⟨d0,d1,d2,d3,d4,d5,d6,d7,d8,d9⟩:=gY p2;dsimp only at c0 c1 c2 c3 c4 c5 c6 c7 c8;go_wp2_with fail;have hF:(vG W4 (w.heap.size+1) ⟨r.cl,r.nu,u⟩).heap[w.heap.size+1]?=some (RV.box ⟨r.cl,r.nu,u⟩):=JI p2;refine yay (w:=vG W4 (w.heap.size+1) ⟨r.cl,r.nu,u⟩) (EH (i:=2) rfl rfl hF) rfl ⟨u,rfl,HC.out,Ky p3 (ga 1 (yag _)) (gb 1 (yag _)) (gc 1 (yag _)),Eo p4 (by omega)⟩
structure EV where
 name:ByteArray
 ao:Option Addr
 an:Nat
 ac:Nat
def EV.cells (v:EV):Array Value:=#[.string v.name,.slice v.ao v.an v.ac]
def EV.val (v:EV):Value:=.agg v.cells
def EV.box (v:EV):Obj:=.cells v.cells 124
structure EAt (W:World)(v:EV)(x:List (ByteArray×ByteArray)):Prop where
 a:Rd W 2 v.ao v.an v.ac (atV x)
 la:v.an<=9223372036854775807
theorem EAt.later{W':World}{v:EV}{x:List (ByteArray×ByteArray)}(h:EAt W v x)(hb:Below W.heap.size W W'):EAt W' v x:=⟨h.a.later hb,h.la⟩
theorem fA{v:EV}(h:W.heap[B]?=some v.box):W.cell? ⟨B,0,none⟩=some (.string v.name)/\W.cell? ⟨B,1,none⟩=some (.slice v.ao v.an v.ac)/\∀i,W.frozen? ⟨B,i,none⟩=false:=by
 unfold EV.box EV.cells at h;simp[World.cell?,World.frozen?,h]
def bZ (v:EV)(x:List (ByteArray×ByteArray))(v':EV)(x':List (ByteArray×ByteArray)):Bool:=decide (v.name=v'.name)&&decide (x=x')
def aB (v:EV)(x:List (ByteArray×ByteArray)):Bool:=aT v.name&&bI x
theorem BM(v v':EV)(x x':List (ByteArray×ByteArray))(w:World)(h:EAt w v x)(h':EAt w v' x'):Calls Tryz.prog 173 #[v.val,v'.val] w (GivesB (bZ v x v' x') w):=by
 have hb0:Below w.heap.size w ((w.alloc v.box).alloc v'.box):=cu w _ _;obtain⟨k1,k2⟩:=dh w v.box v'.box;have hsame:=BH v.ao v'.ao v.an v'.an v.ac v'.ac x x' _ (h.a.later hb0) (h'.a.later hb0) h.la;unfold EV.box EV.cells at hb0 k1 k2 hsame;unfold EV.val EV.cells;by_cases e1:v.name=v'.name
 case neg=>
  have f1:(v.name.toList==v'.name.toList)=false:=nz e1;have Hs:Hid (bZ v x v' x'=false):=hid (by unfold bZ;rw[yad e1];simp);clear e1 hsame;go_in;go_wp2_with fail;go_ret;exact⟨by rw[Hs.out];rfl,hb0⟩
 have f1:(v.name.toList==v'.name.toList)=true:=by simp[e1]
 have Hs:Hid (bZ v x v' x'=decide (x=x')):=hid (by unfold bZ;rw[yaa e1];simp);clear e1;go_in;go_wp2_with fail;refine hsame.mono ?_;rintro e w1 ⟨rfl,hb1⟩;rw[<-Hs.out];go_wp2_with fail;go_ret;exact⟨rfl,hb0.trans (hb1.mono hb0.size)⟩
theorem zZ(v v':EV)(x x':List (ByteArray×ByteArray))(w:World)(h:EAt w v x)(h':EAt w v' x'):Calls Tryz.prog 57 #[v.val,v'.val] w (GivesB (bZ v x v' x') w):=by
 have hb0:Below w.heap.size w ((w.alloc v.box).alloc v'.box):=cu w _ _;obtain⟨k1,k2⟩:=dh w v.box v'.box;have hsame:=sJ v.ao v'.ao v.an v'.an v.ac v'.ac x x' _ (h.a.later hb0) (h'.a.later hb0) h.la;unfold EV.box EV.cells at hb0 k1 k2 hsame;unfold EV.val EV.cells;by_cases e1:v.name=v'.name
 case neg=>
  have f1:(v.name.toList==v'.name.toList)=false:=nz e1;have Hs:Hid (bZ v x v' x'=false):=hid (by unfold bZ;rw[yad e1];simp);clear e1 hsame;go_in;go_wp2_with fail;go_ret;exact⟨by rw[Hs.out];rfl,hb0⟩
 have f1:(v.name.toList==v'.name.toList)=true:=by simp[e1]
 have Hs:Hid (bZ v x v' x'=decide (x=x')):=hid (by unfold bZ;rw[yaa e1];simp);clear e1;go_in;go_wp2_with fail;refine hsame.mono ?_;rintro e w1 ⟨rfl,hb1⟩;rw[<-Hs.out];go_wp2_with fail;go_ret;exact⟨rfl,hb0.trans (hb1.mono hb0.size)⟩
theorem qi(v:EV)(x:List (ByteArray×ByteArray))(w:World)(h:EAt w v x):Calls Tryz.prog 145 #[v.val] w (GivesB (aB v x) w):=by
 have hb0:=bN w v.box;have k0:=aN w v.box
 unfold EV.box EV.cells at hb0 k0;unfold EV.val EV.cells;go_in;go_upto_region 1 with fail;generalize hg:w.alloc _=W0 at *;have k0f:W0.heap[w.heap.size]?=some v.box:=k0;clear hg k0;obtain⟨c0,c1,-⟩:=fA k0f;go_wp2_with fail;refine (rU v.name W0).mono ?_;rintro e W1 ⟨rfl,hb1⟩;have k1f:=hb1.q k0f;have hb1':=hb0.trans (hb1.mono hb0.size);clear c0 c1;obtain⟨c0,c1,-⟩:=fA k1f;cases hm:aT v.name with
 | false=>
  have HM:=hid hm;clear hm;go_wp2_with fail;go_ret;exact⟨by unfold aB;rw[HM.out];rfl,hb1'⟩
 | true=>
  have HM:=hid hm;clear hm;go_wp2_with fail;refine (qj v.ao v.an v.ac x W1 (h.a.later hb1') h.la).mono ?_;rintro e W2 ⟨rfl,hb2⟩;go_wp2_with fail;go_ret;exact⟨by unfold aB;rw[HM.out];rfl,hb1'.trans (hb2.mono hb1'.size)⟩
theorem uX(v:EV)(x:List (ByteArray×ByteArray))(w:World)(h:EAt w v x):Calls Tryz.prog 129 #[v.val] w (GivesB (aB v x) w):=by
 have hb0:=bN w v.box;have k0:=aN w v.box
 unfold EV.box EV.cells at hb0 k0;unfold EV.val EV.cells;go_in;go_upto_region 1 with fail;generalize hg:w.alloc _=W0 at *;have k0f:W0.heap[w.heap.size]?=some v.box:=k0;clear hg k0;obtain⟨c0,c1,-⟩:=fA k0f;go_wp2_with fail;refine (kU v.name W0).mono ?_;rintro e W1 ⟨rfl,hb1⟩;have k1f:=hb1.q k0f;have hb1':=hb0.trans (hb1.mono hb0.size);clear c0 c1;obtain⟨c0,c1,-⟩:=fA k1f;cases hm:aT v.name with
 | false=>
  have HM:=hid hm;clear hm;go_wp2_with fail;go_ret;exact⟨by unfold aB;rw[HM.out];rfl,hb1'⟩
 | true=>
  have HM:=hid hm;clear hm;go_wp2_with fail;refine (ve v.ao v.an v.ac x W1 (h.a.later hb1')).mono ?_;rintro e W2 ⟨rfl,hb2⟩;go_wp2_with fail;go_ret;exact⟨by unfold aB;rw[HM.out];rfl,hb1'.trans (hb2.mono hb1'.size)⟩
theorem Ae(v:EV)(x:List (ByteArray×ByteArray))(w:World)(h:EAt w v x):Calls Tryz.prog 144 #[v.val] w (GivesB (!aB v x) w):=by
 have hb0:=bN w v.box;have k0:=aN w v.box
 have hc:=qi v x _ (h.later hb0);unfold EV.box EV.cells at hb0 k0 hc;unfold EV.val EV.cells at hc;unfold EV.val EV.cells;go_in;go_wp2_with fail;refine hc.mono ?_;rintro e W1 ⟨rfl,hb1⟩;go_wp2_with fail;go_ret;exact⟨rfl,hb0.trans (hb1.mono hb0.size)⟩
def eX (v:EV)(x:List (ByteArray×ByteArray)):List UInt8:=val 1 v.name.data.toList++val 2 (aI x)
structure FitE (v:EV)(x:List (ByteArray×ByteArray)):Prop where
 name:v.name.size<=1000
 n:x.length<=50
 attrs:∀u∈x,u.1.size<=1000/\u.2.size<=1000
 len:(aI x).length<=100750
theorem JH{x:List (ByteArray×ByteArray)}(h1:x.length<=50)(h2:∀u∈x,u.1.size<=1000/\u.2.size<=1000):(aI x).length<=100750:=by
 have:=xx x x.length (yag _);rw[ybG] at this;rw[<-this];have h9:=ku (atE x) 2015 x.length (fun i hi=>by
  have:=h2 x[i] (ybK hi);simp only[atE,yac hi,ybD,ae,yab,gV];omega)
 exact yae h9 (ybc 2015 h1)
theorem FitE.of{v:EV}{x:List (ByteArray×ByteArray)}(h:aB v x=true):FitE v x:=by
 unfold aB bI at h;simp only[yaq,yaG] at h;obtain⟨h1,⟨h2,-⟩,h3⟩:=h;have ha:∀u∈x,u.1.size<=1000/\u.2.size<=1000:=fun u hu=>yP (ybX.1 h2 u hu);exact⟨ny h1,h3,ha,JH h3 ha⟩
theorem jD{v:EV}{x:List (ByteArray×ByteArray)}(h:aB v x=true):(eX v x).length<=101760:=by
 have f:=FitE.of h;have h1:=f.name;have h2:=f.len;have h3:v.name.data.toList.length=v.name.size:=gV _;unfold eX;rw[yab,ae,ae];omega
def OZ (v:EV)(x:List (ByteArray×ByteArray))(w:World)(e:Ending)(w':World):Prop:=∃(l:List UInt8) (ax:Option Addr) (cx:Nat) (ex:Int),e=.returned (.tuple #[.slice ax l.length cx,.int .i64 ex])/\Rd w' 1 ax l.length cx (byV l)/\Below w.heap.size w w'/\(∀a,ax=some a->w.heap.size<=a.block)/\(aB v x=true->l=eX v x/\ex=0)/\(aB v x=false->l=[]/\ex=2)
theorem DL(v:EV)(x:List (ByteArray×ByteArray))(w:World)(h:EAt w v x):Calls Tryz.prog 178 #[v.val] w (OZ v x w):=by
 have lx:x.length=v.an:=by have:=h.a.1;rw[fG] at this;omega
 have hb0:=bN w v.box;have k0:=aN w v.box
 unfold EV.box EV.cells at hb0 k0;unfold EV.val EV.cells;go_in;go_upto_region 1 with fail;generalize hg:w.alloc _=W0 at *;have k0f:W0.heap[w.heap.size]?=some v.box:=k0;have hh:=h.later hb0;clear hg k0;have hc:=qi v x W0 hh;unfold EV.val EV.cells at hc;obtain⟨c0,c1,-⟩:=fA k0f;go_wp2_with fail;refine hc.mono ?_;rintro e W1 ⟨rfl,hb1⟩;have k1f:=hb1.q k0f;have hb1':=hb0.trans (hb1.mono hb0.size);clear hc c0 c1;cases hm:aB v x with
 | false=>
  have HM:=hid hm;clear hm;go_wp2_with fail;go_ret2;exact⟨[],none,0,2,rfl,Rd.nil _ _,hb1',(fun a ha=>by cases ha),fun h=>(by rw[HM.out] at h;cases h),fun _=>⟨rfl,rfl⟩⟩
 | true=>
  have HM:=hid hm;have F:=FitE.of hm;have f1:=F.name;clear hm;obtain⟨c0,c1,-⟩:=fA k1f;have hw:WrS W1.heap.size W1.heap.size ⟨[],0⟩ (W1.alloc (.cells #[.slice none 0 0,.int .i64 0] 177)):=⟨_,aN _ _,yag _,yaC _ _ _ _⟩
  have hbw:=bN W1 (.cells #[.slice none 0 0,.int .i64 0] 177);have k2f:=hbw.q k1f;obtain⟨g0,g1,-⟩:=fA k2f;go_wp2_with fail;refine (mJ W1.heap.size W1.heap.size ⟨[],0⟩ 1 v.name _ hw (by decide) (by omega)).mono ?_;rintro e W3 ⟨rfl,hw3,hb3,-⟩;have hb13:=hbw.trans hb3;have k3f:=hb13.q k1f;clear c0 c1 g0 g1;obtain⟨c0,c1,-⟩:=fA k3f;go_wp2_with fail;have e1:(WS.put ⟨[],0⟩ 1 v.name.data.toList)=⟨val 1 v.name.data.toList,0⟩:=rfl;rw[e1] at hw3;have h3:=hh.later (hb1.trans (hb13.mono hb1.size));refine (zG W1.heap.size W1.heap.size _ 2 v.ao v.an v.ac x W3 hw3 rfl (by dsimp only;rw[ae,gV];omega) h3.a (by rw[<-lx];exact F.n) F.attrs).mono ?_;rintro e W4 ⟨⟨r,rfl⟩,hw4,hb4,-⟩;have hb14:=hb13.trans hb4;have e2:(WS.put ⟨val 1 v.name.data.toList,0⟩ 2 (aI x))=⟨eX v x,0⟩:=rfl;rw[e2] at hw4;obtain⟨vw,hw4⟩:=hw4;have hln:=jD HM.out;go_wp2_with fail;refine (sD _ _ _ _ _ hw4 (by omega)).mono ?_;rintro e W5 ⟨v5,rfl,ho5,hb5⟩;obtain⟨a5,c5,rfl,hr5⟩:=Rd.of_own ho5;have hf5:=kR ho5;have hz:=(hb1'.trans (hb14.mono hb1'.size))
  go_wp2_with fail;go_ret2;exact⟨_,a5,c5,0,rfl,hr5,hz.trans (hb5.mono hz.size),fun a ha=>yae hz.size (hf5 a ha),fun _=>⟨rfl,rfl⟩,fun h=>(by rw[HM.out] at h;cases h)⟩
end Msg
namespace Msg
open Go.RowKit Go.Lib Mem Utf Tlv
variable{W W' w:World}{v:EV}
structure EbAt (w:World)(v:EV)(W:World):Prop where
 o:W.heap[w.heap.size]?=some v.box
 bel:Below w.heap.size w W
theorem EbAt.step(h:EbAt w v W)(hb:Below W.heap.size W W'):EbAt w v W':=⟨(hb.q h.o),h.bel.trans (hb.mono h.bel.size)⟩
theorem EbAt.turn{B:Nat}(h:EbAt w v W)(hb:Below B W W')(hB:w.heap.size<B):EbAt w v W':=⟨(hb.block _ hB).trans h.o,h.bel.trans (hb.mono (by omega))⟩
theorem KT(v:EV)(x:List (ByteArray×ByteArray))(w:World)(h:EAt w v x)(hf:FitE v x):Calls Tryz.prog 130 #[v.val] w (jw w (eX v x)):=by
 have hmo:=hmO
 have lx:x.length=v.an:=by have:=h.a.1;rw[fG] at this;omega
 have hmn:v.name.size<=maxLen:=by have:=hf.name;unfold maxLen;omega
 have hnN:v.name.size<=4194304:=by have:=hf.name;omega
 have han:v.an<=1000:=by have:=hf.n;omega
 have hattr:=hf.attrs;have hA1:(aI x).length<=200000:=by have:=hf.len;omega
 obtain⟨Vn,hVn⟩:∃V,val 1 v.name.data.toList=V:=⟨_,rfl⟩
 obtain⟨Va,hVa⟩:∃V,val 2 (aI x)=V:=⟨_,rfl⟩
 have ln:Vn.length<=300000:=by rw[<-hVn,ae,dI];have:=hf.name;omega
 have lA:Va.length<=300000:=by rw[<-hVa,ae];omega
 have hent:eX v x=Vn++Va:=by unfold eX;rw[hVn,hVa]
 have HE:=hid hent;have HVn:=hid hVn;have HVa:=hid hVa;clear hent hVn hVa hf lx;have hb0:=bN w v.box;have k0:=aN w v.box
 unfold EV.box EV.cells at hb0 k0;unfold EV.val EV.cells;go_in;go_upto_region 1 with fail;generalize hg:w.alloc _=W0 at *;have s0:EbAt w v W0.drew:=(⟨k0,hb0⟩:EbAt w v W0).step (yaj _ _).drew;clear hg k0 hb0;refine yaB (S:=EbAt w v) hmo ?_;change wpAnyH _ _ _ _ _ _ _ _ (World.drew W0);generalize World.drew W0=X0 at *;have zf0:=fun (w0:World) (h:EbAt w v w0)=>fA h.o;refine zp 0 (pp w.heap.size 0) rfl ?_;go_simp;refine zv 1 (.string v.name) rfl ?_;go_simp;refine zp 4 (pp w.heap.size 1) rfl ?_;go_simp;refine zv 5 (.slice v.ao v.an v.ac) rfl ?_;go_simp;refine zH1 2 rfl (fun K hK=>?_);obtain⟨k2,X1,hrun,r2,hb1⟩:=gI v.name hmn X0;go_simp;have s1:=s0.step hb1;clear hrun;refine hK _ _ ⟨s1,?_⟩;clear hK K;refine zH1 3 rfl (fun K hK=>?_);go_simp;refine (aW 1 v.name.data.toList _ _ _ X1 hnN r2).mono ?_;rintro e X2 ⟨v3,rfl,o3,hb2⟩;rw[HVn.out] at o3;have s2:=s1.step hb2;have hB:w.heap.size<X1.heap.size:=(ybA.1 s1.o).1;go_simp;refine hK _ _ ⟨s2,?_⟩;clear hK K;refine zH1 6 rfl (fun K hK=>?_);go_simp;refine (yT 2 _ _ _ x X2 (h.later s2.bel).a han hattr hA1).mono ?_;rintro e X3 ⟨v6,rfl,o6,hb3⟩;rw[HVa.out] at o6;have s3:=s2.step hb3;have o4:=ag o3 hb3;have z3:X1.heap.size<=X3.heap.size:=yae hb2.size hb3.size;go_simp;refine hK _ _ ⟨s3,?_⟩;clear hK K;refine zH1 7 rfl (fun K hK=>?_);obtain⟨ya,yk,e6,yr⟩:=Rd.of_own o6;subst e6;refine di rfl (.tmp 6) (.tmp 9) 34 rfl X1.heap.size 5 (.int .u8 0) 1 1 Tlv.byT v3 _ _ rfl o4 ya _ yk _ rfl yr (bM _) (by unfold maxLen;omega) (by omega) z3 ?_;intro a7 k7 X4 x7 _ hb4 _;have s4:=s3.turn hb4 hB;refine hK _ _ ⟨s4,?_⟩;clear hK K;refine zp 8 (.slice a7 (Vn.length+Va.length) k7) rfl ?_;go_simp;refine zd ?_;go_wp2_with fail;go_ret;refine⟨_,rfl,own_base ?_ (yaZ hB),s4.bel⟩;rw[HE.out];simp only[yab,dS];exact x7
def zeroE:EV:=⟨⟨#[]⟩,none,0,0⟩
def QR (v:EV)(x:List (ByteArray×ByteArray))(w:World)(e:Ending)(w':World):Prop:=∃u:EV,e=.returned u.val/\u.name=v.name/\u.an=v.an/\EAt w' u x/\(∀a,u.ao=some a->w.heap.size<=a.block)/\Below w.heap.size w w'
structure EcAt (w:World)(v:EV)(W:World):Prop where
 o:W.heap[w.heap.size]?=some v.box
 z:W.heap[w.heap.size+1]?=some zeroE.box
 bel:Below w.heap.size w W
theorem EcAt.step(h:EcAt w v W)(hb:Below W.heap.size W W'):EcAt w v W':=⟨(hb.q h.o),(hb.q h.z),h.bel.trans (hb.mono h.bel.size)⟩
theorem EZ{f:Func}{i:Nat}{tmps:Array Value}{b:Nat}{r:EV}(hr:f.results=#[.cell i 124])(hp:tmps.getD i undef=.pointer (some ⟨b,0,none⟩))(h:W.heap[b]?=some r.box):(results f tmps).run Tryz.prog W=.ok r.val W:=by
 obtain⟨c0,c1,-⟩:=fA h;simp only[results,hr];have hp':tmps[i]?.getD undef=.pointer (some ⟨b,0,none⟩):=by simpa using hp
 unfold EV.val EV.cells;simp[hp',asAddr];go_simp
theorem Et(v:EV)(x:List (ByteArray×ByteArray))(w:World)(h:EAt w v x)(hla:v.an<=1000000000):Calls Tryz.prog 97 #[v.val] w (QR v x w):=by
 have hmo:=hmO
 have hb0:Below w.heap.size w ((w.alloc v.box).alloc zeroE.box):=cu w _ _;obtain⟨k1,k2⟩:=dh w v.box zeroE.box;unfold zeroE EV.box EV.cells at hb0 k1 k2;unfold EV.val EV.cells;go_in;go_upto_region 1 with fail;generalize hg:World.alloc _ _=W0 at *;have s0:EcAt w v W0.drew:=(⟨k1,k2,hb0⟩:EcAt w v W0).step (yaj _ _).drew;clear hg k1 k2 hb0;refine dN (k:=6) (S:=EcAt w v) hmo ?_;change bV _ _ _ _ _ _ _ _ _ (World.drew W0);generalize World.drew W0=X0 at *;have zf0:=fun (w0:World) (h:EcAt w v w0)=>fA h.o;refine ztp 0 (pp w.heap.size 0) rfl ?_;go_simp;refine ztv 1 (.string v.name) rfl ?_;go_simp;refine ztp 2 (pp w.heap.size 1) rfl ?_;go_simp;refine ztv 3 (.slice v.ao v.an v.ac) rfl ?_;go_simp;refine zT1 4 rfl (fun K hK=>?_);go_simp;refine (Bz v.ao v.an v.ac x X0 (h.later s0.bel).a hla).mono ?_;rintro e X1 ⟨a4,k4,rfl,r4,hb1,hf4,-⟩;have s1:=s0.step hb1;go_simp;refine hK _ _ ⟨.inr s1,?_⟩;clear hK K;refine ztv 5 (.agg #[.string v.name,.slice a4 v.an k4]) rfl ?_;go_simp;refine nM (by kernel_rfl) (by kernel_rfl) ?_;refine zA1 6 rfl (fun K hK=>?_);go_simp;obtain⟨d0,d1,d2⟩:=fA s1.z;unfold zeroE at d0 d1;dsimp only at d0 d1;go_simp;refine hK _ _ ?_;clear hK K;refine yby (by kernel_rfl) ?_ _;have hB:w.heap.size+1<X0.heap.size:=lA s0.z;have hz:=s0.bel.size;have hF:((X1.setCell ⟨w.heap.size+1,0,none⟩ (.string v.name)).setCell ⟨w.heap.size+1,1,none⟩ (.slice a4 v.an k4)).heap[w.heap.size+1]?=some (EV.box ⟨v.name,a4,v.an,k4⟩):=(at_set (at_set s1.z)).trans (by kernel_rfl);have hne:∀a,a4=some a->a.block≠w.heap.size+1:=fun a ha=>by have:=hf4 a ha;omega
 have hR:=sS (sS r4 ⟨w.heap.size+1,0,none⟩ (.string v.name) hne) ⟨w.heap.size+1,1,none⟩ (.slice a4 v.an k4) hne;have hB2:=(s1.bel.setCell (p:=⟨w.heap.size+1,0,none⟩) (ycG _) (.string v.name)).setCell (p:=⟨w.heap.size+1,1,none⟩) (ycG _) (.slice a4 v.an k4);generalize World.setCell _ _ _=W4 at *;go_wp2_with fail;exact yay (w:=W4) (EZ (i:=2) rfl rfl hF) rfl ⟨⟨v.name,a4,v.an,k4⟩,rfl,rfl,rfl,⟨hR,h.la⟩,fun a ha=>yae hz (hf4 a ha),hB2⟩
end Msg
namespace Msg
open Go.RowKit Go.Lib Mem Tlv
variable{W W':World}{ao:Option Addr}{cap n:Nat}
abbrev EP:=EV×List (ByteArray×ByteArray)
def enV (l:List EP):List Value:=l.flatMap fun p=>p.1.cells.toList
theorem QP(l:List EP):(enV l).length=l.length*2:=by
 induction l with
 | nil=>rfl
 | cons p l ih=>simp only[enV,yaH,yab,EV.cells,yaF] at ih ⊢;simp only[ybj];omega
theorem nD:∀(l:List EP) (k:Nat) (p:EP),l[k]?=some p->(enV l)[k*2]?=some (.string p.1.name)/\(enV l)[k*2+1]?=some (.slice p.1.ao p.1.an p.1.ac)
 | [],k,p,h=>by simp at h
 | q::l,0,p,h=>by
  obtain rfl:q=p:=by simpa using h
  exact⟨rfl,rfl⟩
 | q::l,k+1,p,h=>by
  obtain⟨h1,h2⟩:=nD l k p (by simpa using h);have e1:(k+1)*2=k*2+1+1:=by omega
  have e:enV (q::l)=.string q.1.name::.slice q.1.ao q.1.an q.1.ac::enV l:=rfl;rw[e,e1];exact⟨h1,h2⟩
structure EnAt (W:World)(ao:Option Addr)(n cap:Nat)(l:List EP):Prop where
 r:Rd W 2 ao n cap (enV l)
 each:∀p∈l,EAt W p.1 p.2
theorem EnAt.later{l:List EP}(h:EnAt W ao n cap l)(hb:Below W.heap.size W W'):EnAt W' ao n cap l:=⟨h.r.later hb,fun p hp=>(h.each p hp).later hb⟩
theorem EnAt.len{l:List EP}(h:EnAt W ao n cap l):l.length=n:=by have:=h.r.1;rw[QP] at this;omega
theorem Ls(ao:Option Addr)(n cap:Nat)(x:List EP)(w:World)(h:EnAt w ao n cap x) :
  Calls Tryz.prog 174 #[.slice ao n cap,.func (.func 144) #[] #[]] w (zg (x.any fun u=>!aB u.1 u.2) w):=by
 have lx:=h.len;have hx:=h.r;have LX:=hid lx;have hcap:n<=9223372036854775807:=by have:=hx.2.1;have:=hx.2.2.1;unfold maxLen at this;omega
 clear lx;go_in;go_wp2_with fail;go_loopw [8] (fun p wr=>∃k:Nat,k<=n/\p=.int .i64 (k:Int)/\Hid ((x.take k).any (fun u=>!aB u.1 u.2)=false)/\Below w.heap.size w wr) (fun p _=>n-(intOf p).toNat)
 case atStart=>exact⟨0,yam _,rfl,hid rfl,yaj _ _⟩
 case round=>
  obtain⟨k,hk,rfl,Ht,hbr⟩:=hrel;by_cases hkn:k<n
  ·obtain⟨b1,o1,rfl,hl1,hc1⟩:=hx.some (by have:=hx.le;omega);obtain⟨u,hu⟩:∃u,x[k]?=some u:=⟨_,yac (by rw[LX.out];exact hkn)⟩
   obtain⟨v1,v2⟩:=nD x k u hu;have c1:=(hbr.cell (p:=⟨b1,o1+k*2,none⟩) hl1).trans (hc1 (k*2) _ v1);have c2:wr.cell? ⟨b1,o1+k*2+1,none⟩=_:=(hbr.cell (p:=⟨b1,o1+(k*2+1),none⟩) hl1).trans (hc1 (k*2+1) _ v2);have hE:=(h.each u (yan hu)).later hbr;have hc:=fun W (hb:Below wr.heap.size wr W)=>Ae u.1 u.2 W (hE.later hb);unfold EV.val EV.cells at hc;clear v1 v2;have i0:(0:Int)<=(k:Int):=by omega
   have i1:(k:Int)<(n:Int):=by omega
   go_wp2_with fail;refine (hc _ (by first | exact yaj _ _ | exact bN _ _)).mono ?_;rintro e w1 ⟨rfl,hb1⟩;have hb2:=hbr.trans (hb1.mono hbr.size);by_cases hm:(!aB u.1 u.2)=true
   ·have Hs:=hid (tV (fun u:EP=>!aB u.1 u.2) x k u hu hm);rw[hm];go_wp2_with fail;go_ret;exact⟨k,rfl,by rw[Hs.out];simp,hb2⟩
   have hm2:(!aB u.1 u.2)=false:=by simpa using hm
   have Hs:=hid (pR (fun u:EP=>!aB u.1 u.2) x k u hu Ht.out hm2);rw[hm2];go_wp2_with fail;go_roundw
   case rel=>exact⟨k+1,by omega,by go_num,Hs,hb2⟩
   case measure=>simp[intOf];omega
  have Hs:Hid (x.any (fun u=>!aB u.1 u.2)=false):=hid (by have:=Ht.out;rw[yak (by rw[LX.out];omega)] at this;exact this);have hkn2:k=n:=by omega
  subst hkn2;go_wp2_with fail;go_ret;exact⟨-1,rfl,by rw[Hs.out];rfl,hbr⟩
theorem DF(ao:Option Addr)(n cap:Nat)(x:List EP)(w:World)(hx:EnAt w ao n cap x) :
  Calls Tryz.prog 143 #[.slice ao n cap,.func (.func 144) #[] #[]] w (GivesB (x.any fun u=>!aB u.1 u.2) w):=by
 go_in;go_wp2_with fail;refine (Ls _ _ _ x _ hx).mono ?_;rintro e w1 ⟨r,rfl,hr,hb1⟩;have Hr:=hid hr;clear hr;go_wp2_with fail;go_ret;exact⟨by rw[<-Hr.out];rfl,hb1⟩
def aP:List EP->List EP->Bool
 | [],[]=>true
 | p::l,q::m=>bZ p.1 p.2 q.1 q.2&&aP l m
 | _,_=>false
theorem kQ:∀ {l m:List EP},aP l m=true->l.length=m.length
 | [],[],_=>rfl
 | p::l,q::m,h=>by
  unfold aP at h;simp only[yaq] at h;simp[kQ h.2]
 | [],_::_,h=>by cases h
 | _::_,[],h=>by cases h
theorem pY:∀(l m:List EP) (k:Nat),aP (l.take k) (m.take k)=false->l.length=m.length->aP l m=false
 | [],[],_,h,_=>by simp[aP] at h
 | p::l,q::m,0,h,_=>by simp[aP] at h
 | p::l,q::m,k+1,h,hl=>by
  rw[ybb,ybb] at h;unfold aP at h ⊢;cases h1:bZ p.1 p.2 q.1 q.2 with
  | false=>rfl
  | true=>
   rw[h1,yaX] at h;rw[yaX];exact pY l m k h (by simpa using hl)
 | [],_::_,_,_,hl=>by simp at hl
 | _::_,[],_,_,hl=>by simp at hl
theorem lS:∀(l m:List EP) (k:Nat) (p q:EP),l[k]?=some p->m[k]?=some q->aP (l.take (k+1)) (m.take (k+1))=(aP (l.take k) (m.take k)&&bZ p.1 p.2 q.1 q.2)
 | [],_,k,p,q,h,_=>by simp at h
 | _::_,[],k,p,q,_,h=>by simp at h
 | a::l,b::m,0,p,q,h1,h2=>by
  obtain rfl:a=p:=by simpa using h1
  obtain rfl:b=q:=by simpa using h2
  simp[aP]
 | a::l,b::m,k+1,p,q,h1,h2=>by
  have:=lS l m k p q (by simpa using h1) (by simpa using h2);rw[ybb,ybb,ybb,ybb];unfold aP;rw[this,Bool.and_assoc]
theorem GG(ao bo:Option Addr)(n m cap cbp:Nat)(x y:List EP)(w:World)(hx:EnAt w ao n cap x)(hy:EnAt w bo m cbp y) :
  Calls Tryz.prog 172 #[.slice ao n cap,.slice bo m cbp,.func (.func 173) #[] #[]] w (GivesB (aP x y) w):=by
 have lx:=hx.len;have ly:=hy.len;have hcap:n<=9223372036854775807:=by have:=hx.r.2.1;have:=hx.r.2.2.1;unfold maxLen at this;omega
 by_cases hnm:n=m
 case neg=>
  have f1:((n:Int)==(m:Int))=false:=by rw[yap];omega
  have Hs:Hid (aP x y=false):=hid (by
   cases h:aP x y with
   | false=>rfl
   | true=>have:=kQ h;omega)
  clear lx ly;go_in;go_wp2_with fail;go_ret;exact⟨by rw[Hs.out];rfl,yaj _ _⟩
 subst hnm;have LX:=hid lx;have LY:=hid ly;clear lx ly;go_in;go_wp2_with fail;go_loopw [17] (fun p wr=>∃k:Nat,k<=n/\p=.int .i64 (k:Int)/\Hid (aP (x.take k) (y.take k)=true)/\Below w.heap.size w wr) (fun p _=>n-(intOf p).toNat)
 case atStart=>exact⟨0,yam _,rfl,hid rfl,yaj _ _⟩
 case round=>
  obtain⟨k,hk,rfl,Ht,hbr⟩:=hrel;by_cases hkn:k<n
  ·obtain⟨b1,o1,rfl,hl1,hc1⟩:=hx.r.some (by have:=hx.r.le;omega);obtain⟨b2,o2,rfl,hl2,hc2⟩:=hy.r.some (by have:=hy.r.le;omega);obtain⟨u,hu⟩:∃u,x[k]?=some u:=⟨_,yac (by rw[LX.out];exact hkn)⟩
   obtain⟨v,hv⟩:∃v,y[k]?=some v:=⟨_,yac (by rw[LY.out];exact hkn)⟩
   obtain⟨v1,v2⟩:=nD x k u hu;obtain⟨v3,v4⟩:=nD y k v hv;have c1:=(hbr.cell (p:=⟨b1,o1+k*2,none⟩) hl1).trans (hc1 (k*2) _ v1);have c2:wr.cell? ⟨b1,o1+k*2+1,none⟩=_:=(hbr.cell (p:=⟨b1,o1+(k*2+1),none⟩) hl1).trans (hc1 (k*2+1) _ v2);have hbA:=bN wr u.1.box;have c3:=((hbr.trans (hbA.mono hbr.size)).cell (p:=⟨b2,o2+k*2,none⟩) hl2).trans (hc2 (k*2) _ v3);have c4:(wr.alloc u.1.box).cell? ⟨b2,o2+k*2+1,none⟩=_:=((hbr.trans (hbA.mono hbr.size)).cell (p:=⟨b2,o2+(k*2+1),none⟩) hl2).trans (hc2 (k*2+1) _ v4);have hb0:Below wr.heap.size wr ((wr.alloc u.1.box).alloc v.1.box):=cu wr _ _;obtain⟨k1,k2⟩:=dh wr u.1.box v.1.box;have hE1:=(hx.each u (yan hu)).later hbr;have hE2:=(hy.each v (yan hv)).later hbr;have hc:=BM u.1 v.1 u.2 v.2 _ (hE1.later hb0) (hE2.later hb0);have hnx:=lS x y k u v hu hv;rw[Ht.out,yaX] at hnx;have HN:=hid hnx;unfold EV.val EV.box EV.cells at hc;unfold EV.box EV.cells at c3 c4 hb0 k1 k2 hbA;clear v1 v2 v3 v4 hnx;have i0:(0:Int)<=(k:Int):=by omega
   have i1:(k:Int)<(n:Int):=by omega
   go_wp2_with fail;refine hc.mono ?_;rintro e w1 ⟨rfl,hb1⟩;have hb2:=hbr.trans ((hb0.trans (hb1.mono hb0.size)).mono hbr.size);cases hm:bZ u.1 u.2 v.1 v.2 with
   | false=>
    have Hs:Hid (aP x y=false):=hid (pY x y (k+1) (by rw[HN.out];exact hm) (by rw[LX.out,LY.out]));clear hm;go_wp2_with fail;go_ret;exact⟨by rw[Hs.out];rfl,hb2⟩
   | true=>
    have Hs:Hid (aP (x.take (k+1)) (y.take (k+1))=true):=hid (by rw[HN.out];exact hm);clear hm;go_wp2_with fail;go_roundw
    case rel=>exact⟨k+1,by omega,by go_num,Hs,hb2⟩
    case measure=>simp[intOf];omega
  have Hs:Hid (aP x y=true):=hid (by have:=Ht.out;rw[yak (by rw[LX.out];omega),yak (by rw[LY.out];omega)] at this;exact this);have hkn2:k=n:=by omega
  subst hkn2;go_wp2_with fail;go_ret;exact⟨by rw[Hs.out];rfl,hbr⟩
structure QV where
 code:Int
 yes:Bool
 eo:Option Addr
 en:Nat
 ec:Nat
 co:Option Addr
 cn:Nat
 cc:Nat
def QV.cells (v:QV):Array Value:=#[.int .i64 v.code,.bool v.yes,.slice v.eo v.en v.ec,.slice v.co v.cn v.cc]
def QV.val (v:QV):Value:=.agg v.cells
def QV.box (v:QV):Obj:=.cells v.cells 39
structure QC where
 ents:List EP
 cursor:List UInt8
structure QAt (W:World)(v:QV)(c:QC):Prop where
 e:EnAt W v.eo v.en v.ec c.ents
 c:Rd W 1 v.co v.cn v.cc (byV c.cursor)
 lc:v.cn<=1000000000
theorem QAt.later{v:QV}{c:QC}(h:QAt W v c)(hb:Below W.heap.size W W'):QAt W' v c:=⟨h.e.later hb,h.c.later hb,h.lc⟩
theorem bf{B:Nat}{v:QV}(h:W.heap[B]?=some v.box):W.cell? ⟨B,0,none⟩=some (.int .i64 v.code)/\W.cell? ⟨B,1,none⟩=some (.bool v.yes)/\W.cell? ⟨B,2,none⟩=some (.slice v.eo v.en v.ec)/\W.cell? ⟨B,3,none⟩=some (.slice v.co v.cn v.cc)/\∀i,W.frozen? ⟨B,i,none⟩=false:=by
 unfold QV.box QV.cells at h;simp[World.cell?,World.frozen?,h]
def aF (v:QV)(c:QC)(v':QV)(c':QC):Bool:=decide (v.code=v'.code)&&(decide (v.yes=v'.yes)&&(aP c.ents c'.ents&&decide (c.cursor=c'.cursor)))
theorem wP{w:World}{v v':QV}(h1:W.heap[w.heap.size]?=some v.box)(h2:W.heap[w.heap.size+1]?=some v'.box)(hb:Below W.heap.size W W'):W'.heap[w.heap.size]?=some v.box/\W'.heap[w.heap.size+1]?=some v'.box:=
 ⟨(hb.q h1),(hb.q h2)⟩
theorem xM(v v':QV)(c c':QC)(w:World)(h:QAt w v c)(h':QAt w v' c'):Calls Tryz.prog 139 #[v.val,v'.val] w (GivesB (aF v c v' c') w):=by
 have hb0:Below w.heap.size w ((w.alloc v.box).alloc v'.box):=cu w _ _;obtain⟨k1,k2⟩:=dh w v.box v'.box;have hE:=GG v.eo v'.eo v.en v'.en v.ec v'.ec c.ents c'.ents _ (h.e.later hb0) (h'.e.later hb0);unfold QV.box QV.cells at hb0 k1 k2 hE;unfold QV.val QV.cells;by_cases e1:v.code=v'.code
 case neg=>
  have f1:(v.code==v'.code)=false:=by simp[e1]
  have Hs:Hid (aF v c v' c'=false):=hid (by unfold aF;rw[yad e1];simp);clear e1 hE;go_in;go_wp2_with fail;go_ret;exact⟨by rw[Hs.out];rfl,hb0⟩
 have f1:(v.code==v'.code)=true:=by simp[e1]
 by_cases e2:v.yes=v'.yes
 case neg=>
  have f2:(v.yes==v'.yes)=false:=by simp[e2]
  have Hs:Hid (aF v c v' c'=false):=hid (by unfold aF;rw[yad e2];simp);clear e1 e2 hE;go_in;go_wp2_with fail;go_ret;exact⟨by rw[Hs.out];rfl,hb0⟩
 have f2:(v.yes==v'.yes)=true:=by simp[e2]
 have Hs:Hid (aF v c v' c'=(aP c.ents c'.ents&&decide (c.cursor=c'.cursor))):=hid (by unfold aF;rw[yaa e1,yaa e2];simp);clear e1 e2;go_in;go_upto_region 1 with fail;generalize hg:World.alloc _ _=W0 at *;have q1:W0.heap[w.heap.size]?=some v.box:=k1;have q2:W0.heap[w.heap.size+1]?=some v'.box:=k2;clear hg k1 k2;obtain⟨c0,c1,c2,c3,-⟩:=bf q1;obtain⟨d0,d1,d2,d3,-⟩:=bf q2;go_wp2_with fail;refine hE.mono ?_;rintro e W1 ⟨rfl,hb1⟩;obtain⟨q1',q2'⟩:=wP q1 q2 hb1;have hbel:=hb0.trans (hb1.mono hb0.size);clear c0 c1 c2 c3 d0 d1 d2 d3 hE q1 q2;obtain⟨c0,c1,c2,c3,-⟩:=bf q1';obtain⟨d0,d1,d2,d3,-⟩:=bf q2';cases hm:aP c.ents c'.ents with
 | false=>
  have HM:=hid hm;clear hm;go_wp2_with fail;go_ret;exact⟨by rw[Hs.out,HM.out];rfl,hbel⟩
 | true=>
  have HM:=hid hm;clear hm;go_wp2_with fail;refine (wz v.co v'.co v.cn v'.cn v.cc v'.cc c.cursor c'.cursor W1 (h.c.later hbel) (h'.c.later hbel) h.lc).mono ?_;rintro e W2 ⟨rfl,hb2⟩;go_wp2_with fail;go_ret;exact⟨by rw[Hs.out,HM.out,yaX];rfl,hbel.trans (hb2.mono hbel.size)⟩
