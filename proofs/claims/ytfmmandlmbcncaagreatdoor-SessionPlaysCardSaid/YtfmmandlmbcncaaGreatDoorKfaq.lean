/-A part of the proof.-/
import Derived.Test.YtfmmandlmbcncaaGreatDoorKfap
set_option maxHeartbeats 40000000
set_option maxRecDepth 100000
set_option linter.all false
namespace Go.Proofs.YtfmmandlmbcncaaGreatDoor
namespace Msg
open Go.RowKit Go.Lib Mem Utf Tlv
theorem sO (xs:List El)(k:Nat)(u:El)(h:xs[k]?=some u):(lsV xs)[k]?=some (.slice u.ao u.it.2.length u.cap):=by simp[lsV,h]
theorem PZ (xs:List El):(lsV xs).length=xs.length:=by simp[lsV]
def elB (xs:List El):List (List UInt8):=xs.map fun x=>x.it.2
theorem Ir (xs:List El)(k:Nat)(u:El)(h:xs[k]?=some u):aK 1 (elB (xs.take (k+1)))=aK 1 (elB (xs.take k))++val 1 u.it.2:=by
 rw[yaE,h];simp[elB,aK]
theorem O0 (xs:List El)(k:Nat):(aK 1 (elB (xs.take k))).length<=(aK 1 (elB xs)).length:=by
 have e:aK 1 (elB xs)=aK 1 (elB (xs.take k))++aK 1 (elB (xs.drop k)):=by
  unfold aK elB;rw[<-ybV,<-List.map_append,ybf]
 rw[e,yab];omega
theorem II:∀ {xs:List El} {u:El},u∈xs->u.it.2.length+5<=(aK 1 (elB xs)).length
 | [],_,h=>by cases h
 | x::xs,u,h=>by
  have e:aK 1 (elB (x::xs))=val 1 x.it.2++aK 1 (elB xs):=rfl;rw[e,yab,ae];rcases yas.1 h with rfl | h
  ·omega
  have:=II h;omega
theorem FP:∀(xs:List El),5*xs.length<=(aK 1 (elB xs)).length
 | []=>yam _
 | x::xs=>by
  have e:aK 1 (elB (x::xs))=val 1 x.it.2++aK 1 (elB xs):=rfl;have:=FP xs;rw[e,yab,ae,yaF];omega
def Nz (l:List UInt8)(w:World)(e:Ending)(w':World):Prop:=∃v,e=.returned (.tuple #[v,.bool true])/\w'.ownsRow w.heap.size 5 1 v l.length (byV l)/\Below w.heap.size w w'
theorem DV (t:UInt8)(ao:Option Addr)(n cap:Nat)(x:List El)(w:World)(hx:Rd w 1 ao n cap (lsV x))(hu:∀u∈x,elG u w)(hl:(aK 1 (elB x)).length<=4194304) :
  Calls Tryz.prog 87 #[.int .u8 (t.toNat:Int),.slice ao n cap] w (Nz (val t (aK 1 (elB x))) w):=by
 have lx:x.length=n:=by have:=hx.1;rw[PZ] at this;omega
 have hn:n<=1000000:=by have:=FP x;omega
 have LX:=hid lx;have HL:=hid hl;clear lx hl;have own0:w.ownsRow w.heap.size 5 1 (.slice none 0 0) (aK 1 (elB (x.take 0))).length (byV (aK 1 (elB (x.take 0)))):=yaC _ _ _ _;go_in;go_wp2_with fail;go_loopw [6,7] (fun bv p wr=>∃k:Nat,k<=n/\p=.int .i64 (k:Int)/\wr.ownsRow w.heap.size 5 1 bv (aK 1 (elB (x.take k))).length (byV (aK 1 (elB (x.take k))))/\Below w.heap.size w wr) (fun _ p _=>n-(intOf p).toNat)
 case atStart=>exact⟨0,yam _,rfl,own0,yaj _ _⟩
 case round=>
  obtain⟨k,hk,rfl,own,hbr⟩:=hrel;by_cases hkn:k<n
  ·obtain⟨b1,o1,rfl,hl1,hc1⟩:=hx.some (by have:=hx.le;omega);obtain⟨u,hue⟩:∃u,x[k]?=some u:=⟨_,yac (by rw[LX.out];exact hkn)⟩
   have c1:=(hbr.cell (p:=⟨b1,o1+k,none⟩) hl1).trans (hc1 k _ (sO x k u hue));have c2:wr.cell? ⟨b1,o1+k*1,none⟩=some (.slice u.ao u.it.2.length u.cap):=by rw[ycf];exact c1
   have hr1:Rd wr 1 u.ao u.it.2.length u.cap (byV u.it.2):=Rd.later (hu u (yan hue)) hbr;have hn1:u.it.2.length<=4194304:=by have:=II (yan hue);have:=HL.out;omega
   have hL:(aK 1 (elB (x.take k))).length<=4194304:=yae (O0 x k) HL.out;have hnext:=hid (Ir x k u hue);obtain⟨V1,hv1⟩:∃V1,val 1 u.it.2=V1:=⟨_,rfl⟩
   obtain⟨A,hA⟩:∃A,aK 1 (elB (x.take k))=A:=⟨_,rfl⟩
   have hV1:V1.length=u.it.2.length+5:=by rw[<-hv1,ae];omega
   have hN:Hid (aK 1 (elB (x.take (k+1)))=A++V1):=hid (by rw[hnext.out,hv1,hA]);rw[hA] at hL;have h17:A.length+V1.length<=maxLen:=by rw[hV1];unfold maxLen;omega
   have h17b:(A.length+V1.length)*1<=140737488355328:=by rw[hV1];omega
   rw[hA] at own;have Hv1:=hid hv1;clear hv1 hA hL hnext hV1 hc1 hue;have i0:(0:Int)<=(k:Int):=by omega
   have i1:(k:Int)<(n:Int):=by omega
   have z0:=hbr.size;go_wp2_with fail;refine (aW 1 u.it.2 _ _ _ wr hn1 hr1).mono ?_;rintro e W2 ⟨v1,rfl,o2,hb2⟩;rw[Hv1.out] at o2;obtain⟨a2,k2,e2,r2⟩:=Rd.of_own o2;subst e2;have own2:=ag own hb2;have hB2:=hbr.trans (hb2.mono z0);have z2:=hB2.size;clear c1 c2 own o2 hn1 hr1;go_wp2_with (at_builtin;refine dZ _ rfl (.tmp 14) (.tmp 19) 34 rfl w.heap.size 5 (.int .u8 0) 1 1 Tlv.byT u6 _ _ rfl own2 a2 _ k2 _ rfl r2 (bM _) h17 h17b z2 ?_;intro ao3 cap3 W3 o3 _ hb3 _);have o4:W3.ownsRow w.heap.size 5 1 (.slice ao3 (A.length+V1.length) cap3) (aK 1 (elB (x.take (k+1)))).length (byV (aK 1 (elB (x.take (k+1))))):=by rw[hN.out,yab,dS];exact o3
   clear h17 h17b;go_roundw
   case rel=>exact⟨k+1,by omega,by go_num,o4,hB2.trans hb3⟩
   case measure=>simp[intOf];omega
  have hke:k=n:=by omega
  have hfull:x.take k=x:=yak (by rw[LX.out];omega);rw[hfull] at own;obtain⟨ao',cap',e',hr'⟩:=Rd.of_own own;subst e';have z0:=hbr.size;have hlen:=HL.out;have f0:decide (((aK 1 (elB x)).length:Int)<=4194304)=true:=yaa (by omega);clear hke hfull;obtain⟨A,hA⟩:∃A,aK 1 (elB x)=A:=⟨_,rfl⟩
  rw[hA] at f0 hr' hlen ⊢;have HA:=hid hA;clear hA own;go_wp2_with fail;refine (aW t A ao' _ cap' wr hlen hr').mono ?_;rintro e W1 ⟨v1,rfl,o1,hb1⟩;go_wp2_with fail;go_ret2;exact⟨v1,rfl,own_base (by rw[HA.out];exact o1) z0,hbr.trans (hb1.mono z0)⟩
end Msg
namespace Msg
open Go.RowKit Go.Lib Mem Tlv
structure SrAt (w:World)(v v':QV)(b1 o1 b2 o2 k:Nat)(p q:EV)(W:World):Prop where
 bel:Below w.heap.size w W
 q1:W.heap[w.heap.size]?=some v.box
 q2:W.heap[w.heap.size+1]?=some v'.box
 x0:W.cell? ⟨b1,o1+k*2,none⟩=some (.string p.name)
 x1:W.cell? ⟨b1,o1+k*2+1,none⟩=some (.slice p.ao p.an p.ac)
 y0:W.cell? ⟨b2,o2+k*2,none⟩=some (.string q.name)
 y1:W.cell? ⟨b2,o2+k*2+1,none⟩=some (.slice q.ao q.an q.ac)
theorem SrAt.step {w W W':World}{v v':QV}{b1 o1 b2 o2 k:Nat}{p q:EV}(h:SrAt w v v' b1 o1 b2 o2 k p q W)(hb:Below W.heap.size W W'):SrAt w v v' b1 o1 b2 o2 k p q W':=by
 obtain⟨e1,e2⟩:=wP h.q1 h.q2 hb;exact⟨h.bel.trans (hb.mono h.bel.size),e1,e2,dK hb h.x0,dK hb h.x1,dK hb h.y0,dK hb h.y1⟩
theorem kT (v v':QV)(c c':QC)(w:World)(h:QAt w v c)(h':QAt w v' c'):Calls Tryz.prog 20 #[v.val,v'.val] w (GivesB (aF v c v' c') w):=by
 have hmo:=hmO
 have lx:=h.e.len;have ly:=h'.e.len;have hcap:v.en<=9223372036854775807:=by have:=h.e.r.2.1;have:=h.e.r.2.2.1;unfold maxLen at this;omega
 have hb0:Below w.heap.size w ((w.alloc v.box).alloc v'.box):=cu w _ _;obtain⟨k1,k2⟩:=dh w v.box v'.box;have hs1:=jc v.co _ v.cc _ ((w.alloc v.box).alloc v'.box) (h.c.later hb0);have hs2:=jc v'.co _ v'.cc _ ((w.alloc v.box).alloc v'.box) (h'.c.later hb0);unfold QV.box QV.cells at hb0 k1 k2 hs1 hs2;unfold QV.val QV.cells;by_cases e1:v.code=v'.code
 case neg=>
  have f1:(v.code==v'.code)=false:=by simp[e1]
  have g1:(v.code != v'.code)=true:=by simp[e1]
  have Hs:Hid (aF v c v' c'=false):=hid (by unfold aF;rw[yad e1];simp);clear e1 lx ly hs1 hs2;go_in;go_upto_region 1 with fail;generalize hg:World.alloc _ _=W0 at *;have q1:W0.heap[w.heap.size]?=some v.box:=k1;have q2:W0.heap[w.heap.size+1]?=some v'.box:=k2;clear hg k1 k2;obtain⟨c0,c1,c2,c3,-⟩:=bf q1;obtain⟨d0,d1,d2,d3,-⟩:=bf q2;go_wp2_with fail;go_ret;exact⟨by rw[Hs.out];rfl,hb0⟩
 have f1:(v.code==v'.code)=true:=by simp[e1]
 have g1:(v.code != v'.code)=false:=by simp[e1]
 by_cases e2:v.yes=v'.yes
 case neg=>
  have f2:(v.yes==v'.yes)=false:=by simp[e2]
  have g2:(v.yes != v'.yes)=true:=by simp[e2]
  have g3:(v.yes ^^ v'.yes)=true:=by cases h1:v.yes<;>cases h2:v'.yes<;>simp_all
  have Hs:Hid (aF v c v' c'=false):=hid (by unfold aF;rw[yad e2];simp);clear e1 e2 lx ly hs1 hs2;go_in;go_upto_region 1 with fail;generalize hg:World.alloc _ _=W0 at *;have q1:W0.heap[w.heap.size]?=some v.box:=k1;have q2:W0.heap[w.heap.size+1]?=some v'.box:=k2;clear hg k1 k2;obtain⟨c0,c1,c2,c3,-⟩:=bf q1;obtain⟨d0,d1,d2,d3,-⟩:=bf q2;go_wp2_with fail;go_ret;exact⟨by rw[Hs.out];rfl,hb0⟩
 have f2:(v.yes==v'.yes)=true:=by simp[e2]
 have g2:(v.yes != v'.yes)=false:=by simp[e2]
 have g3:(v.yes ^^ v'.yes)=false:=by simp[e2]
 by_cases e3:v.en=v'.en
 case neg=>
  have f3:((v.en:Int)==(v'.en:Int))=false:=by rw[yap];omega
  have g4:((v.en:Int) != (v'.en:Int))=true:=by rw[bne,f3];rfl
  have Hs:Hid (aF v c v' c'=false):=hid (by
   unfold aF;cases hh:aP c.ents c'.ents with
   | false=>simp
   | true=>have:=kQ hh;omega)
  clear e1 e2 e3 lx ly hs1 hs2;go_in;go_upto_region 1 with fail;generalize hg:World.alloc _ _=W0 at *;have q1:W0.heap[w.heap.size]?=some v.box:=k1;have q2:W0.heap[w.heap.size+1]?=some v'.box:=k2;clear hg k1 k2;obtain⟨c0,c1,c2,c3,-⟩:=bf q1;obtain⟨d0,d1,d2,d3,-⟩:=bf q2;go_wp2_with fail;go_ret;exact⟨by rw[Hs.out];rfl,hb0⟩
 have f3:((v.en:Int)==(v'.en:Int))=true:=by rw[e3];simp
 have g4:((v.en:Int) != (v'.en:Int))=false:=by rw[bne,f3];rfl
 by_cases e4:c.cursor=c'.cursor
 case neg=>
  have f4:=Je e4;have g5:(c.cursor==c'.cursor)=false:=yap.2 e4;have Hs:Hid (aF v c v' c'=false):=hid (by unfold aF;rw[yad e4];simp);clear e1 e2 e3 e4 lx ly;go_in;go_upto_region 1 with fail;generalize hg:World.alloc _ _=W0 at *;have q1:W0.heap[w.heap.size]?=some v.box:=k1;have q2:W0.heap[w.heap.size+1]?=some v'.box:=k2;clear hg k1 k2;obtain⟨c0,c1,c2,c3,-⟩:=bf q1;obtain⟨d0,d1,d2,d3,-⟩:=bf q2;go_wp2_with fail;go_ret;exact⟨by rw[Hs.out];rfl,hb0⟩
 rw[e4] at hs1;have f4:=pz ⟨c'.cursor.toArray⟩;have g5:(c'.cursor==c'.cursor)=true:=by simp
 have Hs:Hid (aF v c v' c'=aP c.ents c'.ents):=hid (by unfold aF;rw[yaa e1,yaa e2,yaa e4];simp);have LX:=hid lx;have LY:=hid (ly.trans e3.symm);have E3:=hid e3;clear e1 e2 e3 e4 lx ly;go_in;go_upto_region 1 with fail;generalize hg:World.alloc _ _=W0 at *;have q1:W0.heap[w.heap.size]?=some v.box:=k1;have q2:W0.heap[w.heap.size+1]?=some v'.box:=k2;clear hg k1 k2;obtain⟨c0,c1,c2,c3,-⟩:=bf q1;obtain⟨d0,d1,d2,d3,-⟩:=bf q2;go_wp2_with fail;clear c0 c1 c2 c3 d0 d1 d2 d3 f1 f2 f3 f4 g1 g2 g3 g4 g5 hs1 hs2;go_loopw [5] (fun p wr=>∃k:Nat,k<=v.en/\p=.int .i64 (k:Int)/\Hid (aP (c.ents.take k) (c'.ents.take k)=true)/\Below W0.heap.size W0 wr) (fun p _=>v.en-(intOf p).toNat)
 case atStart=>exact⟨0,yam _,rfl,hid rfl,yaj _ _⟩
 case round=>
  obtain⟨k,hk,rfl,Ht,hbr⟩:=hrel;obtain⟨r1,r2⟩:=wP q1 q2 hbr;have hbel:=hb0.trans (hbr.mono hb0.size);obtain⟨c0,c1,c2,c3,-⟩:=bf r1;obtain⟨d0,d1,d2,d3,-⟩:=bf r2;by_cases hkn:k<v.en
  ·have hx:=(h.later hbel).e;have hy:=(h'.later hbel).e;obtain⟨b1,o1,hao1,hl1,hc1⟩:=hx.r.some (by have:=hx.r.le;omega);obtain⟨b2,o2,hao2,hl2,hc2⟩:=hy.r.some (by have:=hy.r.le;have:=E3.out;omega);obtain⟨u,hu⟩:∃u,c.ents[k]?=some u:=⟨_,yac (by rw[LX.out];exact hkn)⟩
   obtain⟨z,hz⟩:∃z,c'.ents[k]?=some z:=⟨_,yac (by rw[LY.out];exact hkn)⟩
   obtain⟨v1,v2⟩:=nD c.ents k u hu;obtain⟨v3,v4⟩:=nD c'.ents k z hz;have hU:=hx.each u (yan hu);have hZ:=hy.each z (yan hz);have hd:Below wr.heap.size wr wr.drew:=(yaj _ _).drew;have s0:SrAt w v v' b1 o1 b2 o2 k u.1 z.1 wr.drew:=(⟨hbel,r1,r2,hc1 (k*2) _ v1,hc1 (k*2+1) _ v2,hc2 (k*2) _ v3,hc2 (k*2+1) _ v4⟩:SrAt w v v' b1 o1 b2 o2 k u.1 z.1 wr).step hd;have hU2:=hU.later hd;have hZ2:=hZ.later hd;have hnx:=lS c.ents c'.ents k u z hu hz;rw[Ht.out,yaX] at hnx;have HN:=hid hnx;have HB:=hid hbr;have i0:(0:Int)<=(k:Int):=by omega
   have i1:(k:Int)<(v.en:Int):=by omega
   have i2:(k:Int)<(v'.en:Int):=by have:=E3.out;omega
   have HK:=hid hkn;have A1:=hid hao1;have A2:=hid hao2;clear v1 v2 v3 v4 hnx hx hy hU hZ hc1 hc2 hu hz hbel hao1 hao2;go_upto_region 6 with fail;refine yaB (S:=SrAt w v v' b1 o1 b2 o2 k u.1 z.1) hmo ?_;change wpAnyH _ _ _ _ _ _ _ _ (World.drew wr);have hbd:Below W0.heap.size W0 wr.drew:=hbr.trans (hd.mono hbr.size);generalize World.drew wr=X0 at *;clear hbr HB hd c0 c1 c2 c3 d0 d1 d2 d3 r1 r2;have zf0:=fun (w0:World) (h:SrAt w v v' b1 o1 b2 o2 k u.1 z.1 w0)=>bf h.q1;have zf1:=fun (w0:World) (h:SrAt w v v' b1 o1 b2 o2 k u.1 z.1 w0)=>bf h.q2;have zf2:=fun (w0:World) (h:SrAt w v v' b1 o1 b2 o2 k u.1 z.1 w0)=>h.x0;have zf3:=fun (w0:World) (h:SrAt w v v' b1 o1 b2 o2 k u.1 z.1 w0)=>h.x1;have zf4:=fun (w0:World) (h:SrAt w v v' b1 o1 b2 o2 k u.1 z.1 w0)=>h.y0;have zf5:=fun (w0:World) (h:SrAt w v v' b1 o1 b2 o2 k u.1 z.1 w0)=>h.y1;rw[A1.out] at zf0;rw[A2.out] at zf1;refine zp 0 (pp w.heap.size 2) rfl ?_;go_simp;refine zv 1 (.slice (some ⟨b1,o1,none⟩) v.en v.ec) rfl ?_;go_simp;refine zp 2 (.int .i64 (k:Int)) rfl ?_;go_simp;refine zv 3 (.pointer (some ⟨b1,o1+k*2,none⟩)) rfl ?_;go_simp;refine zv 4 (.agg #[.string u.1.name,.slice u.1.ao u.1.an u.1.ac]) rfl ?_;go_simp;refine zp 5 (pp (w.heap.size+1) 2) rfl ?_;go_simp;refine zv 6 (.slice (some ⟨b2,o2,none⟩) v'.en v'.ec) rfl ?_;go_simp;refine zp 7 (.int .i64 (k:Int)) rfl ?_;go_simp;refine zv 8 (.pointer (some ⟨b2,o2+k*2,none⟩)) rfl ?_;go_simp;refine zv 9 (.agg #[.string z.1.name,.slice z.1.ao z.1.an z.1.ac]) rfl ?_;go_simp;have hc:=zZ u.1 z.1 u.2 z.2 X0 hU2 hZ2;unfold EV.val EV.cells at hc;refine zC 10 rfl hc ?_;rintro e X1 ⟨rfl,hb1⟩;have s1:=s0.step hb1;clear hc;refine⟨s1,?_⟩;go_simp;refine zv 11 (.bool (!bZ u.1 u.2 z.1 z.2)) rfl ?_;go_simp;refine zd ?_;have hbx:=hbd.trans (hb1.mono hbd.size);have hb2:=s1.bel;cases hm:bZ u.1 u.2 z.1 z.2 with
   | false=>
    have Hf:Hid (aP c.ents c'.ents=false):=hid (pY c.ents c'.ents (k+1) (by rw[HN.out];exact hm) (by rw[LX.out,LY.out]));clear hm;go_wp2_with fail;go_ret;exact⟨by rw[Hs.out,Hf.out];rfl,hb2⟩
   | true=>
    have Hf:Hid (aP (c.ents.take (k+1)) (c'.ents.take (k+1))=true):=hid (by rw[HN.out];exact hm);clear hm;go_wp2_with fail;go_roundw
    case rel=>exact⟨k+1,HK.out,(by have:=HK.out;go_num),Hf,hbx⟩
    case measure=>have:=HK.out;simp[intOf];omega
  have Hf:Hid (aP c.ents c'.ents=true):=hid (by have:=Ht.out;rw[yak (by rw[LX.out];omega),yak (by rw[LY.out];omega)] at this;exact this);have hkn2:k=v.en:=by omega
  subst hkn2;go_wp2_with fail;go_ret;exact⟨by rw[Hs.out,Hf.out];rfl,hbel⟩
end Msg
namespace Msg
open Go.RowKit Go.Lib Mem Utf Tlv
variable{W W':World}{c:QC}{v:QV}
theorem mZ(h:QAt W v c)(hn:FitQ v c->False):bz v c=false:=by
 cases hm:bz v c with
 | false=>rfl
 | true=>exact (hn (FitQ.of h hm)).elim
theorem Ij(hs:mQ c)(h0:0<=v.code)(h14:v.code<=14)(hn:v.en<=1000)(hc:v.cn<=4000)(hb:0<v.code->aF v c (lF v.code) ⟨[],[]⟩=true)(hall:∀p∈c.ents,aB p.1 p.2=true):bz v c=true:=by
 by_cases e0:v.code=0
 ·rw[xP e0 hs];have ha:(c.ents.any fun u=>!aB u.1 u.2)=false:=yaS.2 (fun p hp=>by simp[hall p hp]);rw[ha,yad (by omega),yad (by omega)];rfl
 unfold bz;rw[if_neg e0,yaa (by omega),yaa h14,hb (by omega)];rfl
theorem zV(h0:0<v.code)(hb:aF v c (lF v.code) ⟨[],[]⟩=false):bz v c=false:=by
 unfold bz;rw[if_neg (by omega),hb];simp
theorem pG{B n size:Nat}{e:TypeId}{v:Value}{xs:List Value}(hg:W.grownBy W' v.ownBlock)(ho:W.ownsRow B e size v n xs)(he:∀t:TypeId,(t=5\/t=9\/t=106)->e≠t):KeepR W W':=by
 refine⟨hg.size,fun k c t fr ht hk=>(hg.block k (lA hk) (fun e2=>?_)).trans hk⟩;obtain⟨-,-,cur,h3⟩:=aU ho e2.symm;rw[hk] at h3;cases h3;exact he _ ht rfl
def ElAt (W:World)(xs:List El):Prop:=∀x∈xs,elG x W/\TyX 5 W x.ao x.cap
theorem ElAt.kpr{xs:List El}(h:ElAt W xs)(hk:KeepR W W'):ElAt W' xs:=fun x hx=>⟨kW (.inl rfl) (h x hx).1 (h x hx).2 hk,(h x hx).2.kpr (.inl rfl) hk⟩
theorem ElAt.snoc{xs:List El}{x:El}(h:ElAt W xs)(h1:elG x W)(h2:TyX 5 W x.ao x.cap):ElAt W (xs++[x]):=by
 intro y hy;rcases yaQ.1 hy with hy | hy
 ·exact h y hy
 rw[yah] at hy;subst hy;exact⟨h1,h2⟩
theorem mf(xs:List El)(x:El):elB (xs++[x])=elB xs++[x.it.2]:=by simp[elB]
def lQ (l:List EP):List (List UInt8):=l.map fun p=>eX p.1 p.2
theorem GH(l:List EP)(k:Nat)(p:EP)(h:l[k]?=some p):lQ (l.take (k+1))=lQ (l.take k)++[eX p.1 p.2]:=by
 rw[yaE,h];simp[lQ]
theorem mP(l:List EP):aK 1 (lQ l)=dH l:=by simp[aK,lQ,dH,List.flatMap_map]
structure RbLoop (w:World)(v:QV)(c:QC)(k:Nat)(l:Value)(wr:World):Prop where
 at_:QbAt w v wr
 ex:∃xs:List El,wr.ownsRow (w.heap.size+1) 34 1 l k (lsV xs)/\elB xs=lQ (c.ents.take k)/\ElAt wr xs
 all:∀p∈c.ents.take k,aB p.1 p.2=true
def Fb (v:QV)(c:QC)(w:World)(e:Ending)(w':World):Prop:=∃(l:List UInt8) (ax:Option Addr) (cx:Nat) (ok:Bool),e=.returned (.tuple #[.slice ax l.length cx,.bool ok])/\Rd w' 1 ax l.length cx (byV l)/\Below w.heap.size w w'/\(bz v c=true->l=dM v c/\ok=true)/\(bz v c=false->ok=false/\l=[])
theorem kY{w w':World}(h:bz v c=false)(hb:Below w.heap.size w w'):Fb v c w (.returned (.tuple #[.slice none 0 0,.bool false])) w':=
 ⟨[],none,0,false,rfl,Rd.nil _ _,hb,fun h2=>(by rw[h] at h2;cases h2),fun _=>⟨rfl,rfl⟩⟩
theorem uV(v:QV)(c:QC)(w:World)(h:QAt w v c)(hs:mQ c):Calls Tryz.prog 86 #[v.val] w (Fb v c w):=by
 have hmo:=hmO
 have lx:=h.e.len;have lc:c.cursor.length=v.cn:=by have:=h.c.1;rw[aV] at this;omega
 have LX:=hid lx;have LC:=hid lc;clear lx lc;have hb0:=bN w v.box;have k0:=aN w v.box
 unfold QV.box QV.cells at hb0 k0;unfold QV.val QV.cells;go_in;go_upto_region 1 with fail;generalize hg:w.alloc _=W0 at *;have q0:W0.heap[w.heap.size]?=some v.box:=k0;clear hg k0;have s0:QbAt w v W0:=⟨q0,hb0⟩
 obtain⟨c0,c1,c2,c3,-⟩:=bf q0;by_cases h0:v.code<0
 case pos=>
  have f1:decide (v.code<0)=true:=yaa h0;have HN:=hid (mZ h (fun F=>by have:=F.c0;omega));clear h0;go_wp2_with fail;go_ret2;exact kY HN.out hb0
 have f1:decide (v.code<0)=false:=yad h0;by_cases h14:14<v.code
 case pos=>
  have f2:decide (14<v.code)=true:=yaa h14;have HN:=hid (mZ h (fun F=>by have:=F.c14;omega));clear h0 h14;go_wp2_with fail;go_ret2;exact kY HN.out hb0
 have f2:decide (14<v.code)=false:=yad h14;by_cases hen:1000<v.en
 case pos=>
  have f3:decide ((1000:Int)<(v.en:Int))=true:=yaa (by omega);have HN:=hid (mZ h (fun F=>by have:=F.en;omega));clear h0 h14 hen;go_wp2_with fail;go_ret2;exact kY HN.out hb0
 have f3:decide ((1000:Int)<(v.en:Int))=false:=yad (by omega);by_cases hcn:4000<v.cn
 case pos=>
  have f4:decide ((4000:Int)<(v.cn:Int))=true:=yaa (by omega);have HN:=hid (mZ h (fun F=>by have:=F.cn;omega));clear h0 h14 hen hcn;go_wp2_with fail;go_ret2;exact kY HN.out hb0
 have f4:decide ((4000:Int)<(v.cn:Int))=false:=yad (by omega);have hzero:∀W,Below W0.heap.size W0 W->QAt W v c:=fun W hb=>(h.later hb0).later hb;have hbare:0<v.code->Calls Tryz.prog 20 #[.agg #[.int .i64 v.code,.bool v.yes,.slice v.eo v.en v.ec,.slice v.co v.cn v.cc],.agg #[.int .i64 v.code,.bool false,.slice none 0 0,.slice none 0 0]] W0 (GivesB (aF v c (lF v.code) ⟨[],[]⟩) W0):=fun _=>kT v (lF v.code) c ⟨[],[]⟩ W0 (hzero W0 (yaj _ _)) (Dv _ _);have HZ:=hid hzero;have HC:=hid (yax (show 0<=v.code by omega) (yax (show v.code<=14 by omega) (yax (show v.en<=1000 by omega) (show v.cn<=4000 by omega))));by_cases hbf:0<v.code/\aF v c (lF v.code) ⟨[],[]⟩=false
 case pos=>
  have f5:decide (0<v.code)=true:=yaa hbf.1;have HN:=hid (zV hbf.1 hbf.2);have hcall:=hbare hbf.1;rw[hbf.2] at hcall;clear h0 h14 hen hcn hzero hbare hbf;go_wp2_with (first | (refine wpList_load_row (ty:=39) q0 rfl rfl rfl (by kernel_rfl) (by kernel_rfl) ?_;go_simp));refine hcall.mono ?_;rintro e W1 ⟨rfl,hb1⟩;go_wp2_with fail;go_ret2;exact kY HN.out (hb0.trans (hb1.mono hb0.size))
 have hbok:0<v.code->aF v c (lF v.code) ⟨[],[]⟩=true:=fun hp=>by
  cases hq:aF v c (lF v.code) ⟨[],[]⟩ with
  | true=>rfl
  | false=>exact absurd ⟨hp,hq⟩ hbf
 have HB:=hid hbok;clear h0 h14 hen hcn hzero hbf;go_cut [41] from 9 (fun s41 w'=>s41=.bool false/\QbAt w v w')
 case first=>
  by_cases hp:0<v.code
  ·have f5:decide (0<v.code)=true:=yaa hp;have hcall:=hbare hp;rw[hbok hp] at hcall;clear hbare hbok hp;go_wp2_with (first | (refine wpList_load_row (ty:=39) q0 rfl rfl rfl (by kernel_rfl) (by kernel_rfl) ?_;go_simp));refine hcall.mono ?_;rintro e W1 ⟨rfl,hb1⟩;go_wp2_with fail;go_meet
   case rel=>exact⟨rfl,s0.step hb1⟩
  have f5:decide (0<v.code)=false:=yad hp;clear hbare hbok hp;go_wp2_with fail;go_meet
  case rel=>exact⟨rfl,s0⟩
 case rest=>
  obtain⟨rfl,V0⟩:=hcut;clear s0 q0 c0 c1 c2 c3 hb0 hbare hbok f1 f2 f3 f4;generalize wc=V at *;have own0:V.ownsRow (w.heap.size+1) 34 1 (.slice none 0 0) 0 (lsV []):=yaC _ _ _ _;go_wp2_with fail;go_loopw [4,5] (fun l p wr=>∃k:Nat,k<=v.en/\p=.int .i64 (k:Int)/\RbLoop w v c k l wr) (fun _ p _=>v.en-(intOf p).toNat)
  case atStart=>exact⟨0,yam _,rfl,V0,⟨[],own0,rfl,fun x hx=>by cases hx⟩,fun p hp=>by simp at hp⟩
  case round=>
   obtain⟨k,hk,rfl,hL⟩:=hrel;obtain⟨xs,own,hel,hat⟩:=hL.ex;have hall:=hL.all;have s0:=hL.at_;have Hel:=hid hel;have Hall:=hid hall;have hen:=HC.out.2.2.1;clear hel hall hL own0 V0;obtain⟨c0,c1,c2,c3,-⟩:=bf s0.o;by_cases hkn:k<v.en
   ·have hE:=(h.later s0.bel).e;obtain⟨b1,o1,hao,hl1,hc1⟩:=hE.r.some (by have:=hE.r.le;omega);rw[hao] at c2;obtain⟨p,hp⟩:∃p,c.ents[k]?=some p:=⟨_,yac (by rw[LX.out];exact hkn)⟩
    obtain⟨v1,v2⟩:=nD c.ents k p hp;have x1:=hc1 (k*2) _ v1;have x2:wr.cell? ⟨b1,o1+k*2+1,none⟩=_:=hc1 (k*2+1) _ v2;have hEp:=hE.each p (yan hp);have hme:=uX p.1 p.2 wr hEp;unfold EV.val EV.cells at hme;have HAo:=hid hao;have HP:=hid hp;have i0:(0:Int)<=(k:Int):=by omega
    have i1:(k:Int)<(v.en:Int):=by omega
    clear hc1 v1 v2 hao hp hE;go_wp2_with fail;refine hme.mono ?_;rintro e W1 ⟨rfl,hb1⟩;have s1:=s0.step hb1;cases hm:aB p.1 p.2 with
    | false=>
     have HN:=hid (mZ h (fun F=>by have:=F.all p (yan HP.out);rw[hm] at this;cases this));clear hm;go_wp2_with fail;go_ret2;exact kY HN.out s1.bel
    | true=>
     have HM:=hid hm;have hpk:=KT p.1 p.2 W1 (hEp.later hb1) (FitE.of hm);unfold EV.val EV.cells at hpk;have y1:=dK hb1 x1;have y2:=dK hb1 x2;clear hm hme x1 x2 c0 c1 c2 c3;obtain⟨c0,c1,c2,c3,-⟩:=bf s1.o;rw[HAo.out] at c2;go_wp2_with fail;refine hpk.mono ?_;rintro e W2 ⟨v3,rfl,o3,hb2⟩;obtain⟨a3,k3,e3,r3⟩:=Rd.of_own o3;subst e3;have t3:=TyX.of_own o3;have s2:=s1.step hb2;have own2:=ag (ag own hb1) hb2;have hat2:=((hat.kpr (KeepR.of_below hb1)).kpr (KeepR.of_below hb2)).snoc (x:=⟨(1,eX p.1 p.2),a3,k3⟩) r3 t3;have z2:w.heap.size+1<=W2.heap.size:=lA s2.o;clear hpk y1 y2 c0 c1 c2 c3 own hat o3 r3 t3 s0 s1 hEp hb1 hb2;go_wp2_with (at_builtin;refine fM _ rfl (.tmp 56) (.tmp 63) 151 rfl (w.heap.size+1) 34 (.slice none 0 0) 1 24 lsT (by decide) u4 k (lsV xs) rfl own2 1 [.slice a3 (eX p.1 p.2).length k3] rfl rfl (one1 _ rfl) z2 (by omega) ?_;intro ao4 cap4 W4 o4 hg4 hb4 _);have hK:KeepR W2 W4:=(KeepR.of_below (bN _ _)).trans (pG hg4 (own2.alloc _) (fun t ht e=>by rcases ht with rfl|rfl|rfl<;>exact absurd e (by decide)));have hat4:=hat2.kpr hK;have s4:=s2.turn hb4 (ybY _);have hp2:=HP.out;go_roundw
     case rel=>
      refine⟨k+1,by omega,by go_num,s4,⟨xs++[⟨(1,eX p.1 p.2),a3,k3⟩],?_,?_,hat4⟩,fun q hq=>?_⟩
      ·rw[Aw];exact o4
      ·rw[mf,GH _ _ _ hp2,Hel.out]
      rw[yaE,hp2] at hq;rcases yaQ.1 hq with hq | hq
      ·exact Hall.out q hq
      obtain rfl:q=p:=by simpa using hq
      exact HM.out
     case measure=>simp[intOf];omega
   have hke:k=v.en:=by omega
   have hfull:c.ents.take k=c.ents:=yak (by rw[LX.out];omega);have hallE:∀p∈c.ents,aB p.1 p.2=true:=fun p hp=>Hall.out p (by rw[hfull];exact hp);have hC:=HC.out;have hmr:=Ij hs hC.1 hC.2.1 hC.2.2.1 hC.2.2.2 HB.out hallE;have HM:=hid hmr;have hlen:(dH c.ents).length<=4194304:=hs hallE;obtain⟨a4,k4,e4,r4⟩:=Rd.of_own own;subst e4;have htag:aK 1 (elB xs)=dH c.ents:=by rw[Hel.out,hfull,mP]
   have hlst:=DV 3 a4 _ k4 xs wr r4 (fun u hu=>(hat u hu).1) (by rw[htag];exact hlen);rw[htag] at hlst;obtain⟨cn,hcd⟩:∃n:Nat,v.code=(n:Int):=⟨v.code.toNat,by omega⟩
   have hcw:IntKind.wrap .u64 v.code=(cn:Int):=by rw[hcd,ybi];omega
   have hcn64:cn<18446744073709551616:=by omega
   have hcnv:v.cn<=4194304:=by omega
   obtain⟨N1,hN1⟩:∃V,val 1 (au cn)=V:=⟨_,rfl⟩
   obtain⟨F2,hF2⟩:∃V,val 2 [if v.yes then (1:UInt8) else 0]=V:=⟨_,rfl⟩
   obtain⟨L3,hL3⟩:∃V,val 3 (dH c.ents)=V:=⟨_,rfl⟩
   obtain⟨C4,hC4⟩:∃V,val 4 c.cursor=V:=⟨_,rfl⟩
   have ln1:N1.length<=100:=by rw[<-hN1,ae,ai];omega
   have lf2:F2.length<=100:=by rw[<-hF2,ae];simp
   have ll3:L3.length<=4194400:=by rw[<-hL3,ae];omega
   have lc4:C4.length<=5000:=by rw[<-hC4,ae,LC.out];omega
   have HR:Hid (dM v c=N1++F2++L3++C4):=hid (by unfold dM;rw[hN1.symm,hF2.symm,hL3.symm,hC4.symm,show v.code.toNat=cn by omega];simp);rw[hL3] at hlst;have HN1:=hid hN1;have HF2:=hid hF2;have HC4:=hid hC4;clear hke hfull hallE hmr hlen htag hC hcd hN1 hF2 hL3 hC4 Hel Hall own hen;go_wp2_with fail;refine hlst.mono ?_;rintro e W5 ⟨v5,rfl,o5,hb5⟩;obtain⟨a5,k5,e5,r5⟩:=Rd.of_own o5;subst e5;have s5:=s0.step hb5;clear hlst o5 hb5 c0 c1 c2 c3 s0 hat r4;go_upto_region 11 with fail;have s0:QbAt w v W5.drew:=s5.step (yaj _ _).drew;have p0:=r5.later (yaj W5.heap.size W5).drew;clear s5 r5;refine yaB (S:=QbAt w v) hmo ?_;change wpAnyH _ _ _ _ _ _ _ _ (World.drew W5);generalize World.drew W5=X0 at *;have hB:w.heap.size<X0.heap.size:=lA s0.o;have zf0:=fun (w0:World) (h:QbAt w v w0)=>bf h.o;refine zp 0 (pp w.heap.size 0) rfl ?_;go_simp;refine zv 1 (.int .i64 v.code) rfl ?_;go_simp;refine zv 2 (.int .u64 (cn:Int)) rfl ?_;go_simp;refine zp 4 (pp w.heap.size 1) rfl ?_;go_simp;refine zv 5 (.bool v.yes) rfl ?_;go_simp;refine zC 3 rfl (iY 1 cn X0 hcn64) ?_;rintro e X1 ⟨v3,rfl,o3,hb1⟩;rw[HN1.out] at o3;have s1:=s0.step hb1;have p1:=p0.later hb1;refine⟨s1,?_⟩;go_simp;refine zC 6 rfl (Bv 2 v.yes X1) ?_;rintro e X2 ⟨v6,rfl,o6,hb2⟩;rw[HF2.out] at o6;have s2:=s1.step hb2;have p2:=p1.later hb2;have o3b:=ag o3 hb2;have z2:X0.heap.size<=X2.heap.size:=yae hb1.size hb2.size;refine⟨s2,?_⟩;go_simp;refine zH1 7 rfl (fun K hK=>?_);obtain⟨ya,yk,e6,yr⟩:=Rd.of_own o6;subst e6;refine di rfl (.tmp 73) (.tmp 76) 34 rfl X0.heap.size 5 (.int .u8 0) 1 1 Tlv.byT v3 _ _ rfl o3b ya _ yk _ rfl yr (bM _) (by unfold maxLen;omega) (by omega) z2 ?_;intro a7 k7 X3 o7 _ hb3 _;have s3:=s2.turn hb3 hB;have p3:=p2.below hb3 (fun h0 a ha=>p0.lt h0 a ha);refine hK _ _ ⟨s3,?_⟩;clear hK K;refine zp 8 (.slice a7 (N1.length+F2.length) k7) rfl ?_;go_simp;refine zd ?_;go_upto_region 12 with fail;have t0:QbAt w v X3.drew:=s3.step (yaj _ _).drew;have P0:=p3.later (yaj X3.heap.size X3).drew;have o7d:=ag o7 (yaj X3.heap.size X3).drew;have zz:X0.heap.size<=X3.drew.heap.size:=yae z2 hb3.size;refine yaB (S:=QbAt w v) hmo ?_;change wpAnyH _ _ _ _ _ _ _ _ (World.drew X3);generalize World.drew X3=Y0 at *;refine zp 0 (.slice a7 (N1.length+F2.length) k7) rfl (zp 1 (.slice a5 L3.length k5) rfl (zp 3 (pp w.heap.size 3) rfl ?_));go_simp;refine zHa 4 (.slice v.co v.cn v.cc) rfl (by rintro w2 h2;obtain⟨c0,c1,c2,c3,-⟩:=bf h2.o;go_simp) t0 ?_;go_simp;refine zp 7 (.bool true) rfl ?_;go_simp;refine zH1 2 rfl (fun K hK=>?_);refine di rfl (.tmp 78) (.tmp 79) 34 rfl X0.heap.size 5 (.int .u8 0) 1 1 Tlv.byT (.slice a7 (N1.length+F2.length) k7) _ _ rfl o7d a5 _ k5 _ rfl P0 (bM _) (by unfold maxLen;omega) (by omega) zz ?_;intro a8 k8 Y1 o8 _ hbY1 _;have t1:=t0.turn hbY1 hB;refine hK _ _ ⟨t1,?_⟩;clear hK K;refine zH1 5 rfl (fun K hK=>?_);go_simp;refine (aW 4 c.cursor _ _ _ Y1 hcnv (h.later t1.bel).c).mono ?_;rintro e Y2 ⟨v9,rfl,o9,hbY2⟩;rw[HC4.out] at o9;have t2:=t1.step hbY2;have o8b:=ag o8 hbY2;have zz2:X0.heap.size<=Y2.heap.size:=yae (yae zz hbY1.size) hbY2.size;go_simp;refine hK _ _ ⟨t2,?_⟩;clear hK K;refine zH1 6 rfl (fun K hK=>?_);obtain⟨ya9,yk9,e9,yr9⟩:=Rd.of_own o9;subst e9;refine di rfl (.tmp 80) (.tmp 83) 34 rfl X0.heap.size 5 (.int .u8 0) 1 1 Tlv.byT (.slice a8 (N1.length+F2.length+L3.length) k8) _ _ rfl o8b ya9 _ yk9 _ rfl yr9 (bM _) (by unfold maxLen;omega) (by omega) zz2 ?_;intro a10 k10 Y3 o10 _ hbY3 _;have t3:=t2.turn hbY3 hB;refine hK _ _ ⟨t3,?_⟩;clear hK K;refine zp 8 (.slice a10 (N1.length+F2.length+L3.length+C4.length) k10) rfl (zp 9 (.bool true) rfl ?_);go_simp;refine zd ?_;go_wp2_with fail;go_ret2;have r10:=Rd.of_own_slice o10;exact⟨dM v c,a10,k10,true,by rw[HR.out];simp only[yab];rfl,by rw[HR.out];simp only[yab,dS];exact r10,t3.bel,fun _=>⟨rfl,rfl⟩,fun h=>(by rw[HM.out] at h;cases h)⟩
end Msg
namespace Msg
open Go.RowKit Go.Lib Mem Tlv
variable{W W' a b:World}{ao:Option Addr}{c:QC}{cap i n:Nat}{cs:Array Value}{fr:Nat×Nat}{t:TypeId}{v:QV}{x:Value}{xs:List Nat}
theorem tZ:SliceT Tryz.prog 37 124 zeroE.val 2 40:=⟨Tryz.underlying37,by kernel_rfl,rfl,by decide⟩
theorem oZ{b:Nat}(h:W.heap[b]?=some (.cells cs t fr))(ht:∀t':TypeId,(t'=5\/t'=9\/t'=106)->t≠t'):KeepR W (W.setCell ⟨b,i,none⟩ x):=by
 refine⟨yaR (ybv _ _ _).symm,fun k c t' fr' ht' hk=>?_⟩;have hne:k≠b:=fun e=>by
  subst e;rw[h] at hk;cases hk;exact ht _ ht' rfl
 exact ah hk hne
def QV.ents (v:QV)(a:Option Addr)(n k:Nat):QV:=⟨v.code,v.yes,a,n,k,v.co,v.cn,v.cc⟩
def EnTy (W:World)(l:List EP):Prop:=∀p∈l,EAt W p.1 p.2/\TyX 106 W p.1.ao p.1.ac
theorem EnTy.kpr{l:List EP}(h:EnTy W l)(hk:KeepR W W'):EnTy W' l:=fun p hp=>⟨⟨kW (.inr (.inr rfl)) (h p hp).1.a (h p hp).2 hk,(h p hp).1.la⟩,(h p hp).2.kpr (.inr (.inr rfl)) hk⟩
theorem EnTy.snoc{l:List EP}{p:EP}(h:EnTy W l)(h1:EAt W p.1 p.2)(h2:TyX 106 W p.1.ao p.1.ac):EnTy W (l++[p]):=by
 intro q hq;rcases yaQ.1 hq with hq | hq
 ·exact h q hq
 rw[yah] at hq;subst hq;exact⟨h1,h2⟩
structure StE (ob:Nat)(v:QV)(q:Nat)(l:List EP)(W:World):Prop where
 ex:∃a k,W.heap[ob]?=some (v.ents a l.length k).box/\W.ownsRow q 124 2 (.slice a l.length k) l.length (enV l)
 ty:EnTy W l
def elE (p:EP):List UInt8:=val 1 (eX p.1 p.2)
def uB (p:EP):Prop:=aB p.1 p.2=true
theorem PX(p:EP):0<(elE p).length:=by unfold elE;rw[ae];omega
theorem PI(z z':EP)(r r':List UInt8)(h:uB z)(h':uB z')(e:elE z++r=elE z'++r'):r=r':=by
 have l1:=jD h;have l2:=jD h';exact (az (by decide) (by omega) (by omega) e).2
theorem xR(l:List EP)(p:EP):enV (l++[p])=enV l++[.string p.1.name,.slice p.1.ao p.1.an p.1.ac]:=by simp[enV,EV.cells]
theorem OW{w w':World}{y:List UInt8}{e:Ending}(h:wZ (.int .i64 0) (.int .i64 4) y w e w'):∃(f:Int) (Y:EV) (x:List (ByteArray×ByteArray)),e=.returned (.tuple #[Y.val,.int .i64 f])/\EAt w' Y x/\TyX 106 w' Y.ao Y.ac/\Below w.heap.size w w'/\((f=0/\aB Y x=true/\eX Y x=y)\/(f=4/\uA y)):=by
 obtain⟨hb,⟨Y,x,rfl,h1,h2,h3,h4⟩ | ⟨rfl,n1⟩⟩:=h
 ·exact⟨0,Y,x,rfl,h1,h2,hb,.inl ⟨rfl,h3,h4⟩⟩
 exact⟨4,zeroE,[],rfl,⟨Rd.nil _ _,yam _⟩,fun h=>absurd h (yaw 0),hb,.inr ⟨rfl,n1⟩⟩
theorem StE.set{ob g q:Nat}{l:List EP}(h:StE ob v q l W)(hg:W.heap[g]?=some (.cells cs 237)):StE ob v q l (W.setCell ⟨g,i,none⟩ x):=by
 obtain⟨⟨a,k,h1,h2⟩,h3⟩:=h;refine⟨⟨a,k,ah h1 (fun e=>?_),dw h2 (fun j hj=>yaA _ _ _ _ (fun e=>?_))⟩,h3.kpr (oZ hg (fun t ht e=>by rcases ht with rfl|rfl|rfl<;>exact absurd e (by decide)))⟩
 ·rw[e,hg] at h1;cases h1
 obtain⟨-,-,cur,h4⟩:=aU h2 hj;have e:j=g:=e;rw[e,hg] at h4;cases h4
theorem PT(ob q:Nat)(v:QV)(l:List EP)(b:List UInt8)(wr:World)(hob:ob<q)(hst:StE ob v q l wr)(hr:RdS q q ⟨b,false⟩ wr)(hb:b.length<=4194304)(hl:l.length<=4194304) :
  Calls Tryz.prog 230 #[.pointer (some ⟨q,0,none⟩),.pointer (some ⟨ob,0,none⟩)] wr (um q [ob] elE uB 1000 (StE ob v) l b wr):=by
 obtain⟨⟨a,k,ho,hown⟩,hE⟩:=hst;have T:=bC ⟨b,false⟩ 1 (by decide);have hl3:=fU ⟨b,false⟩ 1;have hby:=iZ q q ⟨b,false⟩ 1 wr hr (by dsimp only;omega);generalize RS.bytes ⟨b,false⟩ 1=y at *;obtain⟨y,s'⟩:=y;dsimp only at T hby hl3;have hqs:q<wr.heap.size:=by obtain⟨_,_,h⟩:=hr;exact h.lt
 have HT:=hid T;clear T;go_in;go_wp2_with fail;refine hby.mono ?_;rintro e W1 ⟨a1,c1,rfl,hrd1,hty1,hr1,hg1⟩;have hE1:=hE.kpr (yK hr hg1);have ho1:W1.heap[ob]?=some (v.ents a l.length k).box:=(hg1.block _ (by omega) (fun e=>by have:=yaf e;omega)).trans ho;have own1:W1.ownsRow q 124 2 (.slice a l.length k) l.length (enV l):=dw hown (fun k hk=>hg1.block k (aU hown hk).2.1 (fun e=>by obtain⟨_,_,cur,h3⟩:=aU hown hk;obtain⟨_,_,h⟩:=hr;have h4:=h.at_;rw[<-yaf e,h3] at h4;cases h4));have X1:BelX q [ob] wr W1:=(jo hg1 (M:=q) (by omega)).mono (yag _) (fun k hk h=>by rw[yah.1 hk] at h;omega);clear hby hE ho hown hr;go_wp2_with fail;refine (Jt y a1 y.length c1 W1 hrd1 (by omega)).mono ?_;rintro e W2 hO;obtain⟨f,Y,xY,rfl,eY,tY,hb2,hans⟩:=OW hO;have HA:=hid hans;have hz1:=hg1.size;clear hO hans hrd1 hty1;unfold EV.val EV.cells;go_upto_region 2 with (refine zNr rfl ?_;go_simp);generalize hg:W2.alloc _=W3;have e3:W2.alloc Y.box=W3:=hg;have hb3':Below W2.heap.size W2 W3:=bE e3
 have hb3:=hb2.trans (hb3'.mono hb2.size);have q3:W3.heap[W2.heap.size]?=some Y.box:=aE e3
 have ho3:=(hb3.block _ (by omega)).trans ho1;have own3:=ag own1 hb3;have hr3:=hr1.later hb3;have hE3:=(hE1.kpr (KeepR.of_below hb3)).snoc (p:=(Y,xY)) (eY.later hb3') (tY.kpr (.inr (.inr rfl)) (KeepR.of_below hb3'));have X3:BelX q [ob] wr W3:=X1.trans ((BelX.of_below hb3 [ob]).mono (by omega) (fun _ hk _=>hk));have z3:q<=W3.heap.size:=yae (yaZ hqs) (yae hz1 hb3.size);clear hg e3 hb3' hb3 hb2 ho1 own1 hr1 hE1 eY tY X1 hg1;generalize W2.heap.size=yb at *;obtain⟨c0,c1,c2,c3,c4⟩:=bf ho3;dsimp only[QV.ents] at c0 c1 c2 c3;obtain⟨g0,g1,-⟩:=fA q3;go_upto_region 3 with (at_builtin;refine fM _ rfl (.tmp 13) (.tmp 15) 37 rfl q 124 zeroE.val 2 40 tZ (by decide) (.slice a l.length k) l.length (enV l) rfl own3 1 [.string Y.name,.slice Y.ao Y.an Y.ac] rfl rfl (fun x hx=>by simp at hx;rcases hx with rfl|rfl<;>rfl) z3 (by omega) ?_;intro a4 k4 W4 own4 hg4 hb4 _;have ho4:W4.heap[ob]?=some (v.ents a l.length k).box:=(hb4.block _ hob).trans ho3;obtain⟨d0,d1,d2,d3,d4⟩:=bf ho4;dsimp only[QV.ents] at d0 d1 d2 d3);have hba:=bN W3 (.cells #[.string Y.name,.slice Y.ao Y.an Y.ac] 124);have owna:=ag own3 hba;have hr4:RdS q q s' W4:=wS (hr3.later hba) hg4 owna (by decide) (by decide);have hE4:=hE3.kpr ((KeepR.of_below hba).trans (pG hg4 owna (fun t ht e=>by rcases ht with rfl|rfl|rfl<;>exact absurd e (by decide))));have X4:BelX q [ob] wr W4:=X3.trans (BelX.of_below hb4 [ob]);have ho5:(W4.setCell ⟨ob,2,none⟩ (.slice a4 (l.length+1) k4)).heap[ob]?=some (v.ents a4 (l.length+1) k4).box:=(at_set ho4).trans (by kernel_rfl);have hr5:RdS q q s' (W4.setCell ⟨ob,2,none⟩ (.slice a4 (l.length+1) k4)):=hr4.grown (ak _ _ _ _) ho4 (fun c fr h=>by cases h) (by omega);have hE5:=hE4.kpr (oZ (i:=2) (x:=.slice a4 (l.length+1) k4) ho4 (fun t ht e=>by rcases ht with rfl|rfl|rfl<;>exact absurd e (by decide)));have X5:BelX q [ob] wr (W4.setCell ⟨ob,2,none⟩ (.slice a4 (l.length+1) k4)):=X4.set _ _ _ (.inl (by simp));have own5:(W4.setCell ⟨ob,2,none⟩ (.slice a4 (l.length+1) k4)).ownsRow q 124 2 (.slice a4 (l.length+1) k4) (l.length+1) (enV (l++[(Y,xY)])):=by
  rw[xR];exact dw own4 (fun k hk=>yaA _ _ _ _ (by have:=(aU own4 hk).1;show k≠ob;omega))
 clear hba owna hr4 hE4 X4 ho4 hr3 hE3 X3 ho3 own3 own4 hg4 hb4 c0 c1 c2 c3 c4 d0 d1 d2 d3 d4 q3 z3 g0 g1;generalize W4.setCell _ _=W5 at *;obtain⟨c0,c1,c2,c3,c4⟩:=bf ho5;dsimp only[QV.ents] at c0 c1 c2 c3;have hG:Hid (∀bb:Bool,(bb=true->l.length<1000/\aB Y xY=true/\eX Y xY=y)->(bb=false->uA y\/1000<=l.length)->um q [ob] elE uB 1000 (StE ob v) l b wr (.returned (.bool bb)) W5):=hid (by
  intro bb h1 h2;have eln:(l++[(Y,xY)]).length=l.length+1:=by simp
  refine⟨bb,s',(Y,xY),rfl,hr5,⟨⟨a4,k4,by rw[eln];exact ho5,by rw[eln];exact own5⟩,hE5⟩,X5,HT.out.le,fun hb hs=>?_,fun h=>?_⟩
  ·obtain⟨k1,k2,k3⟩:=h1 hb;obtain⟨-,k4,-⟩:=HT.out.yes hs;refine⟨k1,?_,k2⟩;unfold elE;dsimp only at k4 ⊢;rw[k3];exact k4
  have hno:s'.bad=true->∀z rest,uB z->b≠elE z++rest:=fun hs z rest hz=>by
   rcases HT.out.no hs with h | h
   ·cases h
   exact h (eX z.1 z.2) rest (by have:=jD hz;omega)
  cases hs:s'.bad with
  | true=>exact .inr (hno hs)
  | false=>
   rw[hs] at h;rcases h with rfl | h
   ·rcases h2 rfl with h3 | h3
    ·obtain⟨-,k4,k5⟩:=HT.out.yes hs;refine .inr (fun z rest hz e=>?_);rw[show b=val 1 y++s'.l from k4] at e;exact h3 z.1 z.2 hz (az (by decide) k5 (by have:=jD hz;omega) e).1.symm
    exact .inl h3
   cases h)
 clear ho5 hr5 hE5 X5 own5 HT;rcases HA.out with ⟨rfl,mY,lY⟩ | ⟨rfl,nY⟩
 ·have HM:=hid (yax mY lY);clear mY lY;by_cases h8:l.length<1000
  ·have f0:decide ((l.length:Int)+1<=1000)=true:=yaa (by omega);go_wp2_with fail;go_ret;exact hG.out true (fun _=>⟨h8,HM.out.1,HM.out.2⟩) (fun h=>by cases h)
  have f0:decide ((l.length:Int)+1<=1000)=false:=yad (by omega);go_wp2_with fail;go_ret;exact hG.out false (fun h=>by cases h) (fun _=>.inr (by omega))
 have HM:=hid nY;clear nY;go_wp2_with fail;go_ret;exact hG.out false (fun h=>by cases h) (fun _=>.inl HM.out)
theorem LG(B g ob:Nat)(s:RS)(t:UInt8)(v:QV)(W:World)(ht:0<t.toNat)(hr:RdS B g s W)(hl:s.l.length<=100000000)(ho:W.heap[ob]?=some (v.ents none 0 0).box)(hg:g≠ob) :
  Calls Tryz.prog 207 #[.pointer (some ⟨g,0,none⟩),.int .u8 (t.toNat:Int),.func (.func 230) #[] #[.pointer (some ⟨ob,0,none⟩)]] W (Fg B g t s [ob] elE uB 1000 (StE ob v) W):=by
 have hls:=lA ho;refine wM B g s t 230 #[.pointer (some ⟨ob,0,none⟩)] W ht hr hl (enters_of Tryz.func230 (by kernel_rfl) rfl) [ob] (fun k hk=>?_) elE uB 1000 PI PX (StE ob v) (fun q w1 h=>?_) (fun q l wx cs x _ h1 h2=>h1.set h2) (fun q l b wr hq h1 h2 h3 h4 _=>PT ob q v l b wr (by omega) h1 h2 h3 h4)
 ·rw[yah.1 hk];exact⟨fun e=>hg e.symm,_,ho,fun c fr h=>by cases h⟩
 exact⟨⟨none,0,(h.block _ hls (fun e=>hg (yaf e).symm)).trans ho,yaC _ _ _ _⟩,fun p hp=>by cases hp⟩
def gZ (t:TypeId):Prop:=t=5\/t=9\/t=106\/t=124\/t=55\/t=22
structure KeepM (W W':World):Prop where
 size:W.heap.size<=W'.heap.size
 rows:∀(k:Nat) (c:Array Value) (t:TypeId) (fr:Nat×Nat),gZ t->W.heap[k]?=some (Obj.cells c t fr)->W'.heap[k]?=some (Obj.cells c t fr)
theorem KeepM.trans{c:World}(h:KeepM a b)(h':KeepM b c):KeepM a c:=⟨yae h.size h'.size,fun k x t fr ht hk=>h'.rows k x t fr ht (h.rows k x t fr ht hk)⟩
theorem KeepM.of_below(h:Below a.heap.size a b):KeepM a b:=⟨h.size,fun k _ _ _ _ hk=>(h.block k (lA hk)).trans hk⟩
theorem KeepM.kr(h:KeepM a b):KeepR a b:=⟨h.size,fun k c t fr ht hk=>h.rows k c t fr (by rcases ht with h | h | h<;>simp[gZ,h]) hk⟩
theorem KeepM.of_belX(h:BelX a.heap.size xs a b)(hx:∀k∈xs,∃o,a.heap[k]?=some o/\∀(c:Array Value) (t:TypeId) (fr:Nat×Nat),gZ t->o≠.cells c t fr):KeepM a b:=by
 refine⟨h.size,fun k c t fr ht hk=>h.at_ hk (lA hk) (fun hm=>?_)⟩;obtain⟨o,h1,h2⟩:=hx k hm;rw[hk] at h1;exact h2 c t fr ht (yaf h1).symm
theorem KeepM.box{j:Nat}(h:a.heap[j]?=some (.cells cs t fr))(ht:¬gZ t)(hs:a.heap.size<=b.heap.size)(ho:∀k,k≠j->b.heap[k]?=a.heap[k]?):KeepM a b:=by
 refine⟨hs,fun k c t' fr' ht' hk=>?_⟩;have hne:k≠j:=fun e=>by
  subst e;rw[h] at hk;cases hk;exact ht ht'
 exact (ho k hne).trans hk
theorem KeepM.set{b:Nat}(h:W.heap[b]?=some (.cells cs t fr))(ht:¬gZ t):KeepM W (W.setCell ⟨b,i,none⟩ x):=
 KeepM.box h ht (yaR (ybv _ _ _).symm) (fun _ hk=>yaA _ _ _ _ hk)
theorem KeepM.grown{b:Nat}(hg:W.grownBy W' (some b))(h:W.heap[b]?=some (.cells cs t fr))(ht:¬gZ t):KeepM W W':=by
 refine⟨hg.size,fun k c t' fr' ht' hk=>(hg.block k (lA hk) (fun e=>?_)).trans hk⟩;have e:=yaf e;subst e;rw[h] at hk;cases hk;exact ht ht'
theorem kS{size:Nat}{xs:List Value}(ht:gZ t)(h:Rd a size ao n cap xs)(hy:TyX t a ao cap)(hk:KeepM a b):Rd b size ao n cap xs:=by
 obtain⟨h1,h2,h3,h4,h5⟩:=h;refine⟨h1,h2,h3,h4,fun h0 x hx=>?_⟩;obtain⟨s1,l,c⟩:=h5 h0 x hx;obtain⟨c',fr,h6⟩:=hy h0 x hx;exact⟨s1,yaz l hk.size,fun j u hu=>(yaK (a:=⟨x.block,x.off+j,none⟩) ((hk.rows _ _ _ _ ht h6).trans h6.symm)).trans (c j u hu)⟩
theorem TyX.kpm(ht:gZ t)(hy:TyX t a ao cap)(hk:KeepM a b):TyX t b ao cap:=fun h0 x hx=>by
 obtain⟨c',fr,h6⟩:=hy h0 x hx;exact⟨c',fr,hk.rows _ _ _ _ ht h6⟩
theorem iI:gZ 5:=.inl rfl
theorem yf:gZ 124:=.inr (.inr (.inr (.inl rfl)))
theorem tK:gZ 55:=.inr (.inr (.inr (.inr (.inl rfl))))
theorem uG:gZ 22:=.inr (.inr (.inr (.inr (.inr rfl))))
theorem jP:¬gZ 39:=fun h=>by rcases h with h | h | h | h | h | h<;>exact absurd h (by decide)
theorem pX:¬gZ 237:=fun h=>by rcases h with h | h | h | h | h | h<;>exact absurd h (by decide)
structure QTy (W:World)(v:QV)(c:QC):Prop where
 e:TyX 124 W v.eo v.ec
 a:∀p∈c.ents,TyX 106 W p.1.ao p.1.ac
 c:TyX 5 W v.co v.cc
theorem QTy.kpm(h:QTy a v c)(hk:KeepM a b):QTy b v c:=⟨h.e.kpm yf hk,fun p hp=>(h.a p hp).kpr (.inr (.inr rfl)) hk.kr,h.c.kpm iI hk⟩
theorem EnAt.kpm{l:List EP}(h:EnAt a ao n cap l)(h1:TyX 124 a ao cap)(h2:∀p∈l,TyX 106 a p.1.ao p.1.ac)(hk:KeepM a b):EnAt b ao n cap l:=
 ⟨kS yf h.r h1 hk,fun p hp=>⟨kW (.inr (.inr rfl)) (h.each p hp).a (h2 p hp) hk.kr,(h.each p hp).la⟩⟩
theorem QAt.kpm(h:QAt a v c)(hy:QTy a v c)(hk:KeepM a b):QAt b v c:=⟨h.e.kpm hy.e hy.a hk,kS iI h.c hy.c hk,h.lc⟩
theorem mV{M B:Nat}(h:BelX M xs a b)(hM:B<=M)(hx:∀k∈xs,B<=k):Below B a b:=⟨h.os,h.tape,h.output,h.size,fun k hk=>h.block k (by omega) (fun hm=>by have:=hx k hm;omega)⟩
def xu (T:World->QV->QC->Prop)(ok bad:Value)(b:List UInt8)(w:World)(e:Ending)(w':World):Prop:=Below w.heap.size w w' /\
 ((∃v c,e=.returned (.tuple #[QV.val v,ok])/\QAt w' v c/\T w' v c/\bz v c=true/\dM v c=b)\/(e=.returned (.tuple #[aG.val,bad])/\uI b))
theorem JC{s s':RS}{l:List EP}(T:Took (fun ys=>val 3 (eU elE ys)) (fun ys=>(∀y∈ys,uB y)/\ys.length<=1000/\(eU elE ys).length<=4194304) (fun ys=>(∀y∈ys,uB y)/\ys.length<=1000/\(eU elE ys).length<=4194304) s l s'):Took (val 3) Dq (fun z=>z.length<=4194304) s (dH l) s':=
 Dx (f:=dH) T (fun _=>rfl) (fun _ ⟨m,h1,h2,h3,h4⟩=>⟨m,⟨h2,h3,h4⟩,h1.symm⟩) (fun _ h=>h.2.2)
theorem uH{v':QV}{c':QC}(h1:v.code=v'.code)(h2:v.yes=v'.yes)(h3:aP c.ents c'.ents=true)(h4:c.cursor=c'.cursor):aF v c v' c'=true:=by
 unfold aF;rw[yaa h1,yaa h2,h3,yaa h4];rfl
theorem Ec(b:List UInt8)(ao:Option Addr)(n cap:Nat)(w:World)(hr:Rd w 1 ao n cap (byV b))(hn:n<=100000000) :
  Calls Tryz.prog 199 #[.slice ao n cap] w (xu QTy (.int .i64 0) (.int .i64 4) b w):=by
 have hbn:b.length=n:=by have:=hr.1;rw[aV] at this;omega
 have hb0:=bN w aG.box;have k0:=aN w aG.box
 have hz0:(w.alloc aG.box).heap.size=w.heap.size+1:=by simp
 have hr0:=hr.later hb0;unfold aG QV.box QV.cells at hb0 k0 hz0 hr0;dsimp only at hb0 k0 hz0 hr0;clear hr;go_in;go_upto_region 1 with fail;generalize hg:w.alloc _=W0 at *;have k0f:W0.heap[w.heap.size]?=some aG.box:=k0;clear hg k0;go_wp2_with fail;refine (pV ao n cap b W0 hr0 (by omega)).mono ?_;rintro e W1 ⟨g,rfl,hr1,hb1⟩;have hg0:W0.heap.size<=g:=by obtain⟨_,_,h⟩:=hr1;exact h.le
 have T1:=kJ (mG ⟨b,false⟩ 1 255 (by decide) (by decide)) (may':=fun n=>n<=14) (good':=fun n=>n<18446744073709551616) (fun _ _=>by omega) (fun _ _=>by omega);have hle1:=nT ⟨b,false⟩ 1 255;have hnum1:=mW W0.heap.size g ⟨b,false⟩ 1 255 W1 hr1 (by dsimp only;omega) (by decide);generalize RS.numM ⟨b,false⟩ 1 255=nm at *;obtain⟨n1,s1⟩:=nm;dsimp only at T1 hnum1 hle1;have l1:=T1.le;dsimp only at l1;have HT1:=hid T1;clear T1;go_wp2_with fail;refine hnum1.mono ?_;rintro e W2 ⟨rfl,hr2,hg2⟩;have T2:=qJ s1 2 (by decide);have hflag:=yG W0.heap.size g s1 2 W2 hr2 (by omega);unfold jm at hflag;generalize RS.flag s1 2=fm at *;obtain⟨y2,s2⟩:=fm;dsimp only at T2 hflag;have l2:=T2.le;have HT2:=hid T2;clear T2;go_wp2_with fail;refine hflag.mono ?_;rintro e W3 ⟨rfl,hr3,hg3⟩;have hb3:Below W0.heap.size W0 W3:=(hb1.trans (below_of_grown hg2 hg0 (by obtain⟨_,_,h⟩:=hr1;exact h.lt))).trans (below_of_grown hg3 hg0 (by obtain⟨_,_,h⟩:=hr2;exact h.lt));go_upto_region 3 with (refine zNr rfl ?_;go_simp);generalize hg:W3.alloc _=W4;obtain⟨V,hV⟩:∃V:QV,V=⟨(n1:Int),y2,none,0,0,none,0,0⟩:=⟨_,rfl⟩
 have e4:W3.alloc V.box=W4:=by rw[hV];exact hg
 have hb4':Below W3.heap.size W3 W4:=bE e4
 have q4:W4.heap[W3.heap.size]?=some V.box:=aE e4
 have hr4:=hr3.later hb4';have hb4:=hb3.trans (hb4'.mono hb3.size);have hob:W0.heap.size<=W3.heap.size:=hb3.size;have hgo:g≠W3.heap.size:=by obtain⟨_,_,h⟩:=hr3;have:=h.lt;omega
 have HV:=hid hV;clear hg e4 hnum1 hflag hb1 hr1 hr2 hr3 hg2 hg3 hb3 hb4' hV hle1;generalize W3.heap.size=ob at *;have hVn:V=V.ents none 0 0:=by rw[HV.out];rfl
 have q4':W4.heap[ob]?=some (V.ents none 0 0).box:=by rw[<-hVn];exact q4
 clear hVn;go_wp2_with fail;refine (LG W0.heap.size g ob s2 3 V W4 (by decide) hr4 (by omega) q4' hgo).mono ?_;rintro e W5 ⟨⟨r5,rfl⟩,s3,qb,l,hr5,hq5,hst5,hX5,hln5,T3'⟩;obtain⟨⟨a5,k5,q5,own5⟩,ty5⟩:=hst5;have T3:=JC T3';have l3:=T3.le;have hb5:Below W0.heap.size W0 W5:=hb4.trans (mV hX5 hb4.size (fun k hk=>by simp only[yas,yal,or_false] at hk;omega));have HT3:=hid T3;have HT3':=hid T3';clear T3 T3' q4 q4' hr4 hb4 hX5;have T4:=bC s3 4 (by decide);have hl4:=fU s3 4;have hby:=iZ W0.heap.size g s3 4 W5 hr5 (by omega);generalize RS.bytes s3 4=y at *;obtain⟨cur,s4⟩:=y;dsimp only at T4 hby hl4;have HT4:=hid T4;clear T4;go_wp2_with fail;refine hby.mono ?_;rintro e W6 ⟨a6,c6,rfl,hrd6,hty6,hr6,hg6⟩;have hb6:Below W0.heap.size W0 W6:=hb5.trans (below_of_grown hg6 hg0 (by obtain⟨_,_,h⟩:=hr5;exact h.lt));have q6:W6.heap[ob]?=some (V.ents a5 l.length k5).box:=(hg6.block _ (lA q5) (fun e=>hgo (yaf e).symm)).trans q5;have own6:W6.ownsRow qb 124 2 (.slice a5 l.length k5) l.length (enV l):=dw own5 (fun k hk=>hg6.block k (aU own5 hk).2.1 (fun e=>by obtain⟨_,_,cur,h3⟩:=aU own5 hk;obtain⟨_,_,h⟩:=hr5;have h4:=h.at_;rw[<-yaf e,h3] at h4;cases h4));have ty6:=ty5.kpr (yK hr5 hg6);clear hby q5 own5 ty5 hr5 hb5 hg6;obtain⟨d0,d1,d2,d3,d4⟩:=bf q6;go_upto_region 5 with fail;have q7:(W6.setCell ⟨ob,3,none⟩ (.slice a6 cur.length c6)).heap[ob]?=some (QV.box ⟨(n1:Int),y2,a5,l.length,k5,a6,cur.length,c6⟩):=(at_set q6).trans (by rw[HV.out];kernel_rfl);have hr7:RdS W0.heap.size g s4 (W6.setCell ⟨ob,3,none⟩ (.slice a6 cur.length c6)):=hr6.grown (ak _ _ _ _) q6 (fun c fr h=>by cases h) hgo;have hb7:=hb6.setCell (p:=⟨ob,3,none⟩) hob (.slice a6 cur.length c6);have hK7:KeepM W6 (W6.setCell ⟨ob,3,none⟩ (.slice a6 cur.length c6)):=KeepM.set q6 jP;have hty7:QTy (W6.setCell ⟨ob,3,none⟩ (.slice a6 cur.length c6)) ⟨(n1:Int),y2,a5,l.length,k5,a6,cur.length,c6⟩ ⟨l,cur⟩:=(show QTy W6 ⟨(n1:Int),y2,a5,l.length,k5,a6,cur.length,c6⟩ ⟨l,cur⟩ from ⟨TyX.of_own own6,fun p hp=>(ty6 p hp).2,hty6⟩).kpm hK7;have hQ7:QAt (W6.setCell ⟨ob,3,none⟩ (.slice a6 cur.length c6)) ⟨(n1:Int),y2,a5,l.length,k5,a6,cur.length,c6⟩ ⟨l,cur⟩:=(show QAt W6 ⟨(n1:Int),y2,a5,l.length,k5,a6,cur.length,c6⟩ ⟨l,cur⟩ from ⟨⟨Rd.of_own_slice own6,fun p hp=>(ty6 p hp).1⟩,hrd6,by dsimp only;omega⟩).kpm ⟨TyX.of_own own6,fun p hp=>(ty6 p hp).2,hty6⟩ hK7;generalize W6.setCell _ _=W7 at *;clear d0 d1 d2 d3 d4 q6 own6 ty6 hrd6 hty6 hr6 hb6 hK7;have hrz:W7.heap[w.heap.size]?=some aG.box:=(hb7.block _ (by omega)).trans k0f;have hbel:=hb0.trans (hb7.mono (by omega));go_wp2_with fail;refine (qB W0.heap.size g s4 W7 hr7).mono ?_;rintro e w9 ⟨rfl,rfl⟩;have f1:(W7.setRow w.heap.size aG.cells).heap[w.heap.size]?=some (.cells aG.cells 39):=aO hrz;have f2:=below_setRow hbel (yag _) aG.cells;by_cases he:s4.bad=true\/0<s4.l.length
 ·have e4:s4.ends=4:=if_pos he;have hno:=hid (qE HT1.out HT2.out HT3.out HT4.out (.inl he));rw[e4];clear he;go_wp2_with (refine zSr rfl hrz ?_;go_simp);exact yay (w:=W7.setRow w.heap.size aG.cells) (aj (i:=2) (j:=3) (t:=39) rfl rfl rfl (by kernel_rfl) (by kernel_rfl) f1) rfl ⟨f2,.inr ⟨rfl,hno.out⟩⟩
 have e4:s4.ends=0:=if_neg he;have hs1:s4.bad=false:=by cases h:s4.bad with
  | true=>exact absurd (.inl h) he
  | false=>rfl
 have hs2:s4.l=[]:=yat (by
  have:¬0<s4.l.length:=fun h=>he (.inr h);omega)
 rw[e4];have hs3:s3.bad=false:=(HT4.out.yes hs1).1;obtain⟨-,-,hall,-,hsh⟩:=HT3'.out.yes hs3;have hdone:=Dc HT1.out HT2.out HT3.out HT4.out hs1 hs2;have HD:Hid (dM ⟨(n1:Int),y2,a5,l.length,k5,a6,cur.length,c6⟩ ⟨l,cur⟩=b):=hid hdone.1.symm;have HNo:Hid (bz ⟨(n1:Int),y2,a5,l.length,k5,a6,cur.length,c6⟩ ⟨l,cur⟩=false->uI b):=hid (fun hf=>qE HT1.out HT2.out HT3.out HT4.out (.inr (fun W v c ho hm g1 g2 g3 g4=>by
  have F:=FitQ.of ho hm;have:=xB ho hQ7 (uH g1 g2 (uh _ _ F.all hall g3) g4);rw[hm,hf] at this;cases this)))
 have hme:=tH ⟨(n1:Int),y2,a5,l.length,k5,a6,cur.length,c6⟩ ⟨l,cur⟩ W7 hQ7 (fun _=>hsh);clear he hdone hs1 hs2 hs3 hall hsh;unfold QV.val QV.cells at hme;go_wp2_with (refine wpList_load_row (ty:=39) q7 rfl rfl rfl (by kernel_rfl) (by kernel_rfl) ?_;go_simp);refine hme.mono ?_;rintro e W8 ⟨rfl,hb8⟩;have hrz8:=hb8.q hrz;have q8:=hb8.q q7;have hbel8:=hbel.trans (hb8.mono hbel.size);have hQ8:=hQ7.later hb8;have hty8:=hty7.kpm (KeepM.of_below hb8);clear hme hQ7 hty7 hrz q7 hbel hb8 f1 f2;cases hm:bz ⟨(n1:Int),y2,a5,l.length,k5,a6,cur.length,c6⟩ ⟨l,cur⟩ with
 | false=>
  have hno:=HNo.out hm;have f1:(W8.setRow w.heap.size aG.cells).heap[w.heap.size]?=some (.cells aG.cells 39):=aO hrz8;have f2:=below_setRow hbel8 (yag _) aG.cells;clear hm;go_wp2_with (refine zSr rfl hrz8 ?_;go_simp);exact yay (w:=W8.setRow w.heap.size aG.cells) (aj (i:=2) (j:=3) (t:=39) rfl rfl rfl (by kernel_rfl) (by kernel_rfl) f1) rfl ⟨f2,.inr ⟨rfl,hno⟩⟩
 | true=>
  have HM:=hid hm;have f1:(W8.setRow w.heap.size (QV.cells ⟨(n1:Int),y2,a5,l.length,k5,a6,cur.length,c6⟩)).heap[w.heap.size]?=some (.cells (QV.cells ⟨(n1:Int),y2,a5,l.length,k5,a6,cur.length,c6⟩) 39):=aO hrz8;have f2:=below_setRow hbel8 (yag _) (QV.cells ⟨(n1:Int),y2,a5,l.length,k5,a6,cur.length,c6⟩);have hK:=KeepM.box (b:=W8.setRow w.heap.size (QV.cells ⟨(n1:Int),y2,a5,l.length,k5,a6,cur.length,c6⟩)) hrz8 jP (below_setRow (yaj w.heap.size W8) (yag _) (QV.cells ⟨(n1:Int),y2,a5,l.length,k5,a6,cur.length,c6⟩)).size (fun k hk=>yba W8 w.heap.size k (QV.cells ⟨(n1:Int),y2,a5,l.length,k5,a6,cur.length,c6⟩) hk);have hQF:=hQ8.kpm hty8 hK;have hTF:=hty8.kpm hK;clear hm;go_wp2_with (first | (refine wpList_load_row (ty:=39) q8 rfl rfl rfl (by kernel_rfl) (by kernel_rfl) ?_;go_simp) | (refine zSr rfl hrz8 ?_;go_simp));exact yay (w:=W8.setRow w.heap.size (QV.cells ⟨(n1:Int),y2,a5,l.length,k5,a6,cur.length,c6⟩)) (aj (i:=2) (j:=3) (t:=39) rfl rfl rfl (by kernel_rfl) (by kernel_rfl) f1) rfl ⟨f2,.inl ⟨_,⟨l,cur⟩,rfl,hQF,hTF,HM.out,HD.out⟩⟩
