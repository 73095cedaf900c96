/-
  A part of the proof.
-/
import Derived.Test.YtfmmandlmbcncaaGreatDoorKdba
set_option maxHeartbeats 40000000
set_option maxRecDepth 100000
namespace Go.Proofs.YtfmmandlmbcncaaGreatDoor.Msg
open Go.RowKit Go.Lib Mem Tlv
structure SrAt (w:World)(v v':QV)(b1 o1 b2 o2 k:Nat)(p q:EV)(W:World):Prop where
 bel:Below w.heap.size w W
 q1:W.heap[w.heap.size]?=some v.box
 q2:W.heap[w.heap.size+1]?=some v'.box
 x0:W.cell? ⟨b1,o1+k*2,none⟩=some (.string p.name)
 x1:W.cell? ⟨b1,o1+k*2+1,none⟩=some (.slice p.ao p.an p.ac)
 y0:W.cell? ⟨b2,o2+k*2,none⟩=some (.string q.name)
 y1:W.cell? ⟨b2,o2+k*2+1,none⟩=some (.slice q.ao q.an q.ac)
theorem SrAt.step {w W W':World}{v v':QV}{b1 o1 b2 o2 k:Nat}{p q:EV}(h:SrAt w v v' b1 o1 b2 o2 k p q W)(hb:Below W.heap.size W W'):SrAt w v v' b1 o1 b2 o2 k p q W':=by
 obtain⟨e1,e2⟩:=sG h.q1 h.q2 hb;exact⟨h.bel.trans (hb.mono h.bel.size),e1,e2,aU hb h.x0,aU hb h.x1,aU hb h.y0,aU hb h.y1⟩
theorem uw (v v':QV)(c c':QC)(w:World)(h:QAt w v c)(h':QAt w v' c'):Calls Tryz.prog 20 #[v.val,v'.val] w (aY (aN v c v' c') w):=by
 have hmo:Tryz.prog.follows .mixedOrders=true:=by kernel_rfl
 have lx:=h.e.len;have ly:=h'.e.len;have hcap:v.en<=9223372036854775807:=by have:=h.e.r.2.1;have:=h.e.r.2.2.1;unfold maxLen at this;omega
 have hb0:Below w.heap.size w ((w.alloc v.box).alloc v'.box):=bU w _ _;obtain⟨k1,k2⟩:=bY w v.box v'.box;have hs1:=lV v.co _ v.cc _ ((w.alloc v.box).alloc v'.box) (h.c.later hb0);have hs2:=lV v'.co _ v'.cc _ ((w.alloc v.box).alloc v'.box) (h'.c.later hb0);unfold QV.box QV.cells at hb0 k1 k2 hs1 hs2;unfold QV.val QV.cells;by_cases e1:v.code=v'.code
 case neg=>
  have f1:(v.code==v'.code)=false:=by simp[e1]
  have g1:(v.code != v'.code)=true:=by simp[e1]
  have Hs:Hid (aN v c v' c'=false):=hid (by unfold aN;rw[decide_eq_false e1];simp);clear e1 lx ly hs1 hs2;go_in;go_upto_region 1 with fail;generalize hg:World.alloc _ _=W0 at *;have q1:W0.heap[w.heap.size]?=some v.box:=k1;have q2:W0.heap[w.heap.size+1]?=some v'.box:=k2;clear hg k1 k2;obtain⟨c0,c1,c2,c3,-⟩:=aj q1;obtain⟨d0,d1,d2,d3,-⟩:=aj q2;go_wp2_with fail;go_ret;exact⟨by rw[Hs.out];rfl,hb0⟩
 have f1:(v.code==v'.code)=true:=by simp[e1]
 have g1:(v.code != v'.code)=false:=by simp[e1]
 by_cases e2:v.yes=v'.yes
 case neg=>
  have f2:(v.yes==v'.yes)=false:=by simp[e2]
  have g2:(v.yes != v'.yes)=true:=by simp[e2]
  have g3:(v.yes ^^ v'.yes)=true:=by cases h1:v.yes<;>cases h2:v'.yes<;>simp_all
  have Hs:Hid (aN v c v' c'=false):=hid (by unfold aN;rw[decide_eq_false e2];simp);clear e1 e2 lx ly hs1 hs2;go_in;go_upto_region 1 with fail;generalize hg:World.alloc _ _=W0 at *;have q1:W0.heap[w.heap.size]?=some v.box:=k1;have q2:W0.heap[w.heap.size+1]?=some v'.box:=k2;clear hg k1 k2;obtain⟨c0,c1,c2,c3,-⟩:=aj q1;obtain⟨d0,d1,d2,d3,-⟩:=aj q2;go_wp2_with fail;go_ret;exact⟨by rw[Hs.out];rfl,hb0⟩
 have f2:(v.yes==v'.yes)=true:=by simp[e2]
 have g2:(v.yes != v'.yes)=false:=by simp[e2]
 have g3:(v.yes ^^ v'.yes)=false:=by simp[e2]
 by_cases e3:v.en=v'.en
 case neg=>
  have f3:((v.en:Int)==(v'.en:Int))=false:=by rw[beq_eq_false_iff_ne];omega
  have g4:((v.en:Int) != (v'.en:Int))=true:=by rw[bne,f3];rfl
  have Hs:Hid (aN v c v' c'=false):=hid (by
   unfold aN;cases hh:aH c.ents c'.ents with
   | false=>simp
   | true=>have:=jG hh;omega)
  clear e1 e2 e3 lx ly hs1 hs2;go_in;go_upto_region 1 with fail;generalize hg:World.alloc _ _=W0 at *;have q1:W0.heap[w.heap.size]?=some v.box:=k1;have q2:W0.heap[w.heap.size+1]?=some v'.box:=k2;clear hg k1 k2;obtain⟨c0,c1,c2,c3,-⟩:=aj q1;obtain⟨d0,d1,d2,d3,-⟩:=aj q2;go_wp2_with fail;go_ret;exact⟨by rw[Hs.out];rfl,hb0⟩
 have f3:((v.en:Int)==(v'.en:Int))=true:=by rw[e3];simp
 have g4:((v.en:Int) != (v'.en:Int))=false:=by rw[bne,f3];rfl
 by_cases e4:c.cursor=c'.cursor
 case neg=>
  have f4:=Pv e4;have g5:(c.cursor==c'.cursor)=false:=beq_eq_false_iff_ne.2 e4;have Hs:Hid (aN v c v' c'=false):=hid (by unfold aN;rw[decide_eq_false e4];simp);clear e1 e2 e3 e4 lx ly;go_in;go_upto_region 1 with fail;generalize hg:World.alloc _ _=W0 at *;have q1:W0.heap[w.heap.size]?=some v.box:=k1;have q2:W0.heap[w.heap.size+1]?=some v'.box:=k2;clear hg k1 k2;obtain⟨c0,c1,c2,c3,-⟩:=aj q1;obtain⟨d0,d1,d2,d3,-⟩:=aj q2;go_wp2_with fail;go_ret;exact⟨by rw[Hs.out];rfl,hb0⟩
 rw[e4] at hs1;have f4:=uQ ⟨c'.cursor.toArray⟩;have g5:(c'.cursor==c'.cursor)=true:=by simp
 have Hs:Hid (aN v c v' c'=aH c.ents c'.ents):=hid (by unfold aN;rw[decide_eq_true e1,decide_eq_true e2,decide_eq_true e4];simp);have LX:=hid lx;have LY:=hid (ly.trans e3.symm);have E3:=hid e3;clear e1 e2 e3 e4 lx ly;go_in;go_upto_region 1 with fail;generalize hg:World.alloc _ _=W0 at *;have q1:W0.heap[w.heap.size]?=some v.box:=k1;have q2:W0.heap[w.heap.size+1]?=some v'.box:=k2;clear hg k1 k2;obtain⟨c0,c1,c2,c3,-⟩:=aj q1;obtain⟨d0,d1,d2,d3,-⟩:=aj q2;go_wp2_with fail;clear c0 c1 c2 c3 d0 d1 d2 d3 f1 f2 f3 f4 g1 g2 g3 g4 g5 hs1 hs2;go_loopw [5] (fun p wr=>∃k:Nat,k<=v.en/\p=.int .i64 (k:Int)/\Hid (aH (c.ents.take k) (c'.ents.take k)=true)/\Below W0.heap.size W0 wr) (fun p _=>v.en-(intOf p).toNat)
 case atStart=>exact⟨0,Nat.zero_le _,rfl,hid rfl,Below.refl _ _⟩
 case round=>
  obtain⟨k,hk,rfl,Ht,hbr⟩:=hrel;obtain⟨r1,r2⟩:=sG q1 q2 hbr;have hbel:=hb0.trans (hbr.mono hb0.size);obtain⟨c0,c1,c2,c3,-⟩:=aj r1;obtain⟨d0,d1,d2,d3,-⟩:=aj r2;by_cases hkn:k<v.en
  ·have hx:=(h.later hbel).e;have hy:=(h'.later hbel).e;obtain⟨b1,o1,hao1,hl1,hc1⟩:=hx.r.some (by have:=hx.r.le;omega);obtain⟨b2,o2,hao2,hl2,hc2⟩:=hy.r.some (by have:=hy.r.le;have:=E3.out;omega);obtain⟨u,hu⟩:∃u,c.ents[k]?=some u:=⟨_,List.getElem?_eq_getElem (by rw[LX.out];exact hkn)⟩
   obtain⟨z,hz⟩:∃z,c'.ents[k]?=some z:=⟨_,List.getElem?_eq_getElem (by rw[LY.out];exact hkn)⟩
   obtain⟨v1,v2⟩:=kT c.ents k u hu;obtain⟨v3,v4⟩:=kT c'.ents k z hz;have hU:=hx.each u (List.mem_of_getElem? hu);have hZ:=hy.each z (List.mem_of_getElem? hz);have hd:Below wr.heap.size wr wr.drew:=(Below.refl _ _).drew;have s0:SrAt w v v' b1 o1 b2 o2 k u.1 z.1 wr.drew:=(⟨hbel,r1,r2,hc1 (k*2) _ v1,hc1 (k*2+1) _ v2,hc2 (k*2) _ v3,hc2 (k*2+1) _ v4⟩:SrAt w v v' b1 o1 b2 o2 k u.1 z.1 wr).step hd;have hU2:=hU.later hd;have hZ2:=hZ.later hd;have hnx:=kG c.ents c'.ents k u z hu hz;rw[Ht.out,Bool.true_and] at hnx;have HN:=hid hnx;have HB:=hid hbr;have i0:(0:Int)<=(k:Int):=by omega
   have i1:(k:Int)<(v.en:Int):=by omega
   have i2:(k:Int)<(v'.en:Int):=by have:=E3.out;omega
   have HK:=hid hkn;have A1:=hid hao1;have A2:=hid hao2;clear v1 v2 v3 v4 hnx hx hy hU hZ hc1 hc2 hu hz hbel hao1 hao2;go_upto_region 6 with fail;refine wp_region_held (S:=SrAt w v v' b1 o1 b2 o2 k u.1 z.1) hmo ?_;change wpAnyH _ _ _ _ _ _ _ _ (World.drew wr);have hbd:Below W0.heap.size W0 wr.drew:=hbr.trans (hd.mono hbr.size);generalize World.drew wr=X0 at *;clear hbr HB hd c0 c1 c2 c3 d0 d1 d2 d3 r1 r2;refine zHp 0 (.pointer (some ⟨w.heap.size,2,none⟩)) rfl s0 ?_;go_simp;refine zHa 1 (.slice (some ⟨b1,o1,none⟩) v.en v.ec) rfl (by rintro w2 h2;obtain⟨c0,c1,c2,c3,-⟩:=aj h2.q1;obtain⟨d0,d1,d2,d3,-⟩:=aj h2.q2;have x0:=h2.x0;have x1:=h2.x1;have y0:=h2.y0;have y1:=h2.y1;rw[A1.out] at c2;rw[A2.out] at d2;go_simp) s0 ?_;go_simp;refine zHp 2 (.int .i64 (k:Int)) rfl s0 ?_;go_simp;refine zHa 3 (.pointer (some ⟨b1,o1+k*2,none⟩)) rfl (by rintro w2 h2;obtain⟨c0,c1,c2,c3,-⟩:=aj h2.q1;obtain⟨d0,d1,d2,d3,-⟩:=aj h2.q2;have x0:=h2.x0;have x1:=h2.x1;have y0:=h2.y0;have y1:=h2.y1;rw[A1.out] at c2;rw[A2.out] at d2;go_simp) s0 ?_;go_simp;refine zHa 4 (.agg #[.string u.1.name,.slice u.1.ao u.1.an u.1.ac]) rfl (by rintro w2 h2;obtain⟨c0,c1,c2,c3,-⟩:=aj h2.q1;obtain⟨d0,d1,d2,d3,-⟩:=aj h2.q2;have x0:=h2.x0;have x1:=h2.x1;have y0:=h2.y0;have y1:=h2.y1;rw[A1.out] at c2;rw[A2.out] at d2;go_simp) s0 ?_;go_simp;refine zHp 5 (.pointer (some ⟨w.heap.size+1,2,none⟩)) rfl s0 ?_;go_simp;refine zHa 6 (.slice (some ⟨b2,o2,none⟩) v'.en v'.ec) rfl (by rintro w2 h2;obtain⟨c0,c1,c2,c3,-⟩:=aj h2.q1;obtain⟨d0,d1,d2,d3,-⟩:=aj h2.q2;have x0:=h2.x0;have x1:=h2.x1;have y0:=h2.y0;have y1:=h2.y1;rw[A1.out] at c2;rw[A2.out] at d2;go_simp) s0 ?_;go_simp;refine zHp 7 (.int .i64 (k:Int)) rfl s0 ?_;go_simp;refine zHa 8 (.pointer (some ⟨b2,o2+k*2,none⟩)) rfl (by rintro w2 h2;obtain⟨c0,c1,c2,c3,-⟩:=aj h2.q1;obtain⟨d0,d1,d2,d3,-⟩:=aj h2.q2;have x0:=h2.x0;have x1:=h2.x1;have y0:=h2.y0;have y1:=h2.y1;rw[A1.out] at c2;rw[A2.out] at d2;go_simp) s0 ?_;go_simp;refine zHa 9 (.agg #[.string z.1.name,.slice z.1.ao z.1.an z.1.ac]) rfl (by rintro w2 h2;obtain⟨c0,c1,c2,c3,-⟩:=aj h2.q1;obtain⟨d0,d1,d2,d3,-⟩:=aj h2.q2;have x0:=h2.x0;have x1:=h2.x1;have y0:=h2.y0;have y1:=h2.y1;rw[A1.out] at c2;rw[A2.out] at d2;go_simp) s0 ?_;go_simp;refine zH1 10 rfl (fun K hK=>?_);go_simp;have hc:=yC u.1 z.1 u.2 z.2 X0 hU2 hZ2;unfold EV.val EV.cells at hc;refine hc.mono ?_;rintro e X1 ⟨rfl,hb1⟩;have s1:=s0.step hb1;clear hc;go_simp;refine hK _ _ ⟨s1,?_⟩;clear hK K;refine zHa 11 (.bool (!bJ u.1 u.2 z.1 z.2)) rfl (by rintro w2 h2;obtain⟨c0,c1,c2,c3,-⟩:=aj h2.q1;obtain⟨d0,d1,d2,d3,-⟩:=aj h2.q2;have x0:=h2.x0;have x1:=h2.x1;have y0:=h2.y0;have y1:=h2.y1;rw[A1.out] at c2;rw[A2.out] at d2;go_simp) s1 ?_;go_simp;refine wpAnyH_done (by kernel_rfl) ?_ _;have hbx:=hbd.trans (hb1.mono hbd.size);have hb2:=s1.bel;cases hm:bJ u.1 u.2 z.1 z.2 with
   | false=>
    have Hf:Hid (aH c.ents c'.ents=false):=hid (nU c.ents c'.ents (k+1) (by rw[HN.out];exact hm) (by rw[LX.out,LY.out]));clear hm;go_wp2_with fail;go_ret;exact⟨by rw[Hs.out,Hf.out];rfl,hb2⟩
   | true=>
    have Hf:Hid (aH (c.ents.take (k+1)) (c'.ents.take (k+1))=true):=hid (by rw[HN.out];exact hm);clear hm;go_wp2_with fail;go_roundw
    case rel=>exact⟨k+1,HK.out,(by have:=HK.out;go_num),Hf,hbx⟩
    case measure=>have:=HK.out;simp[intOf];omega
  have Hf:Hid (aH c.ents c'.ents=true):=hid (by have:=Ht.out;rw[List.take_of_length_le (by rw[LX.out];omega),List.take_of_length_le (by rw[LY.out];omega)] at this;exact this);have hkn2:k=v.en:=by omega
  subst hkn2;go_wp2_with fail;go_ret;exact⟨by rw[Hs.out,Hf.out];rfl,hbel⟩
end Go.Proofs.YtfmmandlmbcncaaGreatDoor.Msg
namespace Go.Proofs.YtfmmandlmbcncaaGreatDoor.Msg
open Go.RowKit Go.Lib Mem Utf Tlv
theorem lq {W:World}{v:QV}{c:QC}(h:QAt W v c)(hn:FitQ v c->False):bf v c=false:=by
 cases hm:bf v c with
 | false=>rfl
 | true=>exact (hn (FitQ.of h hm)).elim
theorem EZ {v:QV}{c:QC}(hs:kU c)(h0:0<=v.code)(h14:v.code<=14)(hn:v.en<=1000)(hc:v.cn<=4000)(hb:0<v.code->aN v c (jT v.code) ⟨[],[]⟩=true)(hall:∀p∈c.ents,au p.1 p.2=true):bf v c=true:=by
 by_cases e0:v.code=0
 ·rw[vG e0 hs];have ha:(c.ents.any fun u=>!au u.1 u.2)=false:=List.any_eq_false.2 (fun p hp=>by simp[hall p hp]);rw[ha,decide_eq_false (by omega),decide_eq_false (by omega)];rfl
 unfold bf;rw[if_neg e0,decide_eq_true (by omega),decide_eq_true h14,hb (by omega)];rfl
theorem yf {v:QV}{c:QC}(h0:0<v.code)(hb:aN v c (jT v.code) ⟨[],[]⟩=false):bf v c=false:=by
 unfold bf;rw[if_neg (by omega),hb];simp
theorem uT {W W':World}{B n size:Nat}{e:TypeId}{v:Value}{xs:List Value}(hg:W.grownBy W' v.ownBlock)(ho:W.ownsRow B e size v n xs)(he:∀t:TypeId,(t=5\/t=9\/t=106)->e≠t):KeepR W W':=by
 refine⟨hg.size,fun k c t fr ht hk=>(hg.block k (Array.getElem?_eq_some_iff.1 hk).1 (fun e2=>?_)).trans hk⟩;obtain⟨-,-,cur,h3⟩:=bz ho e2.symm;rw[hk] at h3;cases h3;exact he _ ht rfl
def ElAt (W:World)(xs:List El):Prop:=∀x∈xs,elG x W/\TyX 5 W x.ao x.cap
theorem ElAt.kpr {W W':World}{xs:List El}(h:ElAt W xs)(hk:KeepR W W'):ElAt W' xs:=fun x hx=>⟨jI (.inl rfl) (h x hx).1 (h x hx).2 hk,(h x hx).2.kpr (.inl rfl) hk⟩
theorem ElAt.snoc {W:World}{xs:List El}{x:El}(h:ElAt W xs)(h1:elG x W)(h2:TyX 5 W x.ao x.cap):ElAt W (xs++[x]):=by
 intro y hy;rcases List.mem_append.1 hy with hy | hy
 ·exact h y hy
 rw[List.mem_singleton] at hy;subst hy;exact⟨h1,h2⟩
theorem BD (xs:List El)(x:El):elB (xs++[x])=elB xs++[x.it.2]:=by simp[elB]
def kF (l:List EP):List (List UInt8):=l.map fun p=>eu p.1 p.2
theorem FU (l:List EP)(k:Nat)(p:EP)(h:l[k]?=some p):kF (l.take (k+1))=kF (l.take k)++[eu p.1 p.2]:=by
 rw[List.take_add_one,h];simp[kF]
theorem kQ (l:List EP):aP 1 (kF l)=dm l:=by simp[aP,kF,dm,List.flatMap_map]
structure RbLoop (w:World)(v:QV)(c:QC)(k:Nat)(l:Value)(wr:World):Prop where
 at_:QbAt w v wr
 ex:∃xs:List El,wr.ownsRow (w.heap.size+1) 34 1 l k (lsV xs)/\elB xs=kF (c.ents.take k)/\ElAt wr xs
 all:∀p∈c.ents.take k,au p.1 p.2=true
def DY (v:QV)(c:QC)(w:World)(e:Ending)(w':World):Prop:=∃(l:List UInt8) (ax:Option Addr) (cx:Nat) (ok:Bool),e=.returned (.tuple #[.slice ax l.length cx,.bool ok])/\Rd w' 1 ax l.length cx (byV l)/\Below w.heap.size w w'/\(bf v c=true->l=dG v c/\ok=true)/\(bf v c=false->ok=false/\l=[])
theorem jQ {v:QV}{c:QC}{w w':World}(h:bf v c=false)(hb:Below w.heap.size w w'):DY v c w (.returned (.tuple #[.slice none 0 0,.bool false])) w':=
 ⟨[],none,0,false,rfl,Rd.nil _ _,hb,fun h2=>(by rw[h] at h2;cases h2),fun _=>⟨rfl,rfl⟩⟩
theorem rZ (v:QV)(c:QC)(w:World)(h:QAt w v c)(hs:kU c):Calls Tryz.prog 86 #[v.val] w (DY v c w):=by
 have hmo:Tryz.prog.follows .mixedOrders=true:=by kernel_rfl
 have lx:=h.e.len;have lc:c.cursor.length=v.cn:=by have:=h.c.1;rw[aS] at this;omega
 have LX:=hid lx;have LC:=hid lc;clear lx lc;have hb0:Below w.heap.size w (w.alloc v.box):=(Below.refl _ _).alloc (Nat.le_refl _) _;have k0:(w.alloc v.box).heap[w.heap.size]?=some v.box:=by show (w.heap.push _)[w.heap.size]?=some _;exact Array.getElem?_push_size
 unfold QV.box QV.cells at hb0 k0;unfold QV.val QV.cells;go_in;go_upto_region 1 with fail;generalize hg:w.alloc _=W0 at *;have q0:W0.heap[w.heap.size]?=some v.box:=k0;clear hg k0;have s0:QbAt w v W0:=⟨q0,hb0⟩
 obtain⟨c0,c1,c2,c3,-⟩:=aj q0;by_cases h0:v.code<0
 case pos=>
  have f1:decide (v.code<0)=true:=decide_eq_true h0;have HN:=hid (lq h (fun F=>by have:=F.c0;omega));clear h0;go_wp2_with fail;go_ret2;exact jQ HN.out hb0
 have f1:decide (v.code<0)=false:=decide_eq_false h0;by_cases h14:14<v.code
 case pos=>
  have f2:decide (14<v.code)=true:=decide_eq_true h14;have HN:=hid (lq h (fun F=>by have:=F.c14;omega));clear h0 h14;go_wp2_with fail;go_ret2;exact jQ HN.out hb0
 have f2:decide (14<v.code)=false:=decide_eq_false h14;by_cases hen:1000<v.en
 case pos=>
  have f3:decide ((1000:Int)<(v.en:Int))=true:=decide_eq_true (by omega);have HN:=hid (lq h (fun F=>by have:=F.en;omega));clear h0 h14 hen;go_wp2_with fail;go_ret2;exact jQ HN.out hb0
 have f3:decide ((1000:Int)<(v.en:Int))=false:=decide_eq_false (by omega);by_cases hcn:4000<v.cn
 case pos=>
  have f4:decide ((4000:Int)<(v.cn:Int))=true:=decide_eq_true (by omega);have HN:=hid (lq h (fun F=>by have:=F.cn;omega));clear h0 h14 hen hcn;go_wp2_with fail;go_ret2;exact jQ HN.out hb0
 have f4:decide ((4000:Int)<(v.cn:Int))=false:=decide_eq_false (by omega);have hzero:∀W,Below W0.heap.size W0 W->QAt W v c:=fun W hb=>(h.later hb0).later hb;have hbare:0<v.code->Calls Tryz.prog 20 #[.agg #[.int .i64 v.code,.bool v.yes,.slice v.eo v.en v.ec,.slice v.co v.cn v.cc],.agg #[.int .i64 v.code,.bool false,.slice none 0 0,.slice none 0 0]] W0 (aY (aN v c (jT v.code) ⟨[],[]⟩) W0):=fun _=>uw v (jT v.code) c ⟨[],[]⟩ W0 (hzero W0 (Below.refl _ _)) (BC _ _);have HZ:=hid hzero;have HC:=hid (And.intro (show 0<=v.code by omega) (And.intro (show v.code<=14 by omega) (And.intro (show v.en<=1000 by omega) (show v.cn<=4000 by omega))));by_cases hbf:0<v.code/\aN v c (jT v.code) ⟨[],[]⟩=false
 case pos=>
  have f5:decide (0<v.code)=true:=decide_eq_true hbf.1;have HN:=hid (yf hbf.1 hbf.2);have hcall:=hbare hbf.1;rw[hbf.2] at hcall;clear h0 h14 hen hcn hzero hbare hbf;go_wp2_with (first | (refine wpList_load_row (ty:=39) q0 rfl rfl rfl (by kernel_rfl) (by kernel_rfl) ?_;go_simp));refine hcall.mono ?_;rintro e W1 ⟨rfl,hb1⟩;go_wp2_with fail;go_ret2;exact jQ HN.out (hb0.trans (hb1.mono hb0.size))
 have hbok:0<v.code->aN v c (jT v.code) ⟨[],[]⟩=true:=fun hp=>by
  cases hq:aN v c (jT v.code) ⟨[],[]⟩ with
  | true=>rfl
  | false=>exact absurd ⟨hp,hq⟩ hbf
 have HB:=hid hbok;clear h0 h14 hen hcn hzero hbf;go_cut [41] from 9 (fun s41 w'=>s41=.bool false/\QbAt w v w')
 case first=>
  by_cases hp:0<v.code
  ·have f5:decide (0<v.code)=true:=decide_eq_true hp;have hcall:=hbare hp;rw[hbok hp] at hcall;clear hbare hbok hp;go_wp2_with (first | (refine wpList_load_row (ty:=39) q0 rfl rfl rfl (by kernel_rfl) (by kernel_rfl) ?_;go_simp));refine hcall.mono ?_;rintro e W1 ⟨rfl,hb1⟩;go_wp2_with fail;go_meet
   case rel=>exact⟨rfl,s0.step hb1⟩
  have f5:decide (0<v.code)=false:=decide_eq_false hp;clear hbare hbok hp;go_wp2_with fail;go_meet
  case rel=>exact⟨rfl,s0⟩
 case rest=>
  obtain⟨rfl,V0⟩:=hcut;clear s0 q0 c0 c1 c2 c3 hb0 hbare hbok f1 f2 f3 f4;generalize wc=V at *;have own0:V.ownsRow (w.heap.size+1) 34 1 (.slice none 0 0) 0 (lsV []):=World.ownsRow_nil _ _ _ _;go_wp2_with fail;go_loopw [4,5] (fun l p wr=>∃k:Nat,k<=v.en/\p=.int .i64 (k:Int)/\RbLoop w v c k l wr) (fun _ p _=>v.en-(intOf p).toNat)
  case atStart=>exact⟨0,Nat.zero_le _,rfl,V0,⟨[],own0,rfl,fun x hx=>by cases hx⟩,fun p hp=>by simp at hp⟩
  case round=>
   obtain⟨k,hk,rfl,hL⟩:=hrel;obtain⟨xs,own,hel,hat⟩:=hL.ex;have hall:=hL.all;have s0:=hL.at_;have Hel:=hid hel;have Hall:=hid hall;have hen:=HC.out.2.2.1;clear hel hall hL own0 V0;obtain⟨c0,c1,c2,c3,-⟩:=aj s0.o;by_cases hkn:k<v.en
   ·have hE:=(h.later s0.bel).e;obtain⟨b1,o1,hao,hl1,hc1⟩:=hE.r.some (by have:=hE.r.le;omega);rw[hao] at c2;obtain⟨p,hp⟩:∃p,c.ents[k]?=some p:=⟨_,List.getElem?_eq_getElem (by rw[LX.out];exact hkn)⟩
    obtain⟨v1,v2⟩:=kT c.ents k p hp;have x1:=hc1 (k*2) _ v1;have x2:wr.cell? ⟨b1,o1+k*2+1,none⟩=_:=hc1 (k*2+1) _ v2;have hEp:=hE.each p (List.mem_of_getElem? hp);have hme:=sF p.1 p.2 wr hEp;unfold EV.val EV.cells at hme;have HAo:=hid hao;have HP:=hid hp;have i0:(0:Int)<=(k:Int):=by omega
    have i1:(k:Int)<(v.en:Int):=by omega
    clear hc1 v1 v2 hao hp hE;go_wp2_with fail;refine hme.mono ?_;rintro e W1 ⟨rfl,hb1⟩;have s1:=s0.step hb1;cases hm:au p.1 p.2 with
    | false=>
     have HN:=hid (lq h (fun F=>by have:=F.all p (List.mem_of_getElem? HP.out);rw[hm] at this;cases this));clear hm;go_wp2_with fail;go_ret2;exact jQ HN.out s1.bel
    | true=>
     have HM:=hid hm;have hpk:=IE p.1 p.2 W1 (hEp.later hb1) (FitE.of hm);unfold EV.val EV.cells at hpk;have y1:=aU hb1 x1;have y2:=aU hb1 x2;clear hm hme x1 x2 c0 c1 c2 c3;obtain⟨c0,c1,c2,c3,-⟩:=aj s1.o;rw[HAo.out] at c2;go_wp2_with fail;refine hpk.mono ?_;rintro e W2 ⟨v3,rfl,o3,hb2⟩;obtain⟨a3,k3,e3,r3⟩:=Rd.of_own o3;subst e3;have t3:=TyX.of_own o3;have s2:=s1.step hb2;have own2:=aF (aF own hb1) hb2;have hat2:=((hat.kpr (KeepR.of_below hb1)).kpr (KeepR.of_below hb2)).snoc (x:=⟨(1,eu p.1 p.2),a3,k3⟩) r3 t3;have z2:w.heap.size+1<=W2.heap.size:=(Array.getElem?_eq_some_iff.1 s2.o).1;clear hpk y1 y2 c0 c1 c2 c3 own hat o3 r3 t3 s0 s1 hEp hb1 hb2;go_wp2_with (at_builtin;refine fD _ rfl (.tmp 56) (.tmp 63) 151 rfl (w.heap.size+1) 34 (.slice none 0 0) 1 24 lsT (by decide) u4 k (lsV xs) rfl own2 1 [.slice a3 (eu p.1 p.2).length k3] rfl rfl (one1 _ rfl) z2 (by omega) ?_;intro ao4 cap4 W4 o4 hg4 hb4 _);have hK:KeepR W2 W4:=(KeepR.of_below ((Below.refl _ _).alloc (Nat.le_refl _) _)).trans (uT hg4 (own2.alloc _) (fun t ht e=>by rcases ht with rfl|rfl|rfl<;>exact absurd e (by decide)));have hat4:=hat2.kpr hK;have s4:=s2.turn hb4 (Nat.lt_succ_self _);have hp2:=HP.out;go_roundw
     case rel=>
      refine⟨k+1,by omega,by go_num,s4,⟨xs++[⟨(1,eu p.1 p.2),a3,k3⟩],?_,?_,hat4⟩,fun q hq=>?_⟩
      ·rw[Dk];exact o4
      ·rw[BD,FU _ _ _ hp2,Hel.out]
      rw[List.take_add_one,hp2] at hq;rcases List.mem_append.1 hq with hq | hq
      ·exact Hall.out q hq
      obtain rfl:q=p:=by simpa using hq
      exact HM.out
     case measure=>simp[intOf];omega
   have hke:k=v.en:=by omega
   have hfull:c.ents.take k=c.ents:=List.take_of_length_le (by rw[LX.out];omega);have hallE:∀p∈c.ents,au p.1 p.2=true:=fun p hp=>Hall.out p (by rw[hfull];exact hp);have hC:=HC.out;have hmr:=EZ hs hC.1 hC.2.1 hC.2.2.1 hC.2.2.2 HB.out hallE;have HM:=hid hmr;have hlen:(dm c.ents).length<=4194304:=hs hallE;obtain⟨a4,k4,e4,r4⟩:=Rd.of_own own;subst e4;have htag:aP 1 (elB xs)=dm c.ents:=by rw[Hel.out,hfull,kQ]
   have hlst:=KI 3 a4 _ k4 xs wr r4 (fun u hu=>(hat u hu).1) (by rw[htag];exact hlen);rw[htag] at hlst;obtain⟨cn,hcd⟩:∃n:Nat,v.code=(n:Int):=⟨v.code.toNat,by omega⟩
   have hcw:IntKind.wrap .u64 v.code=(cn:Int):=by rw[hcd,IntKind.wrap_u64];omega
   have hcn64:cn<18446744073709551616:=by omega
   have hcnv:v.cn<=4194304:=by omega
   obtain⟨N1,hN1⟩:∃V,val 1 (az cn)=V:=⟨_,rfl⟩
   obtain⟨F2,hF2⟩:∃V,val 2 [if v.yes then (1:UInt8) else 0]=V:=⟨_,rfl⟩
   obtain⟨L3,hL3⟩:∃V,val 3 (dm c.ents)=V:=⟨_,rfl⟩
   obtain⟨C4,hC4⟩:∃V,val 4 c.cursor=V:=⟨_,rfl⟩
   have ln1:N1.length<=100:=by rw[<-hN1,ae,ah];omega
   have lf2:F2.length<=100:=by rw[<-hF2,ae];simp
   have ll3:L3.length<=4194400:=by rw[<-hL3,ae];omega
   have lc4:C4.length<=5000:=by rw[<-hC4,ae,LC.out];omega
   have HR:Hid (dG v c=N1++F2++L3++C4):=hid (by unfold dG;rw[hN1.symm,hF2.symm,hL3.symm,hC4.symm,show v.code.toNat=cn by omega];simp);rw[hL3] at hlst;have HN1:=hid hN1;have HF2:=hid hF2;have HC4:=hid hC4;clear hke hfull hallE hmr hlen htag hC hcd hN1 hF2 hL3 hC4 Hel Hall own hen;go_wp2_with fail;refine hlst.mono ?_;rintro e W5 ⟨v5,rfl,o5,hb5⟩;obtain⟨a5,k5,e5,r5⟩:=Rd.of_own o5;subst e5;have s5:=s0.step hb5;clear hlst o5 hb5 c0 c1 c2 c3 s0 hat r4;go_upto_region 11 with fail;have s0:QbAt w v W5.drew:=s5.step (Below.refl _ _).drew;have p0:=r5.later (Below.refl W5.heap.size W5).drew;clear s5 r5;refine wp_region_held (S:=QbAt w v) hmo ?_;change wpAnyH _ _ _ _ _ _ _ _ (World.drew W5);generalize World.drew W5=X0 at *;have hB:w.heap.size<X0.heap.size:=(Array.getElem?_eq_some_iff.1 s0.o).1;refine zHp 0 (.pointer (some ⟨w.heap.size,0,none⟩)) rfl s0 ?_;go_simp;refine zHa 1 (.int .i64 v.code) rfl (by rintro w2 h2;obtain⟨c0,c1,c2,c3,-⟩:=aj h2.o;go_simp) s0 ?_;go_simp;refine zHa 2 (.int .u64 (cn:Int)) rfl (by rintro w2 h2;obtain⟨c0,c1,c2,c3,-⟩:=aj h2.o;go_simp) s0 ?_;go_simp;refine zHp 4 (.pointer (some ⟨w.heap.size,1,none⟩)) rfl s0 ?_;go_simp;refine zHa 5 (.bool v.yes) rfl (by rintro w2 h2;obtain⟨c0,c1,c2,c3,-⟩:=aj h2.o;go_simp) s0 ?_;go_simp;refine zH1 3 rfl (fun K hK=>?_);go_simp;refine (vF 1 cn X0 hcn64).mono ?_;rintro e X1 ⟨v3,rfl,o3,hb1⟩;rw[HN1.out] at o3;have s1:=s0.step hb1;have p1:=p0.later hb1;go_simp;refine hK _ _ ⟨s1,?_⟩;clear hK K;refine zH1 6 rfl (fun K hK=>?_);go_simp;refine (GG 2 v.yes X1).mono ?_;rintro e X2 ⟨v6,rfl,o6,hb2⟩;rw[HF2.out] at o6;have s2:=s1.step hb2;have p2:=p1.later hb2;have o3b:=aF o3 hb2;have z2:X0.heap.size<=X2.heap.size:=Nat.le_trans hb1.size hb2.size;go_simp;refine hK _ _ ⟨s2,?_⟩;clear hK K;refine zH1 7 rfl (fun K hK=>?_);obtain⟨ya,yk,e6,yr⟩:=Rd.of_own o6;subst e6;refine gX rfl (.tmp 73) (.tmp 76) 34 rfl X0.heap.size 5 (.int .u8 0) 1 1 Tlv.byT v3 _ _ rfl o3b ya _ yk _ rfl yr (eP _) (by unfold maxLen;omega) (by omega) z2 ?_;intro a7 k7 X3 o7 _ hb3 _;have s3:=s2.turn hb3 hB;have p3:=p2.below hb3 (fun h0 a ha=>p0.lt h0 a ha);refine hK _ _ ⟨s3,?_⟩;clear hK K;refine zHp 8 (.slice a7 (N1.length+F2.length) k7) rfl s3 ?_;go_simp;refine wpAnyH_done (by kernel_rfl) ?_ _;go_upto_region 12 with fail;have t0:QbAt w v X3.drew:=s3.step (Below.refl _ _).drew;have P0:=p3.later (Below.refl X3.heap.size X3).drew;have o7d:=aF o7 (Below.refl X3.heap.size X3).drew;have zz:X0.heap.size<=X3.drew.heap.size:=Nat.le_trans z2 hb3.size;refine wp_region_held (S:=QbAt w v) hmo ?_;change wpAnyH _ _ _ _ _ _ _ _ (World.drew X3);generalize World.drew X3=Y0 at *;refine zHp 0 (.slice a7 (N1.length+F2.length) k7) rfl t0 ?_;go_simp;refine zHp 1 (.slice a5 L3.length k5) rfl t0 ?_;go_simp;refine zHp 3 (.pointer (some ⟨w.heap.size,3,none⟩)) rfl t0 ?_;go_simp;refine zHa 4 (.slice v.co v.cn v.cc) rfl (by rintro w2 h2;obtain⟨c0,c1,c2,c3,-⟩:=aj h2.o;go_simp) t0 ?_;go_simp;refine zHp 7 (.bool true) rfl t0 ?_;go_simp;refine zH1 2 rfl (fun K hK=>?_);refine gX rfl (.tmp 78) (.tmp 79) 34 rfl X0.heap.size 5 (.int .u8 0) 1 1 Tlv.byT (.slice a7 (N1.length+F2.length) k7) _ _ rfl o7d a5 _ k5 _ rfl P0 (eP _) (by unfold maxLen;omega) (by omega) zz ?_;intro a8 k8 Y1 o8 _ hbY1 _;have t1:=t0.turn hbY1 hB;refine hK _ _ ⟨t1,?_⟩;clear hK K;refine zH1 5 rfl (fun K hK=>?_);go_simp;refine (di 4 c.cursor _ _ _ Y1 hcnv (h.later t1.bel).c).mono ?_;rintro e Y2 ⟨v9,rfl,o9,hbY2⟩;rw[HC4.out] at o9;have t2:=t1.step hbY2;have o8b:=aF o8 hbY2;have zz2:X0.heap.size<=Y2.heap.size:=Nat.le_trans (Nat.le_trans zz hbY1.size) hbY2.size;go_simp;refine hK _ _ ⟨t2,?_⟩;clear hK K;refine zH1 6 rfl (fun K hK=>?_);obtain⟨ya9,yk9,e9,yr9⟩:=Rd.of_own o9;subst e9;refine gX rfl (.tmp 80) (.tmp 83) 34 rfl X0.heap.size 5 (.int .u8 0) 1 1 Tlv.byT (.slice a8 (N1.length+F2.length+L3.length) k8) _ _ rfl o8b ya9 _ yk9 _ rfl yr9 (eP _) (by unfold maxLen;omega) (by omega) zz2 ?_;intro a10 k10 Y3 o10 _ hbY3 _;have t3:=t2.turn hbY3 hB;refine hK _ _ ⟨t3,?_⟩;clear hK K;refine zHp 8 (.slice a10 (N1.length+F2.length+L3.length+C4.length) k10) rfl t3 ?_;go_simp;refine zHp 9 (.bool true) rfl t3 ?_;go_simp;refine wpAnyH_done (by kernel_rfl) ?_ _;go_wp2_with fail;go_ret2;have r10:=Rd.of_own_slice o10;exact⟨dG v c,a10,k10,true,by rw[HR.out];simp only[List.length_append];rfl,by rw[HR.out];simp only[List.length_append,iy];exact r10,t3.bel,fun _=>⟨rfl,rfl⟩,fun h=>(by rw[HM.out] at h;cases h)⟩
end Go.Proofs.YtfmmandlmbcncaaGreatDoor.Msg
