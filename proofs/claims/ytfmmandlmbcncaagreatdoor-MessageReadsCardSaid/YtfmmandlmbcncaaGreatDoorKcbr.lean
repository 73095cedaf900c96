/-
  A part of the proof.
-/
import Derived.Test.YtfmmandlmbcncaaGreatDoorKcbe
set_option maxHeartbeats 40000000
set_option maxRecDepth 100000
namespace Go.Proofs.YtfmmandlmbcncaaGreatDoor.Msg
open Go.RowKit Go.Lib Mem Tlv
structure SmAt (w:World)(m m':MV)(b1 o1 b2 o2 k:Nat)(p q:RV)(W:World):Prop where
 bel:Below w.heap.size w W
 q1:W.heap[w.heap.size]?=some m.box
 q2:W.heap[w.heap.size+1]?=some m'.box
 x:∀(j:Nat) (v:Value),p.cells[j]?=some v->W.cell? ⟨b1,o1+k*9+j,none⟩=some v
 y:∀(j:Nat) (v:Value),q.cells[j]?=some v->W.cell? ⟨b2,o2+k*9+j,none⟩=some v
theorem SmAt.step {w W W':World}{m m':MV}{b1 o1 b2 o2 k:Nat}{p q:RV}(h:SmAt w m m' b1 o1 b2 o2 k p q W)(hb:Below W.heap.size W W'):SmAt w m m' b1 o1 b2 o2 k p q W':=
 ⟨h.bel.trans (hb.mono h.bel.size),ae h.q1 hb,ae h.q2 hb,jk h.x hb,jk h.y hb⟩
structure SnAt (w:World)(m m':MV)(b1 o1 b2 o2 k:Nat)(p q:Nat)(W:World):Prop where
 bel:Below w.heap.size w W
 q1:W.heap[w.heap.size]?=some m.box
 q2:W.heap[w.heap.size+1]?=some m'.box
 x:W.cell? ⟨b1,o1+k,none⟩=some (.int .u64 (p:Int))
 y:W.cell? ⟨b2,o2+k,none⟩=some (.int .u64 (q:Int))
theorem SnAt.step {w W W':World}{m m':MV}{b1 o1 b2 o2 k p q:Nat}(h:SnAt w m m' b1 o1 b2 o2 k p q W)(hb:Below W.heap.size W W'):SnAt w m m' b1 o1 b2 o2 k p q W':=
 ⟨h.bel.trans (hb.mono h.bel.size),ae h.q1 hb,ae h.q2 hb,dI hb h.x,dI hb h.y⟩
theorem NU (m m':MV)(w:World)(hne:¬(m.k=m'.k/\m.vi=m'.vi/\m.no=m'.no/\m.fr=m'.fr/\m.cl=m'.cl/\m.nu=m'.nu)):Calls Tryz.prog 30 #[m.val,m'.val] w (aN false w):=by
 have hb0:Below w.heap.size w ((w.alloc m.box).alloc m'.box):=bW w _ _;obtain⟨k1,k2⟩:=df w m.box m'.box;unfold MV.box MV.cells at hb0 k1 k2;unfold MV.val MV.cells;go_in;go_upto_region 1 with fail;generalize hg:World.alloc _ _=W0 at *;have q1:W0.heap[w.heap.size]?=some m.box:=k1;have q2:W0.heap[w.heap.size+1]?=some m'.box:=k2;clear hg k1 k2;have c0:=(McAt.of q1).c0;have d0:=(McAt.of q2).c0;have c1:=(McAt.of q1).c1;have d1:=(McAt.of q2).c1;have c2:=(McAt.of q1).c2;have d2:=(McAt.of q2).c2;have c3:=(McAt.of q1).c3;have d3:=(McAt.of q2).c3;have c4:=(McAt.of q1).c4;have d4:=(McAt.of q2).c4;have c5:=(McAt.of q1).c5;have d5:=(McAt.of q2).c5;have c6:=(McAt.of q1).c6;have d6:=(McAt.of q2).c6;have c7:=(McAt.of q1).c7;have d7:=(McAt.of q2).c7;have c8:=(McAt.of q1).c8;have d8:=(McAt.of q2).c8;have c9:=(McAt.of q1).c9;have d9:=(McAt.of q2).c9;have c10:=(McAt.of q1).c10;have d10:=(McAt.of q2).c10;have c11:=(McAt.of q1).c11;have d11:=(McAt.of q2).c11;have c12:=(McAt.of q1).c12;have d12:=(McAt.of q2).c12;have c13:=(McAt.of q1).c13;have d13:=(McAt.of q2).c13;have c14:=(McAt.of q1).c14;have d14:=(McAt.of q2).c14;by_cases e1:m.k=m'.k
 case neg=>
  have f1:(m.k==m'.k)=false:=by simp[e1]
  have g1:(m.k != m'.k)=true:=by rw[bne,f1];rfl
  clear hne e1;go_wp2_with fail;go_ret;exact⟨rfl,hb0⟩
 have f1:(m.k==m'.k)=true:=by simp[e1]
 have g1:(m.k != m'.k)=false:=by rw[bne,f1];rfl
 by_cases e2:m.vi=m'.vi
 case neg=>
  have f2:(m.vi==m'.vi)=false:=by simp[e2]
  have g2:(m.vi != m'.vi)=true:=by rw[bne,f2];rfl
  clear hne e1 e2;go_wp2_with fail;go_ret;exact⟨rfl,hb0⟩
 have f2:(m.vi==m'.vi)=true:=by simp[e2]
 have g2:(m.vi != m'.vi)=false:=by rw[bne,f2];rfl
 by_cases e3:m.no=m'.no
 case neg=>
  have f3:(m.no==m'.no)=false:=by simp[e3]
  have g3:(m.no != m'.no)=true:=by rw[bne,f3];rfl
  clear hne e1 e2 e3;go_wp2_with fail;go_ret;exact⟨rfl,hb0⟩
 have f3:(m.no==m'.no)=true:=by simp[e3]
 have g3:(m.no != m'.no)=false:=by rw[bne,f3];rfl
 by_cases e4:m.fr=m'.fr
 case neg=>
  have f4:(m.fr==m'.fr)=false:=by simp[e4]
  have g4:(m.fr != m'.fr)=true:=by rw[bne,f4];rfl
  clear hne e1 e2 e3 e4;go_wp2_with fail;go_ret;exact⟨rfl,hb0⟩
 have f4:(m.fr==m'.fr)=true:=by simp[e4]
 have g4:(m.fr != m'.fr)=false:=by rw[bne,f4];rfl
 by_cases e5:m.cl=m'.cl
 case neg=>
  have f5:(m.cl==m'.cl)=false:=by simp[e5]
  have g5:(m.cl != m'.cl)=true:=by rw[bne,f5];rfl
  clear hne e1 e2 e3 e4 e5;go_wp2_with fail;go_ret;exact⟨rfl,hb0⟩
 have f5:(m.cl==m'.cl)=true:=by simp[e5]
 have g5:(m.cl != m'.cl)=false:=by rw[bne,f5];rfl
 by_cases e6:m.nu=m'.nu
 case neg=>
  have f6:(m.nu==m'.nu)=false:=by simp[e6]
  have g6:(m.nu != m'.nu)=true:=by rw[bne,f6];rfl
  clear hne e1 e2 e3 e4 e5 e6;go_wp2_with fail;go_ret;exact⟨rfl,hb0⟩
 have f6:(m.nu==m'.nu)=true:=by simp[e6]
 have g6:(m.nu != m'.nu)=false:=by rw[bne,f6];rfl
 exact absurd ⟨e1,e2,e3,e4,e5,e6⟩ hne
theorem MO (m m':MV)(c c':MC)(w:World)(h:MAt w m c)(h':MAt w m' c')(e1:m.k=m'.k)(e2:m.vi=m'.vi)(e3:m.no=m'.no)(e4:m.fr=m'.fr)(e5:m.cl=m'.cl)(e6:m.nu=m'.nu)(hne:¬(bQ m.rq c.rq m'.rq c'.rq=true/\aU m.rs c.rs m'.rs c'.rs=true/\m.at_=m'.at_/\m.cm=m'.cm/\m.bs=m'.bs/\c.snap=c'.snap/\m.ln=m'.ln/\m.nc=m'.nc/\m.wh=m'.wh/\m.hn=m'.hn)):Calls Tryz.prog 30 #[m.val,m'.val] w (aN false w):=by
 have Q1:=hid e1;have Q2:=hid e2;have Q3:=hid e3;have Q4:=hid e4;have Q5:=hid e5;have Q6:=hid e6;clear e1 e2 e3 e4 e5 e6;have hb0:Below w.heap.size w ((w.alloc m.box).alloc m'.box):=bW w _ _;obtain⟨k1,k2⟩:=df w m.box m'.box;unfold MV.box MV.cells at hb0 k1 k2;unfold MV.val MV.cells;go_in;go_upto_region 1 with fail;generalize hg:World.alloc _ _=W0 at *;have q1:W0.heap[w.heap.size]?=some m.box:=k1;have q2:W0.heap[w.heap.size+1]?=some m'.box:=k2;clear hg k1 k2;have c0:=(McAt.of q1).c0;have d0:=(McAt.of q2).c0;have c1:=(McAt.of q1).c1;have d1:=(McAt.of q2).c1;have c2:=(McAt.of q1).c2;have d2:=(McAt.of q2).c2;have c3:=(McAt.of q1).c3;have d3:=(McAt.of q2).c3;have c4:=(McAt.of q1).c4;have d4:=(McAt.of q2).c4;have c5:=(McAt.of q1).c5;have d5:=(McAt.of q2).c5;have c6:=(McAt.of q1).c6;have d6:=(McAt.of q2).c6;have c7:=(McAt.of q1).c7;have d7:=(McAt.of q2).c7;have c8:=(McAt.of q1).c8;have d8:=(McAt.of q2).c8;have c9:=(McAt.of q1).c9;have d9:=(McAt.of q2).c9;have c10:=(McAt.of q1).c10;have d10:=(McAt.of q2).c10;have c11:=(McAt.of q1).c11;have d11:=(McAt.of q2).c11;have c12:=(McAt.of q1).c12;have d12:=(McAt.of q2).c12;have c13:=(McAt.of q1).c13;have d13:=(McAt.of q2).c13;have c14:=(McAt.of q1).c14;have d14:=(McAt.of q2).c14;have f1:(m.k==m'.k)=true:=by simp[Q1.out]
 have g1:(m.k != m'.k)=false:=by rw[bne,f1];rfl
 have f2:(m.vi==m'.vi)=true:=by simp[Q2.out]
 have g2:(m.vi != m'.vi)=false:=by rw[bne,f2];rfl
 have f3:(m.no==m'.no)=true:=by simp[Q3.out]
 have g3:(m.no != m'.no)=false:=by rw[bne,f3];rfl
 have f4:(m.fr==m'.fr)=true:=by simp[Q4.out]
 have g4:(m.fr != m'.fr)=false:=by rw[bne,f4];rfl
 have f5:(m.cl==m'.cl)=true:=by simp[Q5.out]
 have g5:(m.cl != m'.cl)=false:=by rw[bne,f5];rfl
 have f6:(m.nu==m'.nu)=true:=by simp[Q6.out]
 have g6:(m.nu != m'.nu)=false:=by rw[bne,f6];rfl
 have hc:=pz m.rq m'.rq c.rq c'.rq W0 (h.later hb0).rq (h'.later hb0).rq;unfold RV.val RV.cells at hc;go_wp2_with fail;refine hc.mono ?_;rintro e W1 ⟨rfl,hb1⟩;have hbel1:=hb0.trans (hb1.mono hb0.size);have p1:=ae q1 hb1;have p2:=ae q2 hb1;clear hc c0 d0 c1 d1 c2 d2 c3 d3 c4 d4 c5 d5 c6 d6 c7 d7 c8 d8 c9 d9 c10 d10 c11 d11 c12 d12 c13 d13 c14 d14;have c15:=(McAt.of p1).c15;have d15:=(McAt.of p2).c15;have c16:=(McAt.of p1).c16;have d16:=(McAt.of p2).c16;have c17:=(McAt.of p1).c17;have d17:=(McAt.of p2).c17;have c18:=(McAt.of p1).c18;have d18:=(McAt.of p2).c18;cases hm1:bQ m.rq c.rq m'.rq c'.rq with
 | false=>
  clear hm1 hne;go_wp2_with fail;go_ret;exact⟨rfl,hbel1⟩
 | true=>
  have hc:=pG m.rs m'.rs c.rs c'.rs W1 (h.later hbel1).rs (h'.later hbel1).rs;unfold QV.val QV.cells at hc;go_wp2_with fail;refine hc.mono ?_;rintro e W2 ⟨rfl,hb2⟩;have hbel2:=hbel1.trans (hb2.mono hbel1.size);have p3:=ae p1 hb2;have p4:=ae p2 hb2;clear hc c15 d15 c16 d16 c17 d17 c18 d18;have c19:=(McAt.of p3).c19;have d19:=(McAt.of p4).c19;have c20:=(McAt.of p3).c20;have d20:=(McAt.of p4).c20;have c21:=(McAt.of p3).c21;have d21:=(McAt.of p4).c21;have c22:=(McAt.of p3).c22;have d22:=(McAt.of p4).c22;have c23:=(McAt.of p3).c23;have d23:=(McAt.of p4).c23;have c24:=(McAt.of p3).c24;have d24:=(McAt.of p4).c24;have c25:=(McAt.of p3).c25;have d25:=(McAt.of p4).c25;have c26:=(McAt.of p3).c26;have d26:=(McAt.of p4).c26;cases hm2:aU m.rs c.rs m'.rs c'.rs with
  | false=>
   clear hm2 hne;go_wp2_with fail;go_ret;exact⟨rfl,hbel2⟩
  | true=>
   have hs1:=jJ m.so m.sn m.sc c.snap W2 (h.later hbel2).sn;have hs2:=jJ m'.so m'.sn m'.sc c'.snap W2 (h'.later hbel2).sn;by_cases e7:m.at_=m'.at_
   case neg=>
    have f7:(m.at_==m'.at_)=false:=by simp[e7]
    have g7:(m.at_ != m'.at_)=true:=by rw[bne,f7];rfl
    clear hne hm1 hm2 e7;go_wp2_with fail;go_ret;exact⟨rfl,hbel2⟩
   have f7:(m.at_==m'.at_)=true:=by simp[e7]
   have g7:(m.at_ != m'.at_)=false:=by rw[bne,f7];rfl
   by_cases e8:m.cm=m'.cm
   case neg=>
    have f8:(m.cm==m'.cm)=false:=by simp[e8]
    have g8:(m.cm != m'.cm)=true:=by rw[bne,f8];rfl
    clear hne hm1 hm2 e7 e8;go_wp2_with fail;go_ret;exact⟨rfl,hbel2⟩
   have f8:(m.cm==m'.cm)=true:=by simp[e8]
   have g8:(m.cm != m'.cm)=false:=by rw[bne,f8];rfl
   by_cases e9:m.bs=m'.bs
   case neg=>
    have f9:(m.bs==m'.bs)=false:=by simp[e9]
    have g9:(m.bs != m'.bs)=true:=by rw[bne,f9];rfl
    clear hne hm1 hm2 e7 e8 e9;go_wp2_with fail;go_ret;exact⟨rfl,hbel2⟩
   have f9:(m.bs==m'.bs)=true:=by simp[e9]
   have g9:(m.bs != m'.bs)=false:=by rw[bne,f9];rfl
   by_cases e10:c.snap=c'.snap
   case neg=>
    have f10:=H9 e10;have g10:(c.snap==c'.snap)=false:=beq_eq_false_iff_ne.2 e10;clear hne hm1 hm2 e7 e8 e9 e10;go_wp2_with fail;go_ret;exact⟨rfl,hbel2⟩
   rw[e10] at hs1;have f10:=qJ ⟨c'.snap.toArray⟩;have g10:(c'.snap==c'.snap)=true:=by simp
   by_cases e11:m.ln=m'.ln
   case neg=>
    have f11:((m.ln:Int)==(m'.ln:Int))=false:=by rw[beq_eq_false_iff_ne];omega
    have g11:((m.ln:Int) != (m'.ln:Int))=true:=by rw[bne,f11];rfl
    clear hne hm1 hm2 e7 e8 e9 e10 e11;go_wp2_with fail;go_ret;exact⟨rfl,hbel2⟩
   have f11:((m.ln:Int)==(m'.ln:Int))=true:=by rw[beq_iff_eq];omega
   have g11:((m.ln:Int) != (m'.ln:Int))=false:=by rw[bne,f11];rfl
   by_cases e12:m.nc=m'.nc
   case neg=>
    have f12:(m.nc==m'.nc)=false:=by simp[e12]
    have g12:(m.nc != m'.nc)=true:=by rw[bne,f12];rfl
    clear hne hm1 hm2 e7 e8 e9 e10 e11 e12;go_wp2_with fail;go_ret;exact⟨rfl,hbel2⟩
   have f12:(m.nc==m'.nc)=true:=by simp[e12]
   have g12:(m.nc != m'.nc)=false:=by rw[bne,f12];rfl
   by_cases e13:m.wh=m'.wh
   case neg=>
    have f13:(m.wh==m'.wh)=false:=by simp[e13]
    have g13:(m.wh != m'.wh)=true:=by rw[bne,f13];rfl
    have x13:(m.wh ^^ m'.wh)=true:=by cases h1:m.wh<;>cases h2:m'.wh<;>simp_all
    clear hne hm1 hm2 e7 e8 e9 e10 e11 e12 e13;go_wp2_with fail;go_ret;exact⟨rfl,hbel2⟩
   have f13:(m.wh==m'.wh)=true:=by simp[e13]
   have g13:(m.wh != m'.wh)=false:=by rw[bne,f13];rfl
   have x13:(m.wh ^^ m'.wh)=false:=by simp[e13]
   by_cases e14:m.hn=m'.hn
   case neg=>
    have f14:((m.hn:Int)==(m'.hn:Int))=false:=by rw[beq_eq_false_iff_ne];omega
    have g14:((m.hn:Int) != (m'.hn:Int))=true:=by rw[bne,f14];rfl
    clear hne hm1 hm2 e7 e8 e9 e10 e11 e12 e13 e14;go_wp2_with fail;go_ret;exact⟨rfl,hbel2⟩
   have f14:((m.hn:Int)==(m'.hn:Int))=true:=by rw[beq_iff_eq];omega
   have g14:((m.hn:Int) != (m'.hn:Int))=false:=by rw[bne,f14];rfl
   exact absurd ⟨hm1,hm2,e7,e8,e9,e10,e11,e12,e13,e14⟩ hne
theorem N7 (m m':MV)(c c':MC)(w:World)(h:MAt w m c)(h':MAt w m' c')(e1:m.k=m'.k)(e2:m.vi=m'.vi)(e3:m.no=m'.no)(e4:m.fr=m'.fr)(e5:m.cl=m'.cl)(e6:m.nu=m'.nu)(E1:bQ m.rq c.rq m'.rq c'.rq=true)(E2:aU m.rs c.rs m'.rs c'.rs=true)(e7:m.at_=m'.at_)(e8:m.cm=m'.cm)(e9:m.bs=m'.bs)(e10:c.snap=c'.snap)(e11:m.ln=m'.ln)(e12:m.nc=m'.nc)(e13:m.wh=m'.wh)(e14:m.hn=m'.hn):Calls Tryz.prog 30 #[m.val,m'.val] w (aN (bu c.log c'.log&&decide (c.seen=c'.seen)) w):=by
 have hmo:Tryz.prog.follows .mixedOrders=true:=by kernel_rfl
 have lx:=h.lg.len;have ly:=h'.lg.len;have sx:c.seen.length=m.hn:=by have:=h.se.1;rw[gB] at this;omega
 have sy:c'.seen.length=m'.hn:=by have:=h'.se.1;rw[gB] at this;omega
 have hcap:m.ln<=9223372036854775807:=by have:=h.lg.r.2.1;have:=h.lg.r.2.2.1;unfold maxLen at this;omega
 have hcap2:m.hn<=9223372036854775807:=by have:=h.lh;omega
 have HE:=hid e11;have HH:=hid e14;have LX:=hid lx;have LY:=hid (ly.trans e11.symm);have SX:=hid sx;have SY:=hid (sy.trans e14.symm);clear lx ly sx sy;have Q1:=hid e1;have Q2:=hid e2;have Q3:=hid e3;have Q4:=hid e4;have Q5:=hid e5;have Q6:=hid e6;have Q7:=hid e7;have Q8:=hid e8;have Q9:=hid e9;have Q10:=hid e10;have Q11:=hid e11;have Q12:=hid e12;have Q13:=hid e13;have Q14:=hid e14;clear e1 e2 e3 e4 e5 e6 e7 e8 e9 e10 e11 e12 e13 e14;have hb0:Below w.heap.size w ((w.alloc m.box).alloc m'.box):=bW w _ _;obtain⟨k1,k2⟩:=df w m.box m'.box;unfold MV.box MV.cells at hb0 k1 k2;unfold MV.val MV.cells;go_in;go_upto_region 1 with fail;generalize hg:World.alloc _ _=W0 at *;have q1:W0.heap[w.heap.size]?=some m.box:=k1;have q2:W0.heap[w.heap.size+1]?=some m'.box:=k2;clear hg k1 k2;have c0:=(McAt.of q1).c0;have d0:=(McAt.of q2).c0;have c1:=(McAt.of q1).c1;have d1:=(McAt.of q2).c1;have c2:=(McAt.of q1).c2;have d2:=(McAt.of q2).c2;have c3:=(McAt.of q1).c3;have d3:=(McAt.of q2).c3;have c4:=(McAt.of q1).c4;have d4:=(McAt.of q2).c4;have c5:=(McAt.of q1).c5;have d5:=(McAt.of q2).c5;have c6:=(McAt.of q1).c6;have d6:=(McAt.of q2).c6;have c7:=(McAt.of q1).c7;have d7:=(McAt.of q2).c7;have c8:=(McAt.of q1).c8;have d8:=(McAt.of q2).c8;have c9:=(McAt.of q1).c9;have d9:=(McAt.of q2).c9;have c10:=(McAt.of q1).c10;have d10:=(McAt.of q2).c10;have c11:=(McAt.of q1).c11;have d11:=(McAt.of q2).c11;have c12:=(McAt.of q1).c12;have d12:=(McAt.of q2).c12;have c13:=(McAt.of q1).c13;have d13:=(McAt.of q2).c13;have c14:=(McAt.of q1).c14;have d14:=(McAt.of q2).c14;have f1:(m.k==m'.k)=true:=by simp[Q1.out]
 have g1:(m.k != m'.k)=false:=by rw[bne,f1];rfl
 have f2:(m.vi==m'.vi)=true:=by simp[Q2.out]
 have g2:(m.vi != m'.vi)=false:=by rw[bne,f2];rfl
 have f3:(m.no==m'.no)=true:=by simp[Q3.out]
 have g3:(m.no != m'.no)=false:=by rw[bne,f3];rfl
 have f4:(m.fr==m'.fr)=true:=by simp[Q4.out]
 have g4:(m.fr != m'.fr)=false:=by rw[bne,f4];rfl
 have f5:(m.cl==m'.cl)=true:=by simp[Q5.out]
 have g5:(m.cl != m'.cl)=false:=by rw[bne,f5];rfl
 have f6:(m.nu==m'.nu)=true:=by simp[Q6.out]
 have g6:(m.nu != m'.nu)=false:=by rw[bne,f6];rfl
 have hc:=pz m.rq m'.rq c.rq c'.rq W0 (h.later hb0).rq (h'.later hb0).rq;rw[E1] at hc;unfold RV.val RV.cells at hc;go_wp2_with fail;refine hc.mono ?_;rintro e W1 ⟨rfl,hb1⟩;have hbel1:=hb0.trans (hb1.mono hb0.size);have p1:=ae q1 hb1;have p2:=ae q2 hb1;clear hc c0 d0 c1 d1 c2 d2 c3 d3 c4 d4 c5 d5 c6 d6 c7 d7 c8 d8 c9 d9 c10 d10 c11 d11 c12 d12 c13 d13 c14 d14;have c15:=(McAt.of p1).c15;have d15:=(McAt.of p2).c15;have c16:=(McAt.of p1).c16;have d16:=(McAt.of p2).c16;have c17:=(McAt.of p1).c17;have d17:=(McAt.of p2).c17;have c18:=(McAt.of p1).c18;have d18:=(McAt.of p2).c18;have hc:=pG m.rs m'.rs c.rs c'.rs W1 (h.later hbel1).rs (h'.later hbel1).rs;rw[E2] at hc;unfold QV.val QV.cells at hc;go_wp2_with fail;refine hc.mono ?_;rintro e W2 ⟨rfl,hb2⟩;have hbel2:=hbel1.trans (hb2.mono hbel1.size);have p3:=ae p1 hb2;have p4:=ae p2 hb2;clear hc c15 d15 c16 d16 c17 d17 c18 d18;have c19:=(McAt.of p3).c19;have d19:=(McAt.of p4).c19;have c20:=(McAt.of p3).c20;have d20:=(McAt.of p4).c20;have c21:=(McAt.of p3).c21;have d21:=(McAt.of p4).c21;have c22:=(McAt.of p3).c22;have d22:=(McAt.of p4).c22;have c23:=(McAt.of p3).c23;have d23:=(McAt.of p4).c23;have c24:=(McAt.of p3).c24;have d24:=(McAt.of p4).c24;have c25:=(McAt.of p3).c25;have d25:=(McAt.of p4).c25;have c26:=(McAt.of p3).c26;have d26:=(McAt.of p4).c26;have hs1:=jJ m.so m.sn m.sc c.snap W2 (h.later hbel2).sn;have hs2:=jJ m'.so m'.sn m'.sc c'.snap W2 (h'.later hbel2).sn;have f7:(m.at_==m'.at_)=true:=by simp[Q7.out]
 have g7:(m.at_ != m'.at_)=false:=by rw[bne,f7];rfl
 have f8:(m.cm==m'.cm)=true:=by simp[Q8.out]
 have g8:(m.cm != m'.cm)=false:=by rw[bne,f8];rfl
 have f9:(m.bs==m'.bs)=true:=by simp[Q9.out]
 have g9:(m.bs != m'.bs)=false:=by rw[bne,f9];rfl
 rw[Q10.out] at hs1;have f10:=qJ ⟨c'.snap.toArray⟩;have g10:(c'.snap==c'.snap)=true:=by simp
 have f11:((m.ln:Int)==(m'.ln:Int))=true:=by have:=Q11.out;rw[beq_iff_eq];omega
 have g11:((m.ln:Int) != (m'.ln:Int))=false:=by rw[bne,f11];rfl
 have f12:(m.nc==m'.nc)=true:=by simp[Q12.out]
 have g12:(m.nc != m'.nc)=false:=by rw[bne,f12];rfl
 have f13:(m.wh==m'.wh)=true:=by simp[Q13.out]
 have g13:(m.wh != m'.wh)=false:=by rw[bne,f13];rfl
 have x13:(m.wh ^^ m'.wh)=false:=by simp[Q13.out]
 have f14:((m.hn:Int)==(m'.hn:Int))=true:=by have:=Q14.out;rw[beq_iff_eq];omega
 have g14:((m.hn:Int) != (m'.hn:Int))=false:=by rw[bne,f14];rfl
 clear E1 E2;go_wp2_with fail;clear c19 d19 c20 d20 c21 d21 c22 d22 c23 d23 c24 d24 c25 d25 c26 d26 hs1 hs2 f1 g1 f2 g2 f3 g3 f4 g4 f5 g5 f6 g6 f7 g7 f8 g8 f9 g9 f10 g10 f11 g11 f12 g12 f13 g13 f14 g14 x13;go_loopw [5] (fun p wr=>∃k:Nat,k<=m.ln/\p=.int .i64 (k:Int)/\Hid (bu (c.log.take k) (c'.log.take k)=true)/\Below W2.heap.size W2 wr) (fun p _=>m.ln-(intOf p).toNat)
 case atStart=>exact⟨0,Nat.zero_le _,rfl,hid rfl,Below.refl _ _⟩
 case round=>
  obtain⟨k,hk,rfl,Ht,hbr⟩:=hrel;have r1:=ae p3 hbr;have r2:=ae p4 hbr;have hbel:=hbel2.trans (hbr.mono hbel2.size);have c23:=(McAt.of r1).c23;have d23:=(McAt.of r2).c23;by_cases hkn:k<m.ln
  ·have hx:=(h.later hbel).lg;have hy:=(h'.later hbel).lg;obtain⟨b1,o1,hao1,hl1,hc1⟩:=hx.r.some (by have:=hx.r.le;omega);obtain⟨b2,o2,hao2,hl2,hc2⟩:=hy.r.some (by have:=hy.r.le;have:=HE.out;omega);obtain⟨u,hu⟩:∃u,c.log[k]?=some u:=⟨_,List.getElem?_eq_getElem (by rw[LX.out];exact hkn)⟩
   obtain⟨z,hz⟩:∃z,c'.log[k]?=some z:=⟨_,List.getElem?_eq_getElem (by rw[LY.out];exact hkn)⟩
   have hU:=hx.each u (List.mem_of_getElem? hu);have hZ:=hy.each z (List.mem_of_getElem? hz);have hx1:=hx.r;rw[hao1] at hx1;have hy1:=hy.r;rw[hao2] at hy1;have hd:Below wr.heap.size wr wr.drew:=(Below.refl _ _).drew;have s0:SmAt w m m' b1 o1 b2 o2 k u.1 z.1 wr.drew:=(⟨hbel,r1,r2,kZ hx1 hu,kZ hy1 hz⟩:SmAt w m m' b1 o1 b2 o2 k u.1 z.1 wr).step hd;have hU2:=hU.later hd;have hZ2:=hZ.later hd;have hnx:=oV c.log c'.log k u z hu hz;rw[Ht.out,Bool.true_and] at hnx;have HN:=hid hnx;have i0:(0:Int)<=(k:Int):=by omega
   have i1:(k:Int)<(m.ln:Int):=by omega
   have i2:(k:Int)<(m'.ln:Int):=by have:=HE.out;omega
   have HK:=hid hkn;have A1:=hid hao1;have A2:=hid hao2;clear hnx hx hy hU hZ hc1 hc2 hu hz hbel hao1 hao2 hx1 hy1;go_upto_region 6 with fail;refine wp_region_held (S:=SmAt w m m' b1 o1 b2 o2 k u.1 z.1) hmo ?_;change wpAnyH _ _ _ _ _ _ _ _ (World.drew wr);have hbd:Below W2.heap.size W2 wr.drew:=hbr.trans (hd.mono hbr.size);generalize World.drew wr=X0 at *;clear hbr hd c23 d23 r1 r2;refine zHp 0 (.pointer (some ⟨w.heap.size,23,none⟩)) rfl s0 ?_;go_simp;refine zHa 1 (.slice (some ⟨b1,o1,none⟩) m.ln m.lc) rfl (by rintro w2 h2;have c23:=(McAt.of h2.q1).c23;have d23:=(McAt.of h2.q2).c23;have x0:w2.cell? ⟨b1,o1+k*9,none⟩=some (.int .u64 u.1.cl):=h2.x 0 _ rfl;have x1:w2.cell? ⟨b1,o1+k*9+1,none⟩=some (.int .u64 u.1.nu):=h2.x 1 _ rfl;have x2:w2.cell? ⟨b1,o1+k*9+2,none⟩=some (.int .i64 u.1.op.k):=h2.x 2 _ rfl;have x3:w2.cell? ⟨b1,o1+k*9+3,none⟩=some (.string u.1.op.name):=h2.x 3 _ rfl;have x4:w2.cell? ⟨b1,o1+k*9+4,none⟩=some (.string u.1.op.to):=h2.x 4 _ rfl;have x5:w2.cell? ⟨b1,o1+k*9+5,none⟩=some (.slice u.1.op.ao u.1.op.an u.1.op.ac):=h2.x 5 _ rfl;have x6:w2.cell? ⟨b1,o1+k*9+6,none⟩=some (.slice u.1.op.bo u.1.op.bn u.1.op.bc):=h2.x 6 _ rfl;have x7:w2.cell? ⟨b1,o1+k*9+7,none⟩=some (.slice u.1.op.co u.1.op.cn u.1.op.cc):=h2.x 7 _ rfl;have x8:w2.cell? ⟨b1,o1+k*9+8,none⟩=some (.int .i64 u.1.op.n):=h2.x 8 _ rfl;have y0:w2.cell? ⟨b2,o2+k*9,none⟩=some (.int .u64 z.1.cl):=h2.y 0 _ rfl;have y1:w2.cell? ⟨b2,o2+k*9+1,none⟩=some (.int .u64 z.1.nu):=h2.y 1 _ rfl;have y2:w2.cell? ⟨b2,o2+k*9+2,none⟩=some (.int .i64 z.1.op.k):=h2.y 2 _ rfl;have y3:w2.cell? ⟨b2,o2+k*9+3,none⟩=some (.string z.1.op.name):=h2.y 3 _ rfl;have y4:w2.cell? ⟨b2,o2+k*9+4,none⟩=some (.string z.1.op.to):=h2.y 4 _ rfl;have y5:w2.cell? ⟨b2,o2+k*9+5,none⟩=some (.slice z.1.op.ao z.1.op.an z.1.op.ac):=h2.y 5 _ rfl;have y6:w2.cell? ⟨b2,o2+k*9+6,none⟩=some (.slice z.1.op.bo z.1.op.bn z.1.op.bc):=h2.y 6 _ rfl;have y7:w2.cell? ⟨b2,o2+k*9+7,none⟩=some (.slice z.1.op.co z.1.op.cn z.1.op.cc):=h2.y 7 _ rfl;have y8:w2.cell? ⟨b2,o2+k*9+8,none⟩=some (.int .i64 z.1.op.n):=h2.y 8 _ rfl;rw[A1.out] at c23;rw[A2.out] at d23;go_simp) s0 ?_;go_simp;refine zHp 2 (.int .i64 (k:Int)) rfl s0 ?_;go_simp;refine zHa 3 (.pointer (some ⟨b1,o1+k*9,none⟩)) rfl (by rintro w2 h2;have c23:=(McAt.of h2.q1).c23;have d23:=(McAt.of h2.q2).c23;have x0:w2.cell? ⟨b1,o1+k*9,none⟩=some (.int .u64 u.1.cl):=h2.x 0 _ rfl;have x1:w2.cell? ⟨b1,o1+k*9+1,none⟩=some (.int .u64 u.1.nu):=h2.x 1 _ rfl;have x2:w2.cell? ⟨b1,o1+k*9+2,none⟩=some (.int .i64 u.1.op.k):=h2.x 2 _ rfl;have x3:w2.cell? ⟨b1,o1+k*9+3,none⟩=some (.string u.1.op.name):=h2.x 3 _ rfl;have x4:w2.cell? ⟨b1,o1+k*9+4,none⟩=some (.string u.1.op.to):=h2.x 4 _ rfl;have x5:w2.cell? ⟨b1,o1+k*9+5,none⟩=some (.slice u.1.op.ao u.1.op.an u.1.op.ac):=h2.x 5 _ rfl;have x6:w2.cell? ⟨b1,o1+k*9+6,none⟩=some (.slice u.1.op.bo u.1.op.bn u.1.op.bc):=h2.x 6 _ rfl;have x7:w2.cell? ⟨b1,o1+k*9+7,none⟩=some (.slice u.1.op.co u.1.op.cn u.1.op.cc):=h2.x 7 _ rfl;have x8:w2.cell? ⟨b1,o1+k*9+8,none⟩=some (.int .i64 u.1.op.n):=h2.x 8 _ rfl;have y0:w2.cell? ⟨b2,o2+k*9,none⟩=some (.int .u64 z.1.cl):=h2.y 0 _ rfl;have y1:w2.cell? ⟨b2,o2+k*9+1,none⟩=some (.int .u64 z.1.nu):=h2.y 1 _ rfl;have y2:w2.cell? ⟨b2,o2+k*9+2,none⟩=some (.int .i64 z.1.op.k):=h2.y 2 _ rfl;have y3:w2.cell? ⟨b2,o2+k*9+3,none⟩=some (.string z.1.op.name):=h2.y 3 _ rfl;have y4:w2.cell? ⟨b2,o2+k*9+4,none⟩=some (.string z.1.op.to):=h2.y 4 _ rfl;have y5:w2.cell? ⟨b2,o2+k*9+5,none⟩=some (.slice z.1.op.ao z.1.op.an z.1.op.ac):=h2.y 5 _ rfl;have y6:w2.cell? ⟨b2,o2+k*9+6,none⟩=some (.slice z.1.op.bo z.1.op.bn z.1.op.bc):=h2.y 6 _ rfl;have y7:w2.cell? ⟨b2,o2+k*9+7,none⟩=some (.slice z.1.op.co z.1.op.cn z.1.op.cc):=h2.y 7 _ rfl;have y8:w2.cell? ⟨b2,o2+k*9+8,none⟩=some (.int .i64 z.1.op.n):=h2.y 8 _ rfl;rw[A1.out] at c23;rw[A2.out] at d23;go_simp) s0 ?_;go_simp;refine zHa 4 (.agg #[.int .u64 u.1.cl,.int .u64 u.1.nu,.int .i64 u.1.op.k,.string u.1.op.name,.string u.1.op.to,.slice u.1.op.ao u.1.op.an u.1.op.ac,.slice u.1.op.bo u.1.op.bn u.1.op.bc,.slice u.1.op.co u.1.op.cn u.1.op.cc,.int .i64 u.1.op.n]) rfl (by rintro w2 h2;have c23:=(McAt.of h2.q1).c23;have d23:=(McAt.of h2.q2).c23;have x0:w2.cell? ⟨b1,o1+k*9,none⟩=some (.int .u64 u.1.cl):=h2.x 0 _ rfl;have x1:w2.cell? ⟨b1,o1+k*9+1,none⟩=some (.int .u64 u.1.nu):=h2.x 1 _ rfl;have x2:w2.cell? ⟨b1,o1+k*9+2,none⟩=some (.int .i64 u.1.op.k):=h2.x 2 _ rfl;have x3:w2.cell? ⟨b1,o1+k*9+3,none⟩=some (.string u.1.op.name):=h2.x 3 _ rfl;have x4:w2.cell? ⟨b1,o1+k*9+4,none⟩=some (.string u.1.op.to):=h2.x 4 _ rfl;have x5:w2.cell? ⟨b1,o1+k*9+5,none⟩=some (.slice u.1.op.ao u.1.op.an u.1.op.ac):=h2.x 5 _ rfl;have x6:w2.cell? ⟨b1,o1+k*9+6,none⟩=some (.slice u.1.op.bo u.1.op.bn u.1.op.bc):=h2.x 6 _ rfl;have x7:w2.cell? ⟨b1,o1+k*9+7,none⟩=some (.slice u.1.op.co u.1.op.cn u.1.op.cc):=h2.x 7 _ rfl;have x8:w2.cell? ⟨b1,o1+k*9+8,none⟩=some (.int .i64 u.1.op.n):=h2.x 8 _ rfl;have y0:w2.cell? ⟨b2,o2+k*9,none⟩=some (.int .u64 z.1.cl):=h2.y 0 _ rfl;have y1:w2.cell? ⟨b2,o2+k*9+1,none⟩=some (.int .u64 z.1.nu):=h2.y 1 _ rfl;have y2:w2.cell? ⟨b2,o2+k*9+2,none⟩=some (.int .i64 z.1.op.k):=h2.y 2 _ rfl;have y3:w2.cell? ⟨b2,o2+k*9+3,none⟩=some (.string z.1.op.name):=h2.y 3 _ rfl;have y4:w2.cell? ⟨b2,o2+k*9+4,none⟩=some (.string z.1.op.to):=h2.y 4 _ rfl;have y5:w2.cell? ⟨b2,o2+k*9+5,none⟩=some (.slice z.1.op.ao z.1.op.an z.1.op.ac):=h2.y 5 _ rfl;have y6:w2.cell? ⟨b2,o2+k*9+6,none⟩=some (.slice z.1.op.bo z.1.op.bn z.1.op.bc):=h2.y 6 _ rfl;have y7:w2.cell? ⟨b2,o2+k*9+7,none⟩=some (.slice z.1.op.co z.1.op.cn z.1.op.cc):=h2.y 7 _ rfl;have y8:w2.cell? ⟨b2,o2+k*9+8,none⟩=some (.int .i64 z.1.op.n):=h2.y 8 _ rfl;rw[A1.out] at c23;rw[A2.out] at d23;go_simp) s0 ?_;go_simp;refine zHp 5 (.pointer (some ⟨w.heap.size+1,23,none⟩)) rfl s0 ?_;go_simp;refine zHa 6 (.slice (some ⟨b2,o2,none⟩) m'.ln m'.lc) rfl (by rintro w2 h2;have c23:=(McAt.of h2.q1).c23;have d23:=(McAt.of h2.q2).c23;have x0:w2.cell? ⟨b1,o1+k*9,none⟩=some (.int .u64 u.1.cl):=h2.x 0 _ rfl;have x1:w2.cell? ⟨b1,o1+k*9+1,none⟩=some (.int .u64 u.1.nu):=h2.x 1 _ rfl;have x2:w2.cell? ⟨b1,o1+k*9+2,none⟩=some (.int .i64 u.1.op.k):=h2.x 2 _ rfl;have x3:w2.cell? ⟨b1,o1+k*9+3,none⟩=some (.string u.1.op.name):=h2.x 3 _ rfl;have x4:w2.cell? ⟨b1,o1+k*9+4,none⟩=some (.string u.1.op.to):=h2.x 4 _ rfl;have x5:w2.cell? ⟨b1,o1+k*9+5,none⟩=some (.slice u.1.op.ao u.1.op.an u.1.op.ac):=h2.x 5 _ rfl;have x6:w2.cell? ⟨b1,o1+k*9+6,none⟩=some (.slice u.1.op.bo u.1.op.bn u.1.op.bc):=h2.x 6 _ rfl;have x7:w2.cell? ⟨b1,o1+k*9+7,none⟩=some (.slice u.1.op.co u.1.op.cn u.1.op.cc):=h2.x 7 _ rfl;have x8:w2.cell? ⟨b1,o1+k*9+8,none⟩=some (.int .i64 u.1.op.n):=h2.x 8 _ rfl;have y0:w2.cell? ⟨b2,o2+k*9,none⟩=some (.int .u64 z.1.cl):=h2.y 0 _ rfl;have y1:w2.cell? ⟨b2,o2+k*9+1,none⟩=some (.int .u64 z.1.nu):=h2.y 1 _ rfl;have y2:w2.cell? ⟨b2,o2+k*9+2,none⟩=some (.int .i64 z.1.op.k):=h2.y 2 _ rfl;have y3:w2.cell? ⟨b2,o2+k*9+3,none⟩=some (.string z.1.op.name):=h2.y 3 _ rfl;have y4:w2.cell? ⟨b2,o2+k*9+4,none⟩=some (.string z.1.op.to):=h2.y 4 _ rfl;have y5:w2.cell? ⟨b2,o2+k*9+5,none⟩=some (.slice z.1.op.ao z.1.op.an z.1.op.ac):=h2.y 5 _ rfl;have y6:w2.cell? ⟨b2,o2+k*9+6,none⟩=some (.slice z.1.op.bo z.1.op.bn z.1.op.bc):=h2.y 6 _ rfl;have y7:w2.cell? ⟨b2,o2+k*9+7,none⟩=some (.slice z.1.op.co z.1.op.cn z.1.op.cc):=h2.y 7 _ rfl;have y8:w2.cell? ⟨b2,o2+k*9+8,none⟩=some (.int .i64 z.1.op.n):=h2.y 8 _ rfl;rw[A1.out] at c23;rw[A2.out] at d23;go_simp) s0 ?_;go_simp;refine zHp 7 (.int .i64 (k:Int)) rfl s0 ?_;go_simp;refine zHa 8 (.pointer (some ⟨b2,o2+k*9,none⟩)) rfl (by rintro w2 h2;have c23:=(McAt.of h2.q1).c23;have d23:=(McAt.of h2.q2).c23;have x0:w2.cell? ⟨b1,o1+k*9,none⟩=some (.int .u64 u.1.cl):=h2.x 0 _ rfl;have x1:w2.cell? ⟨b1,o1+k*9+1,none⟩=some (.int .u64 u.1.nu):=h2.x 1 _ rfl;have x2:w2.cell? ⟨b1,o1+k*9+2,none⟩=some (.int .i64 u.1.op.k):=h2.x 2 _ rfl;have x3:w2.cell? ⟨b1,o1+k*9+3,none⟩=some (.string u.1.op.name):=h2.x 3 _ rfl;have x4:w2.cell? ⟨b1,o1+k*9+4,none⟩=some (.string u.1.op.to):=h2.x 4 _ rfl;have x5:w2.cell? ⟨b1,o1+k*9+5,none⟩=some (.slice u.1.op.ao u.1.op.an u.1.op.ac):=h2.x 5 _ rfl;have x6:w2.cell? ⟨b1,o1+k*9+6,none⟩=some (.slice u.1.op.bo u.1.op.bn u.1.op.bc):=h2.x 6 _ rfl;have x7:w2.cell? ⟨b1,o1+k*9+7,none⟩=some (.slice u.1.op.co u.1.op.cn u.1.op.cc):=h2.x 7 _ rfl;have x8:w2.cell? ⟨b1,o1+k*9+8,none⟩=some (.int .i64 u.1.op.n):=h2.x 8 _ rfl;have y0:w2.cell? ⟨b2,o2+k*9,none⟩=some (.int .u64 z.1.cl):=h2.y 0 _ rfl;have y1:w2.cell? ⟨b2,o2+k*9+1,none⟩=some (.int .u64 z.1.nu):=h2.y 1 _ rfl;have y2:w2.cell? ⟨b2,o2+k*9+2,none⟩=some (.int .i64 z.1.op.k):=h2.y 2 _ rfl;have y3:w2.cell? ⟨b2,o2+k*9+3,none⟩=some (.string z.1.op.name):=h2.y 3 _ rfl;have y4:w2.cell? ⟨b2,o2+k*9+4,none⟩=some (.string z.1.op.to):=h2.y 4 _ rfl;have y5:w2.cell? ⟨b2,o2+k*9+5,none⟩=some (.slice z.1.op.ao z.1.op.an z.1.op.ac):=h2.y 5 _ rfl;have y6:w2.cell? ⟨b2,o2+k*9+6,none⟩=some (.slice z.1.op.bo z.1.op.bn z.1.op.bc):=h2.y 6 _ rfl;have y7:w2.cell? ⟨b2,o2+k*9+7,none⟩=some (.slice z.1.op.co z.1.op.cn z.1.op.cc):=h2.y 7 _ rfl;have y8:w2.cell? ⟨b2,o2+k*9+8,none⟩=some (.int .i64 z.1.op.n):=h2.y 8 _ rfl;rw[A1.out] at c23;rw[A2.out] at d23;go_simp) s0 ?_;go_simp;refine zHa 9 (.agg #[.int .u64 z.1.cl,.int .u64 z.1.nu,.int .i64 z.1.op.k,.string z.1.op.name,.string z.1.op.to,.slice z.1.op.ao z.1.op.an z.1.op.ac,.slice z.1.op.bo z.1.op.bn z.1.op.bc,.slice z.1.op.co z.1.op.cn z.1.op.cc,.int .i64 z.1.op.n]) rfl (by rintro w2 h2;have c23:=(McAt.of h2.q1).c23;have d23:=(McAt.of h2.q2).c23;have x0:w2.cell? ⟨b1,o1+k*9,none⟩=some (.int .u64 u.1.cl):=h2.x 0 _ rfl;have x1:w2.cell? ⟨b1,o1+k*9+1,none⟩=some (.int .u64 u.1.nu):=h2.x 1 _ rfl;have x2:w2.cell? ⟨b1,o1+k*9+2,none⟩=some (.int .i64 u.1.op.k):=h2.x 2 _ rfl;have x3:w2.cell? ⟨b1,o1+k*9+3,none⟩=some (.string u.1.op.name):=h2.x 3 _ rfl;have x4:w2.cell? ⟨b1,o1+k*9+4,none⟩=some (.string u.1.op.to):=h2.x 4 _ rfl;have x5:w2.cell? ⟨b1,o1+k*9+5,none⟩=some (.slice u.1.op.ao u.1.op.an u.1.op.ac):=h2.x 5 _ rfl;have x6:w2.cell? ⟨b1,o1+k*9+6,none⟩=some (.slice u.1.op.bo u.1.op.bn u.1.op.bc):=h2.x 6 _ rfl;have x7:w2.cell? ⟨b1,o1+k*9+7,none⟩=some (.slice u.1.op.co u.1.op.cn u.1.op.cc):=h2.x 7 _ rfl;have x8:w2.cell? ⟨b1,o1+k*9+8,none⟩=some (.int .i64 u.1.op.n):=h2.x 8 _ rfl;have y0:w2.cell? ⟨b2,o2+k*9,none⟩=some (.int .u64 z.1.cl):=h2.y 0 _ rfl;have y1:w2.cell? ⟨b2,o2+k*9+1,none⟩=some (.int .u64 z.1.nu):=h2.y 1 _ rfl;have y2:w2.cell? ⟨b2,o2+k*9+2,none⟩=some (.int .i64 z.1.op.k):=h2.y 2 _ rfl;have y3:w2.cell? ⟨b2,o2+k*9+3,none⟩=some (.string z.1.op.name):=h2.y 3 _ rfl;have y4:w2.cell? ⟨b2,o2+k*9+4,none⟩=some (.string z.1.op.to):=h2.y 4 _ rfl;have y5:w2.cell? ⟨b2,o2+k*9+5,none⟩=some (.slice z.1.op.ao z.1.op.an z.1.op.ac):=h2.y 5 _ rfl;have y6:w2.cell? ⟨b2,o2+k*9+6,none⟩=some (.slice z.1.op.bo z.1.op.bn z.1.op.bc):=h2.y 6 _ rfl;have y7:w2.cell? ⟨b2,o2+k*9+7,none⟩=some (.slice z.1.op.co z.1.op.cn z.1.op.cc):=h2.y 7 _ rfl;have y8:w2.cell? ⟨b2,o2+k*9+8,none⟩=some (.int .i64 z.1.op.n):=h2.y 8 _ rfl;rw[A1.out] at c23;rw[A2.out] at d23;go_simp) s0 ?_;go_simp;refine zH1 10 rfl (fun K hK=>?_);go_simp;have hc:=pz u.1 z.1 u.2 z.2 X0 hU2 hZ2;unfold RV.val RV.cells at hc;refine hc.mono ?_;rintro e X1 ⟨rfl,hb1⟩;have s1:=s0.step hb1;clear hc;go_simp;refine hK _ _ ⟨s1,?_⟩;clear hK K;refine zHa 11 (.bool (!bQ u.1 u.2 z.1 z.2)) rfl (by rintro w2 h2;have c23:=(McAt.of h2.q1).c23;have d23:=(McAt.of h2.q2).c23;have x0:w2.cell? ⟨b1,o1+k*9,none⟩=some (.int .u64 u.1.cl):=h2.x 0 _ rfl;have x1:w2.cell? ⟨b1,o1+k*9+1,none⟩=some (.int .u64 u.1.nu):=h2.x 1 _ rfl;have x2:w2.cell? ⟨b1,o1+k*9+2,none⟩=some (.int .i64 u.1.op.k):=h2.x 2 _ rfl;have x3:w2.cell? ⟨b1,o1+k*9+3,none⟩=some (.string u.1.op.name):=h2.x 3 _ rfl;have x4:w2.cell? ⟨b1,o1+k*9+4,none⟩=some (.string u.1.op.to):=h2.x 4 _ rfl;have x5:w2.cell? ⟨b1,o1+k*9+5,none⟩=some (.slice u.1.op.ao u.1.op.an u.1.op.ac):=h2.x 5 _ rfl;have x6:w2.cell? ⟨b1,o1+k*9+6,none⟩=some (.slice u.1.op.bo u.1.op.bn u.1.op.bc):=h2.x 6 _ rfl;have x7:w2.cell? ⟨b1,o1+k*9+7,none⟩=some (.slice u.1.op.co u.1.op.cn u.1.op.cc):=h2.x 7 _ rfl;have x8:w2.cell? ⟨b1,o1+k*9+8,none⟩=some (.int .i64 u.1.op.n):=h2.x 8 _ rfl;have y0:w2.cell? ⟨b2,o2+k*9,none⟩=some (.int .u64 z.1.cl):=h2.y 0 _ rfl;have y1:w2.cell? ⟨b2,o2+k*9+1,none⟩=some (.int .u64 z.1.nu):=h2.y 1 _ rfl;have y2:w2.cell? ⟨b2,o2+k*9+2,none⟩=some (.int .i64 z.1.op.k):=h2.y 2 _ rfl;have y3:w2.cell? ⟨b2,o2+k*9+3,none⟩=some (.string z.1.op.name):=h2.y 3 _ rfl;have y4:w2.cell? ⟨b2,o2+k*9+4,none⟩=some (.string z.1.op.to):=h2.y 4 _ rfl;have y5:w2.cell? ⟨b2,o2+k*9+5,none⟩=some (.slice z.1.op.ao z.1.op.an z.1.op.ac):=h2.y 5 _ rfl;have y6:w2.cell? ⟨b2,o2+k*9+6,none⟩=some (.slice z.1.op.bo z.1.op.bn z.1.op.bc):=h2.y 6 _ rfl;have y7:w2.cell? ⟨b2,o2+k*9+7,none⟩=some (.slice z.1.op.co z.1.op.cn z.1.op.cc):=h2.y 7 _ rfl;have y8:w2.cell? ⟨b2,o2+k*9+8,none⟩=some (.int .i64 z.1.op.n):=h2.y 8 _ rfl;rw[A1.out] at c23;rw[A2.out] at d23;go_simp) s1 ?_;go_simp;refine wpAnyH_done (by kernel_rfl) ?_ _;have hbx:=hbd.trans (hb1.mono hbd.size);have hb2:=s1.bel;cases hm:bQ u.1 u.2 z.1 z.2 with
   | false=>
    have Hf:Hid (bu c.log c'.log=false):=hid (qE c.log c'.log (k+1) (by rw[HN.out];exact hm) (by rw[LX.out,LY.out]));clear hm;go_wp2_with fail;go_ret;exact⟨by rw[Hf.out];rfl,hb2⟩
   | true=>
    have Hf:Hid (bu (c.log.take (k+1)) (c'.log.take (k+1))=true):=hid (by rw[HN.out];exact hm);clear hm;go_wp2_with fail;go_roundw
    case rel=>exact⟨k+1,HK.out,(by have:=HK.out;go_num),Hf,hbx⟩
    case measure=>have:=HK.out;simp[intOf];omega
  have Hf:Hid (bu c.log c'.log=true):=hid (by have:=Ht.out;rw[List.take_of_length_le (by rw[LX.out];omega),List.take_of_length_le (by rw[LY.out];omega)] at this;exact this);have hkn2:k=m.ln:=by omega
  subst hkn2;have HS:Hid ((bu c.log c'.log&&decide (c.seen=c'.seen))=decide (c.seen=c'.seen)):=hid (by rw[Hf.out,Bool.true_and]);go_wp2_with fail;clear c23 d23 Hf Ht hk hkn;obtain⟨Wb,hWb⟩:∃x,x=wr:=⟨wr,rfl⟩
  subst hWb;go_loopw [6] (fun p wr2=>∃k:Nat,k<=m.hn/\p=.int .i64 (k:Int)/\Hid (c.seen.take k=c'.seen.take k)/\Below Wb.heap.size Wb wr2) (fun p _=>m.hn-(intOf p).toNat)
  case atStart=>exact⟨0,Nat.zero_le _,rfl,hid rfl,Below.refl _ _⟩
  case round=>
   obtain⟨k,hk,rfl,Ht,hbr2⟩:=hrel;have r3:=ae r1 hbr2;have r4:=ae r2 hbr2;have hbel3:=hbel.trans (hbr2.mono hbel.size);have c26:=(McAt.of r3).c26;have d26:=(McAt.of r4).c26;by_cases hkn:k<m.hn
   ·have hx:=(h.later hbel3).se;have hy:=(h'.later hbel3).se;obtain⟨b1,o1,hao1,hl1,hc1⟩:=hx.some (by have:=hx.le;omega);obtain⟨b2,o2,hao2,hl2,hc2⟩:=hy.some (by have:=hy.le;have:=HH.out;omega);obtain⟨u,hu⟩:∃u,c.seen[k]?=some u:=⟨_,List.getElem?_eq_getElem (by rw[SX.out];exact hkn)⟩
    obtain⟨z,hz⟩:∃z,c'.seen[k]?=some z:=⟨_,List.getElem?_eq_getElem (by rw[SY.out];exact hkn)⟩
    have hd:Below wr.heap.size wr wr.drew:=(Below.refl _ _).drew;have s0:SnAt w m m' b1 o1 b2 o2 k u z wr.drew:=(⟨hbel3,r3,r4,hc1 k _ (nU _ k u hu),hc2 k _ (nU _ k z hz)⟩:SnAt w m m' b1 o1 b2 o2 k u z wr).step hd;have i0:(0:Int)<=(k:Int):=by omega
    have i1:(k:Int)<(m.hn:Int):=by omega
    have i2:(k:Int)<(m'.hn:Int):=by have:=HH.out;omega
    have HK:=hid hkn;have A1:=hid hao1;have A2:=hid hao2;have HU:=hid hu;have HZ:=hid hz;clear hx hy hc1 hc2 hu hz hbel3 hao1 hao2;go_upto_region 11 with fail;refine wp_region_held (S:=SnAt w m m' b1 o1 b2 o2 k u z) hmo ?_;change wpAnyH _ _ _ _ _ _ _ _ (World.drew wr);have hbd:Below Wb.heap.size Wb wr.drew:=hbr2.trans (hd.mono hbr2.size);generalize World.drew wr=X0 at *;clear hbr2 hd c26 d26 r3 r4;refine zHp 0 (.pointer (some ⟨w.heap.size,26,none⟩)) rfl s0 ?_;go_simp;refine zHa 1 (.slice (some ⟨b1,o1,none⟩) m.hn m.hc) rfl (by rintro w2 h2;have c26:=(McAt.of h2.q1).c26;have d26:=(McAt.of h2.q2).c26;have x0:=h2.x;have y0:=h2.y;rw[A1.out] at c26;rw[A2.out] at d26;go_simp) s0 ?_;go_simp;refine zHp 2 (.int .i64 (k:Int)) rfl s0 ?_;go_simp;refine zHa 3 (.pointer (some ⟨b1,o1+k,none⟩)) rfl (by rintro w2 h2;have c26:=(McAt.of h2.q1).c26;have d26:=(McAt.of h2.q2).c26;have x0:=h2.x;have y0:=h2.y;rw[A1.out] at c26;rw[A2.out] at d26;go_simp) s0 ?_;go_simp;refine zHa 4 (.int .u64 (u:Int)) rfl (by rintro w2 h2;have c26:=(McAt.of h2.q1).c26;have d26:=(McAt.of h2.q2).c26;have x0:=h2.x;have y0:=h2.y;rw[A1.out] at c26;rw[A2.out] at d26;go_simp) s0 ?_;go_simp;refine zHp 5 (.pointer (some ⟨w.heap.size+1,26,none⟩)) rfl s0 ?_;go_simp;refine zHa 6 (.slice (some ⟨b2,o2,none⟩) m'.hn m'.hc) rfl (by rintro w2 h2;have c26:=(McAt.of h2.q1).c26;have d26:=(McAt.of h2.q2).c26;have x0:=h2.x;have y0:=h2.y;rw[A1.out] at c26;rw[A2.out] at d26;go_simp) s0 ?_;go_simp;refine zHp 7 (.int .i64 (k:Int)) rfl s0 ?_;go_simp;refine zHa 8 (.pointer (some ⟨b2,o2+k,none⟩)) rfl (by rintro w2 h2;have c26:=(McAt.of h2.q1).c26;have d26:=(McAt.of h2.q2).c26;have x0:=h2.x;have y0:=h2.y;rw[A1.out] at c26;rw[A2.out] at d26;go_simp) s0 ?_;go_simp;refine zHa 9 (.int .u64 (z:Int)) rfl (by rintro w2 h2;have c26:=(McAt.of h2.q1).c26;have d26:=(McAt.of h2.q2).c26;have x0:=h2.x;have y0:=h2.y;rw[A1.out] at c26;rw[A2.out] at d26;go_simp) s0 ?_;go_simp;refine zHa 10 (.bool ((u:Int) != (z:Int))) rfl (by rintro w2 h2;have c26:=(McAt.of h2.q1).c26;have d26:=(McAt.of h2.q2).c26;have x0:=h2.x;have y0:=h2.y;rw[A1.out] at c26;rw[A2.out] at d26;go_simp) s0 ?_;go_simp;refine wpAnyH_done (by kernel_rfl) ?_ _;have hb2:=s0.bel;by_cases hm:u=z
    ·subst hm;have g1:((u:Int) != (u:Int))=false:=by simp
     have Hf:Hid (c.seen.take (k+1)=c'.seen.take (k+1)):=hid (by rw[List.take_add_one,List.take_add_one,Ht.out,HU.out,HZ.out]);go_wp2_with fail;go_roundw
     case rel=>exact⟨k+1,HK.out,(by have:=HK.out;go_num),Hf,hbd⟩
     case measure=>have:=HK.out;simp[intOf];omega
    have g1:((u:Int) != (z:Int))=true:=by rw[bne,beq_eq_false_iff_ne.2 (by omega)];rfl
    have Hf:Hid ((bu c.log c'.log&&decide (c.seen=c'.seen))=false):=hid (by rw[HS.out];exact decide_eq_false (fun e=>hm (Option.some.inj (HU.out.symm.trans ((congrArg (fun l=>l[k]?) e).trans HZ.out)))));clear hm;go_wp2_with fail;go_ret;exact⟨by rw[Hf.out];rfl,hb2⟩
   have Hf:Hid ((bu c.log c'.log&&decide (c.seen=c'.seen))=true):=hid (by
    have:=Ht.out;rw[List.take_of_length_le (by rw[SX.out];omega),List.take_of_length_le (by rw[SY.out];omega)] at this;rw[HS.out];exact decide_eq_true this)
   have hkn2:k=m.hn:=by omega
   subst hkn2;go_wp2_with fail;go_ret;exact⟨by rw[Hf.out];rfl,hbel3⟩
end Go.Proofs.YtfmmandlmbcncaaGreatDoor.Msg
