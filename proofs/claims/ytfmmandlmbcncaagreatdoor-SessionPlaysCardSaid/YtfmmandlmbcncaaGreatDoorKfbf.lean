/-A part of the proof.-/
import Derived.Test.YtfmmandlmbcncaaGreatDoorKfba
set_option maxHeartbeats 40000000
set_option maxRecDepth 100000
set_option linter.all false
namespace Go.Proofs.YtfmmandlmbcncaaGreatDoor
namespace Msg
open Go.RowKit Go.Lib Mem Tlv
variable{W W' w:World}{b1 b2 k o1 o2:Nat}{m m':MV}
structure SmAt (w:World)(m m':MV)(b1 o1 b2 o2 k:Nat)(p q:RV)(W:World):Prop where
 bel:Below w.heap.size w W
 q1:W.heap[w.heap.size]?=some m.box
 q2:W.heap[w.heap.size+1]?=some m'.box
 x:∀(j:Nat) (v:Value),p.cells[j]?=some v->W.cell? ⟨b1,o1+k*9+j,none⟩=some v
 y:∀(j:Nat) (v:Value),q.cells[j]?=some v->W.cell? ⟨b2,o2+k*9+j,none⟩=some v
theorem SmAt.step{p q:RV}(h:SmAt w m m' b1 o1 b2 o2 k p q W)(hb:Below W.heap.size W W'):SmAt w m m' b1 o1 b2 o2 k p q W':=
 ⟨h.bel.trans (hb.mono h.bel.size),af h.q1 hb,af h.q2 hb,jF h.x hb,jF h.y hb⟩
structure SnAt (w:World)(m m':MV)(b1 o1 b2 o2 k:Nat)(p q:Nat)(W:World):Prop where
 bel:Below w.heap.size w W
 q1:W.heap[w.heap.size]?=some m.box
 q2:W.heap[w.heap.size+1]?=some m'.box
 x:W.cell? ⟨b1,o1+k,none⟩=some (.int .u64 (p:Int))
 y:W.cell? ⟨b2,o2+k,none⟩=some (.int .u64 (q:Int))
theorem SnAt.step{p q:Nat}(h:SnAt w m m' b1 o1 b2 o2 k p q W)(hb:Below W.heap.size W W'):SnAt w m m' b1 o1 b2 o2 k p q W':=
 ⟨h.bel.trans (hb.mono h.bel.size),af h.q1 hb,af h.q2 hb,dK hb h.x,dK hb h.y⟩
theorem Ph(m m':MV)(w:World)(hne:¬(m.k=m'.k/\m.vi=m'.vi/\m.no=m'.no/\m.fr=m'.fr/\m.cl=m'.cl/\m.nu=m'.nu)):Calls Tryz.prog 30 #[m.val,m'.val] w (GivesB false w):=by
 have hb0:Below w.heap.size w ((w.alloc m.box).alloc m'.box):=cu w _ _;obtain⟨k1,k2⟩:=dh w m.box m'.box;unfold MV.box MV.cells at hb0 k1 k2;unfold MV.val MV.cells;go_in;go_upto_region 1 with fail;generalize hg:World.alloc _ _=W0 at *;have q1:W0.heap[w.heap.size]?=some m.box:=k1;have q2:W0.heap[w.heap.size+1]?=some m'.box:=k2;clear hg k1 k2;have c0:=(McAt.of q1).c0;have d0:=(McAt.of q2).c0;have c1:=(McAt.of q1).c1;have d1:=(McAt.of q2).c1;have c2:=(McAt.of q1).c2;have d2:=(McAt.of q2).c2;have c3:=(McAt.of q1).c3;have d3:=(McAt.of q2).c3;have c4:=(McAt.of q1).c4;have d4:=(McAt.of q2).c4;have c5:=(McAt.of q1).c5;have d5:=(McAt.of q2).c5;have c6:=(McAt.of q1).c6;have d6:=(McAt.of q2).c6;have c7:=(McAt.of q1).c7;have d7:=(McAt.of q2).c7;have c8:=(McAt.of q1).c8;have d8:=(McAt.of q2).c8;have c9:=(McAt.of q1).c9;have d9:=(McAt.of q2).c9;have c10:=(McAt.of q1).c10;have d10:=(McAt.of q2).c10;have c11:=(McAt.of q1).c11;have d11:=(McAt.of q2).c11;have c12:=(McAt.of q1).c12;have d12:=(McAt.of q2).c12;have c13:=(McAt.of q1).c13;have d13:=(McAt.of q2).c13;have c14:=(McAt.of q1).c14;have d14:=(McAt.of q2).c14;by_cases e1:m.k=m'.k
 case neg=>
  have f1:(m.k==m'.k)=false:=by simp[e1]
  have g1:(m.k != m'.k)=true:=by rw[bne,f1];rfl
  clear hne e1;go_wp2_with fail;go_ret;exact⟨rfl,hb0⟩
 have f1:(m.k==m'.k)=true:=by simp[e1]
 have g1:(m.k != m'.k)=false:=by rw[bne,f1];rfl
 by_cases e2:m.vi=m'.vi
 case neg=>
  have f2:(m.vi==m'.vi)=false:=by simp[e2]
  have g2:(m.vi != m'.vi)=true:=by rw[bne,f2];rfl
  clear hne e1 e2;go_wp2_with fail;go_ret;exact⟨rfl,hb0⟩
 have f2:(m.vi==m'.vi)=true:=by simp[e2]
 have g2:(m.vi != m'.vi)=false:=by rw[bne,f2];rfl
 by_cases e3:m.no=m'.no
 case neg=>
  have f3:(m.no==m'.no)=false:=by simp[e3]
  have g3:(m.no != m'.no)=true:=by rw[bne,f3];rfl
  clear hne e1 e2 e3;go_wp2_with fail;go_ret;exact⟨rfl,hb0⟩
 have f3:(m.no==m'.no)=true:=by simp[e3]
 have g3:(m.no != m'.no)=false:=by rw[bne,f3];rfl
 by_cases e4:m.fr=m'.fr
 case neg=>
  have f4:(m.fr==m'.fr)=false:=by simp[e4]
  have g4:(m.fr != m'.fr)=true:=by rw[bne,f4];rfl
  clear hne e1 e2 e3 e4;go_wp2_with fail;go_ret;exact⟨rfl,hb0⟩
 have f4:(m.fr==m'.fr)=true:=by simp[e4]
 have g4:(m.fr != m'.fr)=false:=by rw[bne,f4];rfl
 by_cases e5:m.cl=m'.cl
 case neg=>
  have f5:(m.cl==m'.cl)=false:=by simp[e5]
  have g5:(m.cl != m'.cl)=true:=by rw[bne,f5];rfl
  clear hne e1 e2 e3 e4 e5;go_wp2_with fail;go_ret;exact⟨rfl,hb0⟩
 have f5:(m.cl==m'.cl)=true:=by simp[e5]
 have g5:(m.cl != m'.cl)=false:=by rw[bne,f5];rfl
 by_cases e6:m.nu=m'.nu
 case neg=>
  have f6:(m.nu==m'.nu)=false:=by simp[e6]
  have g6:(m.nu != m'.nu)=true:=by rw[bne,f6];rfl
  clear hne e1 e2 e3 e4 e5 e6;go_wp2_with fail;go_ret;exact⟨rfl,hb0⟩
 have f6:(m.nu==m'.nu)=true:=by simp[e6]
 have g6:(m.nu != m'.nu)=false:=by rw[bne,f6];rfl
 exact absurd ⟨e1,e2,e3,e4,e5,e6⟩ hne
theorem OX(m m':MV)(c c':MC)(w:World)(h:MAt w m c)(h':MAt w m' c')(e1:m.k=m'.k)(e2:m.vi=m'.vi)(e3:m.no=m'.no)(e4:m.fr=m'.fr)(e5:m.cl=m'.cl)(e6:m.nu=m'.nu)(hne:¬(bQ m.rq c.rq m'.rq c'.rq=true/\aF m.rs c.rs m'.rs c'.rs=true/\m.at_=m'.at_/\m.cm=m'.cm/\m.bs=m'.bs/\c.snap=c'.snap/\m.ln=m'.ln/\m.nc=m'.nc/\m.wh=m'.wh/\m.hn=m'.hn)):Calls Tryz.prog 30 #[m.val,m'.val] w (GivesB false w):=by
 have Q1:=hid e1;have Q2:=hid e2;have Q3:=hid e3;have Q4:=hid e4;have Q5:=hid e5;have Q6:=hid e6;clear e1 e2 e3 e4 e5 e6;have hb0:Below w.heap.size w ((w.alloc m.box).alloc m'.box):=cu w _ _;obtain⟨k1,k2⟩:=dh w m.box m'.box;unfold MV.box MV.cells at hb0 k1 k2;unfold MV.val MV.cells;go_in;go_upto_region 1 with fail;generalize hg:World.alloc _ _=W0 at *;have q1:W0.heap[w.heap.size]?=some m.box:=k1;have q2:W0.heap[w.heap.size+1]?=some m'.box:=k2;clear hg k1 k2;have c0:=(McAt.of q1).c0;have d0:=(McAt.of q2).c0;have c1:=(McAt.of q1).c1;have d1:=(McAt.of q2).c1;have c2:=(McAt.of q1).c2;have d2:=(McAt.of q2).c2;have c3:=(McAt.of q1).c3;have d3:=(McAt.of q2).c3;have c4:=(McAt.of q1).c4;have d4:=(McAt.of q2).c4;have c5:=(McAt.of q1).c5;have d5:=(McAt.of q2).c5;have c6:=(McAt.of q1).c6;have d6:=(McAt.of q2).c6;have c7:=(McAt.of q1).c7;have d7:=(McAt.of q2).c7;have c8:=(McAt.of q1).c8;have d8:=(McAt.of q2).c8;have c9:=(McAt.of q1).c9;have d9:=(McAt.of q2).c9;have c10:=(McAt.of q1).c10;have d10:=(McAt.of q2).c10;have c11:=(McAt.of q1).c11;have d11:=(McAt.of q2).c11;have c12:=(McAt.of q1).c12;have d12:=(McAt.of q2).c12;have c13:=(McAt.of q1).c13;have d13:=(McAt.of q2).c13;have c14:=(McAt.of q1).c14;have d14:=(McAt.of q2).c14;have f1:(m.k==m'.k)=true:=by simp[Q1.out]
 have g1:(m.k != m'.k)=false:=by rw[bne,f1];rfl
 have f2:(m.vi==m'.vi)=true:=by simp[Q2.out]
 have g2:(m.vi != m'.vi)=false:=by rw[bne,f2];rfl
 have f3:(m.no==m'.no)=true:=by simp[Q3.out]
 have g3:(m.no != m'.no)=false:=by rw[bne,f3];rfl
 have f4:(m.fr==m'.fr)=true:=by simp[Q4.out]
 have g4:(m.fr != m'.fr)=false:=by rw[bne,f4];rfl
 have f5:(m.cl==m'.cl)=true:=by simp[Q5.out]
 have g5:(m.cl != m'.cl)=false:=by rw[bne,f5];rfl
 have f6:(m.nu==m'.nu)=true:=by simp[Q6.out]
 have g6:(m.nu != m'.nu)=false:=by rw[bne,f6];rfl
 have hc:=qF m.rq m'.rq c.rq c'.rq W0 (h.later hb0).rq (h'.later hb0).rq;unfold RV.val RV.cells at hc;go_wp2_with fail;refine hc.mono ?_;rintro e W1 ⟨rfl,hb1⟩;have hbel1:=hb0.trans (hb1.mono hb0.size);have p1:=af q1 hb1;have p2:=af q2 hb1;clear hc c0 d0 c1 d1 c2 d2 c3 d3 c4 d4 c5 d5 c6 d6 c7 d7 c8 d8 c9 d9 c10 d10 c11 d11 c12 d12 c13 d13 c14 d14;have c15:=(McAt.of p1).c15;have d15:=(McAt.of p2).c15;have c16:=(McAt.of p1).c16;have d16:=(McAt.of p2).c16;have c17:=(McAt.of p1).c17;have d17:=(McAt.of p2).c17;have c18:=(McAt.of p1).c18;have d18:=(McAt.of p2).c18;cases hm1:bQ m.rq c.rq m'.rq c'.rq with
 | false=>
  clear hm1 hne;go_wp2_with fail;go_ret;exact⟨rfl,hbel1⟩
 | true=>
  have hc:=kT m.rs m'.rs c.rs c'.rs W1 (h.later hbel1).rs (h'.later hbel1).rs;unfold QV.val QV.cells at hc;go_wp2_with fail;refine hc.mono ?_;rintro e W2 ⟨rfl,hb2⟩;have hbel2:=hbel1.trans (hb2.mono hbel1.size);have p3:=af p1 hb2;have p4:=af p2 hb2;clear hc c15 d15 c16 d16 c17 d17 c18 d18;have c19:=(McAt.of p3).c19;have d19:=(McAt.of p4).c19;have c20:=(McAt.of p3).c20;have d20:=(McAt.of p4).c20;have c21:=(McAt.of p3).c21;have d21:=(McAt.of p4).c21;have c22:=(McAt.of p3).c22;have d22:=(McAt.of p4).c22;have c23:=(McAt.of p3).c23;have d23:=(McAt.of p4).c23;have c24:=(McAt.of p3).c24;have d24:=(McAt.of p4).c24;have c25:=(McAt.of p3).c25;have d25:=(McAt.of p4).c25;have c26:=(McAt.of p3).c26;have d26:=(McAt.of p4).c26;cases hm2:aF m.rs c.rs m'.rs c'.rs with
  | false=>
   clear hm2 hne;go_wp2_with fail;go_ret;exact⟨rfl,hbel2⟩
  | true=>
   have hs1:=jc m.so m.sn m.sc c.snap W2 (h.later hbel2).sn;have hs2:=jc m'.so m'.sn m'.sc c'.snap W2 (h'.later hbel2).sn;by_cases e7:m.at_=m'.at_
   case neg=>
    have f7:(m.at_==m'.at_)=false:=by simp[e7]
    have g7:(m.at_ != m'.at_)=true:=by rw[bne,f7];rfl
    clear hne hm1 hm2 e7;go_wp2_with fail;go_ret;exact⟨rfl,hbel2⟩
   have f7:(m.at_==m'.at_)=true:=by simp[e7]
   have g7:(m.at_ != m'.at_)=false:=by rw[bne,f7];rfl
   by_cases e8:m.cm=m'.cm
   case neg=>
    have f8:(m.cm==m'.cm)=false:=by simp[e8]
    have g8:(m.cm != m'.cm)=true:=by rw[bne,f8];rfl
    clear hne hm1 hm2 e7 e8;go_wp2_with fail;go_ret;exact⟨rfl,hbel2⟩
   have f8:(m.cm==m'.cm)=true:=by simp[e8]
   have g8:(m.cm != m'.cm)=false:=by rw[bne,f8];rfl
   by_cases e9:m.bs=m'.bs
   case neg=>
    have f9:(m.bs==m'.bs)=false:=by simp[e9]
    have g9:(m.bs != m'.bs)=true:=by rw[bne,f9];rfl
    clear hne hm1 hm2 e7 e8 e9;go_wp2_with fail;go_ret;exact⟨rfl,hbel2⟩
   have f9:(m.bs==m'.bs)=true:=by simp[e9]
   have g9:(m.bs != m'.bs)=false:=by rw[bne,f9];rfl
   by_cases e10:c.snap=c'.snap
   case neg=>
    have f10:=Je e10;have g10:(c.snap==c'.snap)=false:=yap.2 e10;clear hne hm1 hm2 e7 e8 e9 e10;go_wp2_with fail;go_ret;exact⟨rfl,hbel2⟩
   rw[e10] at hs1;have f10:=pz ⟨c'.snap.toArray⟩;have g10:(c'.snap==c'.snap)=true:=by simp
   by_cases e11:m.ln=m'.ln
   case neg=>
    have f11:((m.ln:Int)==(m'.ln:Int))=false:=by rw[yap];omega
    have g11:((m.ln:Int) != (m'.ln:Int))=true:=by rw[bne,f11];rfl
    clear hne hm1 hm2 e7 e8 e9 e10 e11;go_wp2_with fail;go_ret;exact⟨rfl,hbel2⟩
   have f11:((m.ln:Int)==(m'.ln:Int))=true:=by rw[beq_iff_eq];omega
   have g11:((m.ln:Int) != (m'.ln:Int))=false:=by rw[bne,f11];rfl
   by_cases e12:m.nc=m'.nc
   case neg=>
    have f12:(m.nc==m'.nc)=false:=by simp[e12]
    have g12:(m.nc != m'.nc)=true:=by rw[bne,f12];rfl
    clear hne hm1 hm2 e7 e8 e9 e10 e11 e12;go_wp2_with fail;go_ret;exact⟨rfl,hbel2⟩
   have f12:(m.nc==m'.nc)=true:=by simp[e12]
   have g12:(m.nc != m'.nc)=false:=by rw[bne,f12];rfl
   by_cases e13:m.wh=m'.wh
   case neg=>
    have f13:(m.wh==m'.wh)=false:=by simp[e13]
    have g13:(m.wh != m'.wh)=true:=by rw[bne,f13];rfl
    have x13:(m.wh ^^ m'.wh)=true:=by cases h1:m.wh<;>cases h2:m'.wh<;>simp_all
    clear hne hm1 hm2 e7 e8 e9 e10 e11 e12 e13;go_wp2_with fail;go_ret;exact⟨rfl,hbel2⟩
   have f13:(m.wh==m'.wh)=true:=by simp[e13]
   have g13:(m.wh != m'.wh)=false:=by rw[bne,f13];rfl
   have x13:(m.wh ^^ m'.wh)=false:=by simp[e13]
   by_cases e14:m.hn=m'.hn
   case neg=>
    have f14:((m.hn:Int)==(m'.hn:Int))=false:=by rw[yap];omega
    have g14:((m.hn:Int) != (m'.hn:Int))=true:=by rw[bne,f14];rfl
    clear hne hm1 hm2 e7 e8 e9 e10 e11 e12 e13 e14;go_wp2_with fail;go_ret;exact⟨rfl,hbel2⟩
   have f14:((m.hn:Int)==(m'.hn:Int))=true:=by rw[beq_iff_eq];omega
   have g14:((m.hn:Int) != (m'.hn:Int))=false:=by rw[bne,f14];rfl
   exact absurd ⟨hm1,hm2,e7,e8,e9,e10,e11,e12,e13,e14⟩ hne
theorem Ro(m m':MV)(c c':MC)(w:World)(h:MAt w m c)(h':MAt w m' c')(e1:m.k=m'.k)(e2:m.vi=m'.vi)(e3:m.no=m'.no)(e4:m.fr=m'.fr)(e5:m.cl=m'.cl)(e6:m.nu=m'.nu)(E1:bQ m.rq c.rq m'.rq c'.rq=true)(E2:aF m.rs c.rs m'.rs c'.rs=true)(e7:m.at_=m'.at_)(e8:m.cm=m'.cm)(e9:m.bs=m'.bs)(e10:c.snap=c'.snap)(e11:m.ln=m'.ln)(e12:m.nc=m'.nc)(e13:m.wh=m'.wh)(e14:m.hn=m'.hn):Calls Tryz.prog 30 #[m.val,m'.val] w (GivesB (bH c.log c'.log&&decide (c.seen=c'.seen)) w):=by
 have hmo:=hmO
 have lx:=h.lg.len;have ly:=h'.lg.len;have sx:c.seen.length=m.hn:=by have:=h.se.1;rw[iq] at this;omega
 have sy:c'.seen.length=m'.hn:=by have:=h'.se.1;rw[iq] at this;omega
 have hcap:m.ln<=9223372036854775807:=by have:=h.lg.r.2.1;have:=h.lg.r.2.2.1;unfold maxLen at this;omega
 have hcap2:m.hn<=9223372036854775807:=by have:=h.lh;omega
 have HE:=hid e11;have HH:=hid e14;have LX:=hid lx;have LY:=hid (ly.trans e11.symm);have SX:=hid sx;have SY:=hid (sy.trans e14.symm);clear lx ly sx sy;have Q1:=hid e1;have Q2:=hid e2;have Q3:=hid e3;have Q4:=hid e4;have Q5:=hid e5;have Q6:=hid e6;have Q7:=hid e7;have Q8:=hid e8;have Q9:=hid e9;have Q10:=hid e10;have Q11:=hid e11;have Q12:=hid e12;have Q13:=hid e13;have Q14:=hid e14;clear e1 e2 e3 e4 e5 e6 e7 e8 e9 e10 e11 e12 e13 e14;have hb0:Below w.heap.size w ((w.alloc m.box).alloc m'.box):=cu w _ _;obtain⟨k1,k2⟩:=dh w m.box m'.box;unfold MV.box MV.cells at hb0 k1 k2;unfold MV.val MV.cells;go_in;go_upto_region 1 with fail;generalize hg:World.alloc _ _=W0 at *;have q1:W0.heap[w.heap.size]?=some m.box:=k1;have q2:W0.heap[w.heap.size+1]?=some m'.box:=k2;clear hg k1 k2;have c0:=(McAt.of q1).c0;have d0:=(McAt.of q2).c0;have c1:=(McAt.of q1).c1;have d1:=(McAt.of q2).c1;have c2:=(McAt.of q1).c2;have d2:=(McAt.of q2).c2;have c3:=(McAt.of q1).c3;have d3:=(McAt.of q2).c3;have c4:=(McAt.of q1).c4;have d4:=(McAt.of q2).c4;have c5:=(McAt.of q1).c5;have d5:=(McAt.of q2).c5;have c6:=(McAt.of q1).c6;have d6:=(McAt.of q2).c6;have c7:=(McAt.of q1).c7;have d7:=(McAt.of q2).c7;have c8:=(McAt.of q1).c8;have d8:=(McAt.of q2).c8;have c9:=(McAt.of q1).c9;have d9:=(McAt.of q2).c9;have c10:=(McAt.of q1).c10;have d10:=(McAt.of q2).c10;have c11:=(McAt.of q1).c11;have d11:=(McAt.of q2).c11;have c12:=(McAt.of q1).c12;have d12:=(McAt.of q2).c12;have c13:=(McAt.of q1).c13;have d13:=(McAt.of q2).c13;have c14:=(McAt.of q1).c14;have d14:=(McAt.of q2).c14;have f1:(m.k==m'.k)=true:=by simp[Q1.out]
 have g1:(m.k != m'.k)=false:=by rw[bne,f1];rfl
 have f2:(m.vi==m'.vi)=true:=by simp[Q2.out]
 have g2:(m.vi != m'.vi)=false:=by rw[bne,f2];rfl
 have f3:(m.no==m'.no)=true:=by simp[Q3.out]
 have g3:(m.no != m'.no)=false:=by rw[bne,f3];rfl
 have f4:(m.fr==m'.fr)=true:=by simp[Q4.out]
 have g4:(m.fr != m'.fr)=false:=by rw[bne,f4];rfl
 have f5:(m.cl==m'.cl)=true:=by simp[Q5.out]
 have g5:(m.cl != m'.cl)=false:=by rw[bne,f5];rfl
 have f6:(m.nu==m'.nu)=true:=by simp[Q6.out]
 have g6:(m.nu != m'.nu)=false:=by rw[bne,f6];rfl
 have hc:=qF m.rq m'.rq c.rq c'.rq W0 (h.later hb0).rq (h'.later hb0).rq;rw[E1] at hc;unfold RV.val RV.cells at hc;go_wp2_with fail;refine hc.mono ?_;rintro e W1 ⟨rfl,hb1⟩;have hbel1:=hb0.trans (hb1.mono hb0.size);have p1:=af q1 hb1;have p2:=af q2 hb1;clear hc c0 d0 c1 d1 c2 d2 c3 d3 c4 d4 c5 d5 c6 d6 c7 d7 c8 d8 c9 d9 c10 d10 c11 d11 c12 d12 c13 d13 c14 d14;have c15:=(McAt.of p1).c15;have d15:=(McAt.of p2).c15;have c16:=(McAt.of p1).c16;have d16:=(McAt.of p2).c16;have c17:=(McAt.of p1).c17;have d17:=(McAt.of p2).c17;have c18:=(McAt.of p1).c18;have d18:=(McAt.of p2).c18;have hc:=kT m.rs m'.rs c.rs c'.rs W1 (h.later hbel1).rs (h'.later hbel1).rs;rw[E2] at hc;unfold QV.val QV.cells at hc;go_wp2_with fail;refine hc.mono ?_;rintro e W2 ⟨rfl,hb2⟩;have hbel2:=hbel1.trans (hb2.mono hbel1.size);have p3:=af p1 hb2;have p4:=af p2 hb2;clear hc c15 d15 c16 d16 c17 d17 c18 d18;have c19:=(McAt.of p3).c19;have d19:=(McAt.of p4).c19;have c20:=(McAt.of p3).c20;have d20:=(McAt.of p4).c20;have c21:=(McAt.of p3).c21;have d21:=(McAt.of p4).c21;have c22:=(McAt.of p3).c22;have d22:=(McAt.of p4).c22;have c23:=(McAt.of p3).c23;have d23:=(McAt.of p4).c23;have c24:=(McAt.of p3).c24;have d24:=(McAt.of p4).c24;have c25:=(McAt.of p3).c25;have d25:=(McAt.of p4).c25;have c26:=(McAt.of p3).c26;have d26:=(McAt.of p4).c26;have hs1:=jc m.so m.sn m.sc c.snap W2 (h.later hbel2).sn;have hs2:=jc m'.so m'.sn m'.sc c'.snap W2 (h'.later hbel2).sn;have f7:(m.at_==m'.at_)=true:=by simp[Q7.out]
 have g7:(m.at_ != m'.at_)=false:=by rw[bne,f7];rfl
 have f8:(m.cm==m'.cm)=true:=by simp[Q8.out]
 have g8:(m.cm != m'.cm)=false:=by rw[bne,f8];rfl
 have f9:(m.bs==m'.bs)=true:=by simp[Q9.out]
 have g9:(m.bs != m'.bs)=false:=by rw[bne,f9];rfl
 rw[Q10.out] at hs1;have f10:=pz ⟨c'.snap.toArray⟩;have g10:(c'.snap==c'.snap)=true:=by simp
 have f11:((m.ln:Int)==(m'.ln:Int))=true:=by have:=Q11.out;rw[beq_iff_eq];omega
 have g11:((m.ln:Int) != (m'.ln:Int))=false:=by rw[bne,f11];rfl
 have f12:(m.nc==m'.nc)=true:=by simp[Q12.out]
 have g12:(m.nc != m'.nc)=false:=by rw[bne,f12];rfl
 have f13:(m.wh==m'.wh)=true:=by simp[Q13.out]
 have g13:(m.wh != m'.wh)=false:=by rw[bne,f13];rfl
 have x13:(m.wh ^^ m'.wh)=false:=by simp[Q13.out]
 have f14:((m.hn:Int)==(m'.hn:Int))=true:=by have:=Q14.out;rw[beq_iff_eq];omega
 have g14:((m.hn:Int) != (m'.hn:Int))=false:=by rw[bne,f14];rfl
 clear E1 E2;go_wp2_with fail;clear c19 d19 c20 d20 c21 d21 c22 d22 c23 d23 c24 d24 c25 d25 c26 d26 hs1 hs2 f1 g1 f2 g2 f3 g3 f4 g4 f5 g5 f6 g6 f7 g7 f8 g8 f9 g9 f10 g10 f11 g11 f12 g12 f13 g13 f14 g14 x13;go_loopw [5] (fun p wr=>∃k:Nat,k<=m.ln/\p=.int .i64 (k:Int)/\Hid (bH (c.log.take k) (c'.log.take k)=true)/\Below W2.heap.size W2 wr) (fun p _=>m.ln-(intOf p).toNat)
 case atStart=>exact⟨0,yam _,rfl,hid rfl,yaj _ _⟩
 case round=>
  obtain⟨k,hk,rfl,Ht,hbr⟩:=hrel;have r1:=af p3 hbr;have r2:=af p4 hbr;have hbel:=hbel2.trans (hbr.mono hbel2.size);have c23:=(McAt.of r1).c23;have d23:=(McAt.of r2).c23;by_cases hkn:k<m.ln
  ·have hx:=(h.later hbel).lg;have hy:=(h'.later hbel).lg;obtain⟨b1,o1,hao1,hl1,hc1⟩:=hx.r.some (by have:=hx.r.le;omega);obtain⟨b2,o2,hao2,hl2,hc2⟩:=hy.r.some (by have:=hy.r.le;have:=HE.out;omega);obtain⟨u,hu⟩:∃u,c.log[k]?=some u:=⟨_,yac (by rw[LX.out];exact hkn)⟩
   obtain⟨z,hz⟩:∃z,c'.log[k]?=some z:=⟨_,yac (by rw[LY.out];exact hkn)⟩
   have hU:=hx.each u (yan hu);have hZ:=hy.each z (yan hz);have hx1:=hx.r;rw[hao1] at hx1;have hy1:=hy.r;rw[hao2] at hy1;have hd:Below wr.heap.size wr wr.drew:=(yaj _ _).drew;have s0:SmAt w m m' b1 o1 b2 o2 k u.1 z.1 wr.drew:=(⟨hbel,r1,r2,mg hx1 hu,mg hy1 hz⟩:SmAt w m m' b1 o1 b2 o2 k u.1 z.1 wr).step hd;have hU2:=hU.later hd;have hZ2:=hZ.later hd;have hnx:=ql c.log c'.log k u z hu hz;rw[Ht.out,yaX] at hnx;have HN:=hid hnx;have i0:(0:Int)<=(k:Int):=by omega
   have i1:(k:Int)<(m.ln:Int):=by omega
   have i2:(k:Int)<(m'.ln:Int):=by have:=HE.out;omega
   have HK:=hid hkn;have A1:=hid hao1;have A2:=hid hao2;clear hnx hx hy hU hZ hc1 hc2 hu hz hbel hao1 hao2 hx1 hy1;go_upto_region 6 with fail;refine yaB (S:=SmAt w m m' b1 o1 b2 o2 k u.1 z.1) hmo ?_;change wpAnyH _ _ _ _ _ _ _ _ (World.drew wr);have hbd:Below W2.heap.size W2 wr.drew:=hbr.trans (hd.mono hbr.size);generalize World.drew wr=X0 at *;clear hbr hd c23 d23 r1 r2;have zf0:=fun (w0:World) (h:SmAt w m m' b1 o1 b2 o2 k u.1 z.1 w0)=>(McAt.of h.q1).c23;have zf1:=fun (w0:World) (h:SmAt w m m' b1 o1 b2 o2 k u.1 z.1 w0)=>(McAt.of h.q2).c23;have zf2 (w0:World) (h:SmAt w m m' b1 o1 b2 o2 k u.1 z.1 w0):w0.cell? ⟨b1,o1+k*9,none⟩=some (.int .u64 u.1.cl):=h.x 0 _ rfl;have zf3:=fun (w0:World) (h:SmAt w m m' b1 o1 b2 o2 k u.1 z.1 w0)=>(h.x 1 _ rfl:w0.cell? ⟨b1,o1+k*9+1,none⟩=some (.int .u64 u.1.nu))
   have zf4:=fun (w0:World) (h:SmAt w m m' b1 o1 b2 o2 k u.1 z.1 w0)=>(h.x 2 _ rfl:w0.cell? ⟨b1,o1+k*9+2,none⟩=some (.int .i64 u.1.op.k))
   have zf5:=fun (w0:World) (h:SmAt w m m' b1 o1 b2 o2 k u.1 z.1 w0)=>(h.x 3 _ rfl:w0.cell? ⟨b1,o1+k*9+3,none⟩=some (.string u.1.op.name))
   have zf6:=fun (w0:World) (h:SmAt w m m' b1 o1 b2 o2 k u.1 z.1 w0)=>(h.x 4 _ rfl:w0.cell? ⟨b1,o1+k*9+4,none⟩=some (.string u.1.op.to))
   have zf7:=fun (w0:World) (h:SmAt w m m' b1 o1 b2 o2 k u.1 z.1 w0)=>(h.x 5 _ rfl:w0.cell? ⟨b1,o1+k*9+5,none⟩=some (.slice u.1.op.ao u.1.op.an u.1.op.ac))
   have zf8:=fun (w0:World) (h:SmAt w m m' b1 o1 b2 o2 k u.1 z.1 w0)=>(h.x 6 _ rfl:w0.cell? ⟨b1,o1+k*9+6,none⟩=some (.slice u.1.op.bo u.1.op.bn u.1.op.bc))
   have zf9:=fun (w0:World) (h:SmAt w m m' b1 o1 b2 o2 k u.1 z.1 w0)=>(h.x 7 _ rfl:w0.cell? ⟨b1,o1+k*9+7,none⟩=some (.slice u.1.op.co u.1.op.cn u.1.op.cc))
   have zf10:=fun (w0:World) (h:SmAt w m m' b1 o1 b2 o2 k u.1 z.1 w0)=>(h.x 8 _ rfl:w0.cell? ⟨b1,o1+k*9+8,none⟩=some (.int .i64 u.1.op.n))
   have zf11 (w0:World) (h:SmAt w m m' b1 o1 b2 o2 k u.1 z.1 w0):w0.cell? ⟨b2,o2+k*9,none⟩=some (.int .u64 z.1.cl):=h.y 0 _ rfl;have zf12:=fun (w0:World) (h:SmAt w m m' b1 o1 b2 o2 k u.1 z.1 w0)=>(h.y 1 _ rfl:w0.cell? ⟨b2,o2+k*9+1,none⟩=some (.int .u64 z.1.nu))
   have zf13:=fun (w0:World) (h:SmAt w m m' b1 o1 b2 o2 k u.1 z.1 w0)=>(h.y 2 _ rfl:w0.cell? ⟨b2,o2+k*9+2,none⟩=some (.int .i64 z.1.op.k))
   have zf14:=fun (w0:World) (h:SmAt w m m' b1 o1 b2 o2 k u.1 z.1 w0)=>(h.y 3 _ rfl:w0.cell? ⟨b2,o2+k*9+3,none⟩=some (.string z.1.op.name))
   have zf15:=fun (w0:World) (h:SmAt w m m' b1 o1 b2 o2 k u.1 z.1 w0)=>(h.y 4 _ rfl:w0.cell? ⟨b2,o2+k*9+4,none⟩=some (.string z.1.op.to))
   have zf16:=fun (w0:World) (h:SmAt w m m' b1 o1 b2 o2 k u.1 z.1 w0)=>(h.y 5 _ rfl:w0.cell? ⟨b2,o2+k*9+5,none⟩=some (.slice z.1.op.ao z.1.op.an z.1.op.ac))
   have zf17:=fun (w0:World) (h:SmAt w m m' b1 o1 b2 o2 k u.1 z.1 w0)=>(h.y 6 _ rfl:w0.cell? ⟨b2,o2+k*9+6,none⟩=some (.slice z.1.op.bo z.1.op.bn z.1.op.bc))
   have zf18:=fun (w0:World) (h:SmAt w m m' b1 o1 b2 o2 k u.1 z.1 w0)=>(h.y 7 _ rfl:w0.cell? ⟨b2,o2+k*9+7,none⟩=some (.slice z.1.op.co z.1.op.cn z.1.op.cc))
   have zf19:=fun (w0:World) (h:SmAt w m m' b1 o1 b2 o2 k u.1 z.1 w0)=>(h.y 8 _ rfl:w0.cell? ⟨b2,o2+k*9+8,none⟩=some (.int .i64 z.1.op.n))
   rw[A1.out] at zf0;rw[A2.out] at zf1;refine zp 0 (pp w.heap.size 23) rfl ?_;go_simp;refine zv 1 (.slice (some ⟨b1,o1,none⟩) m.ln m.lc) rfl ?_;go_simp;refine zp 2 (.int .i64 (k:Int)) rfl ?_;go_simp;refine zv 3 (.pointer (some ⟨b1,o1+k*9,none⟩)) rfl ?_;go_simp;refine zv 4 (.agg #[.int .u64 u.1.cl,.int .u64 u.1.nu,.int .i64 u.1.op.k,.string u.1.op.name,.string u.1.op.to,.slice u.1.op.ao u.1.op.an u.1.op.ac,.slice u.1.op.bo u.1.op.bn u.1.op.bc,.slice u.1.op.co u.1.op.cn u.1.op.cc,.int .i64 u.1.op.n]) rfl ?_;go_simp;refine zp 5 (pp (w.heap.size+1) 23) rfl ?_;go_simp;refine zv 6 (.slice (some ⟨b2,o2,none⟩) m'.ln m'.lc) rfl ?_;go_simp;refine zp 7 (.int .i64 (k:Int)) rfl ?_;go_simp;refine zv 8 (.pointer (some ⟨b2,o2+k*9,none⟩)) rfl ?_;go_simp;refine zv 9 (.agg #[.int .u64 z.1.cl,.int .u64 z.1.nu,.int .i64 z.1.op.k,.string z.1.op.name,.string z.1.op.to,.slice z.1.op.ao z.1.op.an z.1.op.ac,.slice z.1.op.bo z.1.op.bn z.1.op.bc,.slice z.1.op.co z.1.op.cn z.1.op.cc,.int .i64 z.1.op.n]) rfl ?_;go_simp;have hc:=qF u.1 z.1 u.2 z.2 X0 hU2 hZ2;unfold RV.val RV.cells at hc;refine zC 10 rfl hc ?_;rintro e X1 ⟨rfl,hb1⟩;have s1:=s0.step hb1;clear hc;refine⟨s1,?_⟩;go_simp;refine zv 11 (.bool (!bQ u.1 u.2 z.1 z.2)) rfl ?_;go_simp;refine zd ?_;have hbx:=hbd.trans (hb1.mono hbd.size);have hb2:=s1.bel;cases hm:bQ u.1 u.2 z.1 z.2 with
   | false=>
    have Hf:Hid (bH c.log c'.log=false):=hid (rG c.log c'.log (k+1) (by rw[HN.out];exact hm) (by rw[LX.out,LY.out]));clear hm;go_wp2_with fail;go_ret;exact⟨by rw[Hf.out];rfl,hb2⟩
   | true=>
    have Hf:Hid (bH (c.log.take (k+1)) (c'.log.take (k+1))=true):=hid (by rw[HN.out];exact hm);clear hm;go_wp2_with fail;go_roundw
    case rel=>exact⟨k+1,HK.out,(by have:=HK.out;go_num),Hf,hbx⟩
    case measure=>have:=HK.out;simp[intOf];omega
  have Hf:Hid (bH c.log c'.log=true):=hid (by have:=Ht.out;rw[yak (by rw[LX.out];omega),yak (by rw[LY.out];omega)] at this;exact this);have hkn2:k=m.ln:=by omega
  subst hkn2;have HS:Hid ((bH c.log c'.log&&decide (c.seen=c'.seen))=decide (c.seen=c'.seen)):=hid (by rw[Hf.out,yaX]);go_wp2_with fail;clear c23 d23 Hf Ht hk hkn;obtain⟨Wb,hWb⟩:∃x,x=wr:=⟨wr,rfl⟩
  subst hWb;go_loopw [6] (fun p wr2=>∃k:Nat,k<=m.hn/\p=.int .i64 (k:Int)/\Hid (c.seen.take k=c'.seen.take k)/\Below Wb.heap.size Wb wr2) (fun p _=>m.hn-(intOf p).toNat)
  case atStart=>exact⟨0,yam _,rfl,hid rfl,yaj _ _⟩
  case round=>
   obtain⟨k,hk,rfl,Ht,hbr2⟩:=hrel;have r3:=af r1 hbr2;have r4:=af r2 hbr2;have hbel3:=hbel.trans (hbr2.mono hbel.size);have c26:=(McAt.of r3).c26;have d26:=(McAt.of r4).c26;by_cases hkn:k<m.hn
   ·have hx:=(h.later hbel3).se;have hy:=(h'.later hbel3).se;obtain⟨b1,o1,hao1,hl1,hc1⟩:=hx.some (by have:=hx.le;omega);obtain⟨b2,o2,hao2,hl2,hc2⟩:=hy.some (by have:=hy.le;have:=HH.out;omega);obtain⟨u,hu⟩:∃u,c.seen[k]?=some u:=⟨_,yac (by rw[SX.out];exact hkn)⟩
    obtain⟨z,hz⟩:∃z,c'.seen[k]?=some z:=⟨_,yac (by rw[SY.out];exact hkn)⟩
    have hd:Below wr.heap.size wr wr.drew:=(yaj _ _).drew;have s0:SnAt w m m' b1 o1 b2 o2 k u z wr.drew:=(⟨hbel3,r3,r4,hc1 k _ (oW _ k u hu),hc2 k _ (oW _ k z hz)⟩:SnAt w m m' b1 o1 b2 o2 k u z wr).step hd;have i0:(0:Int)<=(k:Int):=by omega
    have i1:(k:Int)<(m.hn:Int):=by omega
    have i2:(k:Int)<(m'.hn:Int):=by have:=HH.out;omega
    have HK:=hid hkn;have A1:=hid hao1;have A2:=hid hao2;have HU:=hid hu;have HZ:=hid hz;clear hx hy hc1 hc2 hu hz hbel3 hao1 hao2;go_upto_region 11 with fail;refine yaB (S:=SnAt w m m' b1 o1 b2 o2 k u z) hmo ?_;change wpAnyH _ _ _ _ _ _ _ _ (World.drew wr);have hbd:Below Wb.heap.size Wb wr.drew:=hbr2.trans (hd.mono hbr2.size);generalize World.drew wr=X0 at *;clear hbr2 hd c26 d26 r3 r4;have zf0:=fun (w0:World) (h:SnAt w m m' b1 o1 b2 o2 k u z w0)=>(McAt.of h.q1).c26;have zf1:=fun (w0:World) (h:SnAt w m m' b1 o1 b2 o2 k u z w0)=>(McAt.of h.q2).c26;have zf2:=fun (w0:World) (h:SnAt w m m' b1 o1 b2 o2 k u z w0)=>h.x;have zf3:=fun (w0:World) (h:SnAt w m m' b1 o1 b2 o2 k u z w0)=>h.y;rw[A1.out] at zf0;rw[A2.out] at zf1;refine zp 0 (pp w.heap.size 26) rfl ?_;go_simp;refine zv 1 (.slice (some ⟨b1,o1,none⟩) m.hn m.hc) rfl ?_;go_simp;refine zp 2 (.int .i64 (k:Int)) rfl ?_;go_simp;refine zv 3 (.pointer (some ⟨b1,o1+k,none⟩)) rfl ?_;go_simp;refine zv 4 (.int .u64 (u:Int)) rfl ?_;go_simp;refine zp 5 (pp (w.heap.size+1) 26) rfl ?_;go_simp;refine zv 6 (.slice (some ⟨b2,o2,none⟩) m'.hn m'.hc) rfl ?_;go_simp;refine zp 7 (.int .i64 (k:Int)) rfl ?_;go_simp;refine zv 8 (.pointer (some ⟨b2,o2+k,none⟩)) rfl ?_;go_simp;refine zv 9 (.int .u64 (z:Int)) rfl ?_;go_simp;refine zv 10 (.bool ((u:Int) != (z:Int))) rfl ?_;go_simp;refine zd ?_;have hb2:=s0.bel;by_cases hm:u=z
    ·subst hm;have g1:((u:Int) != (u:Int))=false:=by simp
     have Hf:Hid (c.seen.take (k+1)=c'.seen.take (k+1)):=hid (by rw[yaE,yaE,Ht.out,HU.out,HZ.out]);go_wp2_with fail;go_roundw
     case rel=>exact⟨k+1,HK.out,(by have:=HK.out;go_num),Hf,hbd⟩
     case measure=>have:=HK.out;simp[intOf];omega
    have g1:((u:Int) != (z:Int))=true:=by rw[bne,yap.2 (by omega)];rfl
    have Hf:Hid ((bH c.log c'.log&&decide (c.seen=c'.seen))=false):=hid (by rw[HS.out];exact yad (fun e=>hm (yaf (HU.out.symm.trans ((congrArg (fun l=>l[k]?) e).trans HZ.out)))));clear hm;go_wp2_with fail;go_ret;exact⟨by rw[Hf.out];rfl,hb2⟩
   have Hf:Hid ((bH c.log c'.log&&decide (c.seen=c'.seen))=true):=hid (by
    have:=Ht.out;rw[yak (by rw[SX.out];omega),yak (by rw[SY.out];omega)] at this;rw[HS.out];exact yaa this)
   have hkn2:k=m.hn:=by omega
   subst hkn2;go_wp2_with fail;go_ret;exact⟨by rw[Hf.out];rfl,hbel3⟩
theorem CX(m m':MV)(c c':MC)(w:World)(h:MAt w m c)(h':MAt w m' c'):Calls Tryz.prog 30 #[m.val,m'.val] w (GivesB (aH m c m' c') w):=by
 by_cases h6:m.k=m'.k/\m.vi=m'.vi/\m.no=m'.no/\m.fr=m'.fr/\m.cl=m'.cl/\m.nu=m'.nu
 case neg=>
  have e:aH m c m' c'=false:=by
   cases hh:aH m c m' c' with
   | false=>rfl
   | true=>
    unfold aH at hh;simp only[yaq,yaG] at hh;obtain⟨h1,h2,h3,h4,h5,h7,-⟩:=hh;exact absurd ⟨h1,h2,h3,h4,h5,h7⟩ h6
  rw[e];exact Ph m m' w h6
 obtain⟨e1,e2,e3,e4,e5,e6⟩:=h6;by_cases hr:bQ m.rq c.rq m'.rq c'.rq=true/\aF m.rs c.rs m'.rs c'.rs=true/\m.at_=m'.at_/\m.cm=m'.cm/\m.bs=m'.bs/\c.snap=c'.snap/\m.ln=m'.ln/\m.nc=m'.nc/\m.wh=m'.wh/\m.hn=m'.hn
 case neg=>
  have e:aH m c m' c'=false:=by
   cases hh:aH m c m' c' with
   | false=>rfl
   | true=>
    unfold aH at hh;simp only[yaq,yaG] at hh;obtain⟨-,-,-,-,-,-,h7,h8,h9,h10,h11,h12,h13,h14,h15,h16⟩:=hh;have l1:=jB h13;have l2:=h.lg.len;have l3:=h'.lg.len;have s1:=congrArg List.length h16;have s2:=h.se.1;have s3:=h'.se.1;rw[iq] at s2 s3;exact absurd ⟨h7,h8,h9,h10,h11,h12,by omega,h14,h15,by omega⟩ hr
  rw[e];exact OX m m' c c' w h h' e1 e2 e3 e4 e5 e6 hr
 obtain⟨e7,e8,e9,e10,e11,e12,e13,e14,e15,e16⟩:=hr;have e:aH m c m' c'=(bH c.log c'.log&&decide (c.seen=c'.seen)):=by
  unfold aH;rw[e1,e2,e3,e4,e5,e6,e7,e8,e9,e10,e11,e12,e14,e15];simp only[decide_true,yaX]
 rw[e];exact Ro m m' c c' w h h' e1 e2 e3 e4 e5 e6 e7 e8 e9 e10 e11 e12 e13 e14 e15 e16
def F9 (m:MV)(c:MC)(w:World)(e:Ending)(w':World):Prop:=∃(l:List UInt8) (ax:Option Addr) (cx:Nat) (ok:Bool),e=.returned (.tuple #[.slice ax l.length cx,.bool ok])/\Rd w' 1 ax l.length cx (byV l)/\Below w.heap.size w w'/\ok=bY m c/\(ok=true->l=dL m c/\∀B,TyB B w' ax cx)
structure RbL (w:World)(m:MV)(c:MC)(T:Option Addr)(n tc:Nat)(k:Nat)(v:Value)(wr:World):Prop where
 q:wr.heap[w.heap.size]?=some m.box
 bel:Below w.heap.size w wr
 tags:Rd wr 1 T n tc (byV (eP m.k m.wh))
 own:wr.ownsRow (w.heap.size+1) 5 1 v (val 1 (au (IntKind.wrap .u64 m.k).toNat)++aS ((lettersOf m.k m.wh).take k) m c).length (byV (val 1 (au (IntKind.wrap .u64 m.k).toNat)++aS ((lettersOf m.k m.wh).take k) m c))
 ne:∀a,T=some a->0<tc->v.ownBlock≠some a.block
 all:∀x∈(lettersOf m.k m.wh).take k,fC x m c=true
theorem oI(htake:∀(B g:Nat) (s:RS) (W:World),RfS B g s W->B<=W.heap.size->s.l.length<=100000000->Calls Tryz.prog 54 #[.pointer (some ⟨g,0,none⟩)] W (xe B g s W))
  (m:MV) (c:MC) (w:World) (h:MAt w m c) (hu:U64M m c) (hf:FitsM m c) (hs:m.sn<=4194304) (hn:m.hn<=322639) (hl:m.ln<=1000000):Calls Tryz.prog 16 #[m.val] w (F9 m c w):=by
 have hmo:=hmO
 have hb0:=bN w m.box;have k0:=aN w m.box
 unfold MV.box MV.cells at hb0 k0;unfold MV.val MV.cells;go_in;go_upto_region 1 with fail;generalize hg:w.alloc _=W0 at *;have q0:W0.heap[w.heap.size]?=some m.box:=k0;clear hg k0;have c0:=(McAt.of q0).c0;have c25:=(McAt.of q0).c25;go_wp2_with fail;refine (uq m.k m.wh W0).mono ?_;rintro e W1 ⟨T,tc,rfl,hT,hb1,hty⟩;have q1:=af q0 hb1;have bel1:=hb0.trans (hb1.mono hb0.size);clear c0 c25 q0 hb0 hb1;have c0:=(McAt.of q1).c0;have hw:0<=IntKind.wrap .u64 m.k/\IntKind.wrap .u64 m.k<18446744073709551616:=by rw[ybi];omega
 have hnum:=yj 1 (IntKind.wrap .u64 m.k) W1 hw.1 hw.2;have hz1:w.heap.size+1<=W1.heap.size:=lA q1;clear hw;go_wp2_with fail;refine hnum.mono ?_;rintro e W2 ⟨v2,rfl,o2,hb2⟩;have hTlt:=hT.lt;have s0:RbL w m c T (eP m.k m.wh).length tc 0 v2 W2:=⟨af q1 hb2,bel1.trans (hb2.mono bel1.size),hT.later hb2,by
  have e:val 1 (au (IntKind.wrap .u64 m.k).toNat)++aS ((lettersOf m.k m.wh).take 0) m c=val 1 (au (IntKind.wrap .u64 m.k).toNat):=by simp[aS]
  rw[e];exact Tlv.own_base o2 hz1,fun a ha h0 e=>by have:=(aU o2 e).1;have:=hTlt h0 a ha;omega,fun x hx=>by simp at hx⟩
 have hlen:(eP m.k m.wh).length=(lettersOf m.k m.wh).length:=by unfold eP;rw[ybl]
 have hl15:=nC m.k m.wh;have HLen:=hid hlen;have hN15:(eP m.k m.wh).length<=15:=by omega
 obtain⟨N,hN⟩:∃N,(eP m.k m.wh).length=N:=⟨_,rfl⟩
 rw[hN] at s0 hN15 ⊢;have HN:=hid hN;clear c0 hnum q1 bel1 o2 hb2 hT hTlt hty hlen hl15 hN hz1;go_wp2_with fail;go_loopw [5,6] (fun v p wr=>∃k:Nat,k<=N/\p=.int .i64 (k:Int)/\RbL w m c T N tc k v wr) (fun _ p _=>N-(intOf p).toNat)
 case atStart=>exact⟨0,yam _,rfl,s0⟩
 case round=>
  obtain⟨k,hk,rfl,s1⟩:=hrel;clear s0;by_cases hkn:k<N
  ·obtain⟨x,hx⟩:∃x,(lettersOf m.k m.wh)[k]?=some x:=⟨_,yac (by rw[<-HLen.out,HN.out];exact hkn)⟩
   have hxm:=yan hx;obtain⟨tb,to_,hT,htl,htc⟩:=s1.tags.some (by have:=s1.tags.le;omega);have htag:=htc k _ (FQ m.k m.wh k x hx);have hd:Below wr.heap.size wr wr.drew:=(yaj _ _).drew;have t0:wr.drew.heap[w.heap.size]?=some m.box/\wr.drew.cell? ⟨tb,to_+k,none⟩=some (.int .u8 ((jW x).toNat:Int)):=⟨af s1.q hd,dK hd htag⟩
   have hfd:=I4 x (jb x hxm) m c wr.drew ((h.later s1.bel).later hd) hu hf hs hn hl;unfold MV.val MV.cells at hfd;have HX:=hid hx;have HXM:=hid hxm;have HT:=hid hT;have HS:=hid s1;have i0:(0:Int)<=(k:Int):=by omega
   have i1:(k:Int)<(N:Int):=by omega
   have hcap:N<=tc:=s1.tags.le;rw[hT];clear hx hxm htc htag hT s1;go_upto_region 6 with fail;refine yaB (S:=fun W=>W.heap[w.heap.size]?=some m.box/\W.cell? ⟨tb,to_+k,none⟩=some (.int .u8 ((jW x).toNat:Int))) hmo ?_;change wpAnyH _ _ _ _ _ _ _ _ (World.drew wr);have HD:=hid hd;generalize hX0:World.drew wr=X0 at *;have HX0:=hid hX0;clear hd hX0;refine zHa 0 (.agg #[.int .i64 m.k,.int .u64 m.vi,.int .u64 m.no,.int .i64 m.fr,.int .u64 m.cl,.int .u64 m.nu,.int .u64 m.rq.cl,.int .u64 m.rq.nu,.int .i64 m.rq.op.k,.string m.rq.op.name,.string m.rq.op.to,.slice m.rq.op.ao m.rq.op.an m.rq.op.ac,.slice m.rq.op.bo m.rq.op.bn m.rq.op.bc,.slice m.rq.op.co m.rq.op.cn m.rq.op.cc,.int .i64 m.rq.op.n,.int .i64 m.rs.code,.bool m.rs.yes,.slice m.rs.eo m.rs.en m.rs.ec,.slice m.rs.co m.rs.cn m.rs.cc,.int .u64 m.at_,.int .u64 m.cm,.int .u64 m.bs,.slice m.so m.sn m.sc,.slice m.lo m.ln m.lc,.int .u64 m.nc,.bool m.wh,.slice m.ho m.hn m.hc]) rfl (fun w2 h2=>gK (cs:=m.cells) h2.1 rfl rfl (by kernel_rfl) (by kernel_rfl)) t0 ?_;go_simp;refine zp 1 (.slice (some ⟨tb,to_,none⟩) N tc) rfl (zp 2 (.int .i64 (k:Int)) rfl ?_);go_simp;refine zv 3 (.pointer (some ⟨tb,to_+k,none⟩)) rfl ?_;go_simp;refine zHa 4 (.int .u8 ((jW x).toNat:Int)) rfl (by rintro w2 h2;have cc:=h2.2;go_simp) t0 ?_;go_simp;refine zC 5 rfl hfd ?_;rintro e X1 ⟨l,ax,cx,ok,rfl,r1,hb1,hok,hbl⟩;have t1:X1.heap[w.heap.size]?=some m.box/\X1.cell? ⟨tb,to_+k,none⟩=some (.int .u8 ((jW x).toNat:Int)):=⟨af t0.1 hb1,dK hb1 t0.2⟩
   have HOK:=hid hok;have HBL:=hid hbl;clear hfd hok hbl;refine⟨t1,?_⟩;go_simp;refine zp 6 (.tuple #[.slice ax l.length cx,.bool ok]) rfl (zp 7 (.slice ax l.length cx) rfl (zp 8 (.bool ok) rfl (zp 9 (.slice ax l.length cx) rfl (zp 10 (.bool ok) rfl ?_))));go_simp;refine zd ?_;have hs1:=HS.out;have bX:Below wr.heap.size wr X1:=HD.out.trans (hb1.mono HD.out.size);have bel1:=hs1.bel.trans (bX.mono hs1.bel.size);cases ok with
   | false=>
    have HNo:=hid (PE h hs HXM.out HOK.out.symm);go_wp2_with fail;go_ret2;exact⟨[],none,0,false,rfl,Rd.nil _ _,bel1,HNo.out.symm,fun e=>by cases e⟩
   | true=>
    have hfl:=HBL.out (by first | rfl | trivial);have hl9:l.length<=4194309:=by rw[hfl];exact AU h (xh hf hs HOK.out.symm)
    have hsn:aS ((lettersOf m.k m.wh).take (k+1)) m c=aS ((lettersOf m.k m.wh).take k) m c++l:=by rw[yaE,HX.out,hfl];exact pO _ _ _ _
    have hpl:(val 1 (au (IntKind.wrap .u64 m.k).toNat)++aS ((lettersOf m.k m.wh).take k) m c).length<=100000000:=by
     have h1:=nK h ((lettersOf m.k m.wh).take k) (fun y hy=>xh hf hs (hs1.all y hy));have h2:((lettersOf m.k m.wh).take k).length<=15:=yae (List.length_take_le _ _) (by omega);have h3:=ybc 4194309 h2;rw[yab,ae,ai];omega
    obtain⟨P,hP⟩:∃P,val 1 (au (IntKind.wrap .u64 m.k).toNat)++aS ((lettersOf m.k m.wh).take k) m c=P:=⟨_,rfl⟩
    have own1:=ag hs1.own bX;rw[hP] at own1 hpl;have HP:=hid hP;have HSN:=hid hsn;have z1:w.heap.size+1<=X1.heap.size:=lA t1.1;have htg:=hs1.tags.later bX;have hne:=hs1.ne;have hall:=hs1.all;clear hfl hsn hP hs1 HS;go_wp2_with (at_builtin;refine rJ _ rfl (.tmp 37) (.tmp 38) 34 rfl (w.heap.size+1) 5 (.int .u8 0) 1 1 byT _ _ (byV P) rfl own1 ax _ cx (byV l) rfl r1 (bM _) (by unfold maxLen;omega) (by omega) z1 ?_;intro ao4 cap4 X4 o4 hg4 hb4 hnn);have q4:X4.heap[w.heap.size]?=some m.box:=(hb4.block _ (ybY _)).trans t1.1;have bel4:=bel1.trans (hb4.mono (ycG _));have tg4:Rd X4 1 T N tc (byV (eP m.k m.wh)):=AP htg hg4 (fun h0 a ha e=>hne a ha h0 e.symm);have ne4:∀a,T=some a->0<tc->(Value.slice ao4 (P.length+l.length) cap4).ownBlock≠some a.block:=fun a ha h0 e=>by
     rcases hnn _ e with h1 | h1
     ·exact hne a ha h0 h1
     have:=htg.lt h0 a ha;omega
    have hx2:=HX.out;go_roundw
    case rel=>
     refine⟨k+1,by omega,by go_num,⟨q4,bel4,HT.out▸tg4,?_,HT.out▸ne4,fun z hz=>?_⟩⟩
     ·rw[HSN.out,<-yav,HP.out,yab,dS];exact o4
     rw[yaE,hx2] at hz;rcases yaQ.1 hz with hz | hz
     ·exact hall z hz
     obtain rfl:z=x:=by simpa using hz
     exact HOK.out.symm
    case measure=>simp[intOf];omega
  have hkN:k=N:=by omega
  subst hkN;have hs1:=s1;have hfull:(lettersOf m.k m.wh).take k=lettersOf m.k m.wh:=yak (by have:=HLen.out;have:=HN.out;omega);have own:=hs1.own;have hall:=hs1.all;have hbel:=hs1.bel;have hq:=hs1.q;rw[hfull] at own hall;have hpl:(val 1 (au (IntKind.wrap .u64 m.k).toNat)++aS (lettersOf m.k m.wh) m c).length<=100000000:=by
   have h1:=nK h (lettersOf m.k m.wh) (fun y hy=>xh hf hs (hall y hy));have h2:(lettersOf m.k m.wh).length<=15:=by have:=HLen.out;have:=HN.out;omega
   have h3:=ybc 4194309 h2;rw[yab,ae,ai];omega
  have hPm:lettersOf m.k m.wh≠[]->val 1 (au (IntKind.wrap .u64 m.k).toNat)++aS (lettersOf m.k m.wh) m c=dL m c:=fun hne=>by
   have hk1:1<=m.k/\m.k<=12:=by
    rcases kinds m.k m.wh with h0 | h0
    ·exact absurd h0 hne
    omega
   have e:IntKind.wrap .u64 m.k=m.k:=by rw[ybi];omega
   rw[e];rfl
  obtain⟨P,hP⟩:∃P,val 1 (au (IntKind.wrap .u64 m.k).toNat)++aS (lettersOf m.k m.wh) m c=P:=⟨_,rfl⟩
  rw[hP] at own hpl hPm;have HPM:=hid hPm;have HALL:=hid hall;obtain⟨ao,cap,rfl,hrd⟩:=Rd.of_own own;have hty:∀B,TyB B wr ao cap:=fun B h0 a ha=>by
   subst ha;obtain⟨-,-,cur,h⟩:=Msg.aU own (k:=a.block) rfl;exact .inr ⟨_,_,h⟩
  have hR:=oz (B:=wr.heap.size) hrd (yag _) (fun h0 a ha=>.inl (hrd.lt h0 a ha));have hbR:=bN wr (.cells #[.slice ao P.length cap,.bool false] 119);have hzR:wr.heap.size<=(wr.alloc (.cells #[.slice ao P.length cap,.bool false] 119)).heap.size:=hbR.size;have htk:=htake wr.heap.size wr.heap.size ⟨P,false⟩ _ hR hzR hpl;have HF0:=hid hfull;have HGR:=hid (yax hrd hty);have HQ:=hid hq;have HBL:=hid hbel;clear hs1 s1 hfull hall hP own hR hzR hPm hrd hty hq hbel;go_wp2_with fail;refine htk.mono ?_;rintro e W2 ⟨s',-,hXf,hans⟩;have hB2:Below wr.heap.size wr W2:=hbR.trans (mV hXf hbR.size (fun j hj=>by rw[yah.1 hj];exact yag _));have q2:=af HQ.out hB2;have bel2:=HBL.out.trans (hB2.mono HBL.out.size);have rdP:=yax (HGR.out.1.later hB2) (fun B=>TyB.later (HGR.out.2 B) hB2);obtain⟨o,d,ok,rfl,hat,hsm⟩:∃(o:MV) (d:MC) (ok:Bool),e=.returned (.tuple #[o.val,.bool ok])/\MAt W2 o d/\(MayM w m c->P=dL m c->aH o d m c=aH m c (jY (lettersOf m.k m.wh) m) (nJ (lettersOf m.k m.wh) c)):=by
   rcases hans with ⟨o,d,rfl,a1,a2,-,a4,a5,a6,-⟩ | ⟨rfl,-,hno⟩
   ·exact⟨o,d,true,rfl,a1,fun hM e=>JQ (by rw[<-e];exact a6) hM a1 a2 a4 a5⟩
   exact⟨ay 0,dO,false,rfl,fE _ _,fun hM e=>absurd (by rw[yaD];exact e) (hno w m c [] rfl hM)⟩
  have HSM:=hid hsm;clear htk hbR hXf hans hB2 hsm;unfold MV.val MV.cells;go_upto_region 11 with (refine zNr rfl ?_;go_simp);generalize hg:W2.alloc _=W3;have e3:W2.alloc o.box=W3:=hg;have hb3:=bE e3
  have q3o:W3.heap[W2.heap.size]?=some o.box:=aE e3
  have q3m:=af q2 hb3;have bel3:=bel2.trans (hb3.mono bel2.size);have rd3:=yax (rdP.1.later hb3) (fun B=>TyB.later (rdP.2 B) hb3);have hat3:=hat.later hb3;have HRD:=hid rd3;have HBE:=hid bel3;have HAT:=hid hat3;clear hg e3 hb3 q2 bel2 rdP hat rd3 bel3 hat3;generalize W2.heap.size=yb at *;by_cases hn0:lettersOf m.k m.wh=[]
  ·have hk0:k=0:=by rw[<-HN.out,HLen.out,hn0];rfl
   have f0:((k:Int)==0)=true:=by rw[hk0];rfl
   have HNo:=hid (Oh h hs hn0);clear hn0 hk0;go_wp2_with fail;go_ret2;exact⟨[],none,0,false,rfl,Rd.nil _ _,HBE.out,HNo.out.symm,fun e=>by cases e⟩
  have hk0:k≠0:=fun e=>hn0 (yat (by rw[<-HLen.out,HN.out,e]));have f0:((k:Int)==0)=false:=by rw[yap];omega
  have hM:=FU h hu hf hs hn0 HALL.out;have hPe:=HPM.out hn0;have hmb:=Jh h hs hn0 HALL.out;rw[<-HSM.out hM hPe,<-hPe] at hmb;have HMB:=hid hmb;have HPE:=hid hPe;clear hn0 hk0 hM hPe hmb;by_cases hlong:8388608<P.length
  ·have f1:decide ((8388608:Int)<(P.length:Int))=true:=yaa (by omega);have HNo:Hid (bY m c=false):=hid (by rw[HMB.out,yad (by omega),Bool.and_false]);clear hlong;go_wp2_with fail;go_ret2;exact⟨[],none,0,false,rfl,Rd.nil _ _,HBE.out,HNo.out.symm,fun e=>by cases e⟩
  have f1:decide ((8388608:Int)<(P.length:Int))=false:=yad (by omega);have HM2:Hid (bY m c=aH o d m c):=hid (by rw[HMB.out,yaa (by omega),Bool.and_true]);have hsame:=CX o m d c W3 HAT.out (h.later HBE.out);unfold MV.val MV.cells at hsame;clear hlong;go_wp2_with (first | (refine wpList_load_row (ty:=59) q3o rfl rfl rfl (by kernel_rfl) (by kernel_rfl) ?_;go_simp) | (refine wpList_load_row (ty:=59) q3m rfl rfl rfl (by kernel_rfl) (by kernel_rfl) ?_;go_simp));refine hsame.mono ?_;rintro e W4 ⟨rfl,hb4⟩;have HB4:=hid (HBE.out.trans (hb4.mono HBE.out.size));have HR4:=hid (yax (HRD.out.1.later hb4) (fun B=>TyB.later (HRD.out.2 B) hb4));obtain⟨q,hq⟩:∃q,aH o d m c=q:=⟨_,rfl⟩
  rw[hq];have HQ2:=hid (HM2.out.trans hq);clear hsame hb4 hq q3o q3m;cases q with
  | false=>
   go_wp2_with fail;go_ret2;exact⟨[],none,0,false,rfl,Rd.nil _ _,HB4.out,HQ2.out.symm,fun e=>by cases e⟩
  | true=>
   go_wp2_with fail;go_ret2;exact⟨P,ao,cap,true,rfl,HR4.out.1,HB4.out,HQ2.out.symm,fun _=>⟨HPE.out,HR4.out.2⟩⟩
