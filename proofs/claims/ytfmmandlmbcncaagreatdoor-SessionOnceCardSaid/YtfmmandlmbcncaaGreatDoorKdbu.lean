/-
  A part of the proof.
-/
import Derived.Test.YtfmmandlmbcncaaGreatDoorKdbe
set_option maxHeartbeats 40000000
set_option maxRecDepth 100000
namespace Go.Proofs.YtfmmandlmbcncaaGreatDoor.Msg
open Go.RowKit Go.Lib Mem Tlv
theorem Oa (m m':MV)(c c':MC)(w:World)(h:MAt w m c)(h':MAt w m' c')(e1:m.k=m'.k)(e2:m.vi=m'.vi)(e3:m.no=m'.no)(e4:m.fr=m'.fr)(e5:m.cl=m'.cl)(e6:m.nu=m'.nu)(E1:bP m.rq c.rq m'.rq c'.rq=true)(E2:aN m.rs c.rs m'.rs c'.rs=true)(e7:m.at_=m'.at_)(e8:m.cm=m'.cm)(e9:m.bs=m'.bs)(e10:c.snap=c'.snap)(e11:m.ln=m'.ln)(e12:m.nc=m'.nc)(e13:m.wh=m'.wh)(e14:m.hn=m'.hn)(hl0:m.ln=0)(hh0:m.hn=0):Calls Tryz.prog 30 #[m.val,m'.val] w (aY true w):=by
 have HL:=hid hl0;have HH:=hid hh0;clear hl0 hh0;have Q1:=hid e1;have Q2:=hid e2;have Q3:=hid e3;have Q4:=hid e4;have Q5:=hid e5;have Q6:=hid e6;have Q7:=hid e7;have Q8:=hid e8;have Q9:=hid e9;have Q10:=hid e10;have Q11:=hid e11;have Q12:=hid e12;have Q13:=hid e13;have Q14:=hid e14;clear e1 e2 e3 e4 e5 e6 e7 e8 e9 e10 e11 e12 e13 e14;have hb0:Below w.heap.size w ((w.alloc m.box).alloc m'.box):=bU w _ _;obtain⟨k1,k2⟩:=bY w m.box m'.box;unfold MV.box MV.cells at hb0 k1 k2;unfold MV.val MV.cells;go_in;go_upto_region 1 with fail;generalize hg:World.alloc _ _=W0 at *;have q1:W0.heap[w.heap.size]?=some m.box:=k1;have q2:W0.heap[w.heap.size+1]?=some m'.box:=k2;clear hg k1 k2;have c0:=(McAt.of q1).c0;have d0:=(McAt.of q2).c0;have c1:=(McAt.of q1).c1;have d1:=(McAt.of q2).c1;have c2:=(McAt.of q1).c2;have d2:=(McAt.of q2).c2;have c3:=(McAt.of q1).c3;have d3:=(McAt.of q2).c3;have c4:=(McAt.of q1).c4;have d4:=(McAt.of q2).c4;have c5:=(McAt.of q1).c5;have d5:=(McAt.of q2).c5;have c6:=(McAt.of q1).c6;have d6:=(McAt.of q2).c6;have c7:=(McAt.of q1).c7;have d7:=(McAt.of q2).c7;have c8:=(McAt.of q1).c8;have d8:=(McAt.of q2).c8;have c9:=(McAt.of q1).c9;have d9:=(McAt.of q2).c9;have c10:=(McAt.of q1).c10;have d10:=(McAt.of q2).c10;have c11:=(McAt.of q1).c11;have d11:=(McAt.of q2).c11;have c12:=(McAt.of q1).c12;have d12:=(McAt.of q2).c12;have c13:=(McAt.of q1).c13;have d13:=(McAt.of q2).c13;have c14:=(McAt.of q1).c14;have d14:=(McAt.of q2).c14;have f1:(m.k==m'.k)=true:=by simp[Q1.out]
 have g1:(m.k != m'.k)=false:=by rw[bne,f1];rfl
 have f2:(m.vi==m'.vi)=true:=by simp[Q2.out]
 have g2:(m.vi != m'.vi)=false:=by rw[bne,f2];rfl
 have f3:(m.no==m'.no)=true:=by simp[Q3.out]
 have g3:(m.no != m'.no)=false:=by rw[bne,f3];rfl
 have f4:(m.fr==m'.fr)=true:=by simp[Q4.out]
 have g4:(m.fr != m'.fr)=false:=by rw[bne,f4];rfl
 have f5:(m.cl==m'.cl)=true:=by simp[Q5.out]
 have g5:(m.cl != m'.cl)=false:=by rw[bne,f5];rfl
 have f6:(m.nu==m'.nu)=true:=by simp[Q6.out]
 have g6:(m.nu != m'.nu)=false:=by rw[bne,f6];rfl
 have hc:=Bq m.rq m'.rq c.rq c'.rq W0 (h.later hb0).rq (h'.later hb0).rq;rw[E1] at hc;unfold RV.val RV.cells at hc;go_wp2_with fail;refine hc.mono ?_;rintro e W1 ⟨rfl,hb1⟩;have hbel1:=hb0.trans (hb1.mono hb0.size);have p1:=ag q1 hb1;have p2:=ag q2 hb1;clear hc c0 d0 c1 d1 c2 d2 c3 d3 c4 d4 c5 d5 c6 d6 c7 d7 c8 d8 c9 d9 c10 d10 c11 d11 c12 d12 c13 d13 c14 d14;have c15:=(McAt.of p1).c15;have d15:=(McAt.of p2).c15;have c16:=(McAt.of p1).c16;have d16:=(McAt.of p2).c16;have c17:=(McAt.of p1).c17;have d17:=(McAt.of p2).c17;have c18:=(McAt.of p1).c18;have d18:=(McAt.of p2).c18;have hc:=uw m.rs m'.rs c.rs c'.rs W1 (h.later hbel1).rs (h'.later hbel1).rs;rw[E2] at hc;unfold QV.val QV.cells at hc;go_wp2_with fail;refine hc.mono ?_;rintro e W2 ⟨rfl,hb2⟩;have hbel2:=hbel1.trans (hb2.mono hbel1.size);have p3:=ag p1 hb2;have p4:=ag p2 hb2;clear hc c15 d15 c16 d16 c17 d17 c18 d18;have c19:=(McAt.of p3).c19;have d19:=(McAt.of p4).c19;have c20:=(McAt.of p3).c20;have d20:=(McAt.of p4).c20;have c21:=(McAt.of p3).c21;have d21:=(McAt.of p4).c21;have c22:=(McAt.of p3).c22;have d22:=(McAt.of p4).c22;have c23:=(McAt.of p3).c23;have d23:=(McAt.of p4).c23;have c24:=(McAt.of p3).c24;have d24:=(McAt.of p4).c24;have c25:=(McAt.of p3).c25;have d25:=(McAt.of p4).c25;have c26:=(McAt.of p3).c26;have d26:=(McAt.of p4).c26;have hs1:=lV m.so m.sn m.sc c.snap W2 (h.later hbel2).sn;have hs2:=lV m'.so m'.sn m'.sc c'.snap W2 (h'.later hbel2).sn;have f7:(m.at_==m'.at_)=true:=by simp[Q7.out]
 have g7:(m.at_ != m'.at_)=false:=by rw[bne,f7];rfl
 have f8:(m.cm==m'.cm)=true:=by simp[Q8.out]
 have g8:(m.cm != m'.cm)=false:=by rw[bne,f8];rfl
 have f9:(m.bs==m'.bs)=true:=by simp[Q9.out]
 have g9:(m.bs != m'.bs)=false:=by rw[bne,f9];rfl
 rw[Q10.out] at hs1;have f10:=uQ ⟨c'.snap.toArray⟩;have g10:(c'.snap==c'.snap)=true:=by simp
 have f11:((m.ln:Int)==(m'.ln:Int))=true:=by have:=Q11.out;rw[beq_iff_eq];omega
 have g11:((m.ln:Int) != (m'.ln:Int))=false:=by rw[bne,f11];rfl
 have f12:(m.nc==m'.nc)=true:=by simp[Q12.out]
 have g12:(m.nc != m'.nc)=false:=by rw[bne,f12];rfl
 have f13:(m.wh==m'.wh)=true:=by simp[Q13.out]
 have g13:(m.wh != m'.wh)=false:=by rw[bne,f13];rfl
 have x13:(m.wh ^^ m'.wh)=false:=by simp[Q13.out]
 have f14:((m.hn:Int)==(m'.hn:Int))=true:=by have:=Q14.out;rw[beq_iff_eq];omega
 have g14:((m.hn:Int) != (m'.hn:Int))=false:=by rw[bne,f14];rfl
 clear E1 E2;go_wp2_with fail;clear c19 d19 c20 d20 c21 d21 c22 d22 c23 d23 c24 d24 c25 d25 c26 d26 hs1 hs2 f1 g1 f2 g2 f3 g3 f4 g4 f5 g5 f6 g6 f7 g7 f8 g8 f9 g9 f10 g10 f11 g11 f12 g12 f13 g13 f14 g14 x13;go_loopw [5] (fun p wr=>p=.int .i64 0/\Below W2.heap.size W2 wr) (fun p _=>0)
 case atStart=>exact⟨rfl,Below.refl _ _⟩
 case round=>
  obtain⟨rfl,hbr⟩:=hrel;have r1:=ag p3 hbr;have hbel:=hbel2.trans (hbr.mono hbel2.size);have c23:=(McAt.of r1).c23;rw[HL.out] at c23;generalize wr=Wb at *;go_wp2_with fail;clear c23;go_loopw [6] (fun p wr2=>p=.int .i64 0/\Below Wb.heap.size Wb wr2) (fun p _=>0)
  case atStart=>exact⟨rfl,Below.refl _ _⟩
  case round=>
   obtain⟨rfl,hbr2⟩:=hrel;have r3:=ag r1 hbr2;have hbel3:=hbel.trans (hbr2.mono hbel.size);have c26:=(McAt.of r3).c26;rw[HH.out] at c26;go_wp2_with fail;go_ret;exact⟨rfl,hbel3⟩
end Go.Proofs.YtfmmandlmbcncaaGreatDoor.Msg
