/-A part of the proof.-/
import Derived.Deep.CutRange
import Derived.Test.YtfmmandlmbcncaaGreatDoorKfav
set_option maxHeartbeats 40000000
set_option maxRecDepth 100000
set_option linter.all false
namespace Go.Proofs.YtfmmandlmbcncaaGreatDoor
namespace Msg
open Go.RowKit Go.Lib Mem Tlv
variable{W:World}
structure AcV where
 k:Int
 op:OV
 bo:Option Addr
 bn:Nat
 bc:Nat
 vi:Int
 cl:Int
 nu:Int
 rs:QV
structure AcC where
 op:OC
 by_:List UInt8
 rs:QC
def AcV.cells (y:AcV):Array Value:=#[.int .i64 y.k,.int .i64 y.op.k,.string y.op.name,.string y.op.to,.slice y.op.ao y.op.an y.op.ac,.slice y.op.bo y.op.bn y.op.bc,.slice y.op.co y.op.cn y.op.cc,.int .i64 y.op.n,.slice y.bo y.bn y.bc,.int .u64 y.vi,.int .u64 y.cl,.int .u64 y.nu,.int .i64 y.rs.code,.bool y.rs.yes,.slice y.rs.eo y.rs.en y.rs.ec,.slice y.rs.co y.rs.cn y.rs.cc]
abbrev XP:=AcV×AcC
def I5 (l:List XP):List Value:=l.flatMap fun p=>p.1.cells.toList
theorem Ce(l:List XP)(k:Nat)(p:XP)(h:l[k]?=some p){b o:Nat}(hc:∀(j:Nat) (u:Value),(I5 l)[j]?=some u->W.cell? ⟨b,o+j,none⟩=some u)(y:AcV)(hy:y=p.1) :
  W.cell? ⟨b,o+k*16,none⟩=some (.int .i64 y.k)/\W.cell? ⟨b,o+k*16+1,none⟩=some (.int .i64 y.op.k)/\W.cell? ⟨b,o+k*16+2,none⟩=some (.string y.op.name)/\W.cell? ⟨b,o+k*16+3,none⟩=some (.string y.op.to)/\W.cell? ⟨b,o+k*16+4,none⟩=some (.slice y.op.ao y.op.an y.op.ac)/\W.cell? ⟨b,o+k*16+5,none⟩=some (.slice y.op.bo y.op.bn y.op.bc)/\W.cell? ⟨b,o+k*16+6,none⟩=some (.slice y.op.co y.op.cn y.op.cc)/\W.cell? ⟨b,o+k*16+7,none⟩=some (.int .i64 y.op.n)/\W.cell? ⟨b,o+k*16+8,none⟩=some (.slice y.bo y.bn y.bc)/\W.cell? ⟨b,o+k*16+9,none⟩=some (.int .u64 y.vi)/\W.cell? ⟨b,o+k*16+10,none⟩=some (.int .u64 y.cl)/\W.cell? ⟨b,o+k*16+11,none⟩=some (.int .u64 y.nu)/\W.cell? ⟨b,o+k*16+12,none⟩=some (.int .i64 y.rs.code)/\W.cell? ⟨b,o+k*16+13,none⟩=some (.bool y.rs.yes)/\W.cell? ⟨b,o+k*16+14,none⟩=some (.slice y.rs.eo y.rs.en y.rs.ec)/\W.cell? ⟨b,o+k*16+15,none⟩=some (.slice y.rs.co y.rs.cn y.rs.cc):=by
 subst hy;have A:∀i x,i<16->p.1.cells[i]?=some x->W.cell? ⟨b,o+k*16+i,none⟩=some x:=fun i x hi hx=>by
  rw[Nat.add_assoc];refine hc (k*16+i) x ?_;unfold I5;rw[FW (fun p:XP=>p.1.cells.toList) 16 (fun _=>rfl) l k p h i hi,<-hx];simp
 exact⟨A 0 _ (by decide) rfl,A 1 _ (by decide) rfl,A 2 _ (by decide) rfl,A 3 _ (by decide) rfl,A 4 _ (by decide) rfl,A 5 _ (by decide) rfl,A 6 _ (by decide) rfl,A 7 _ (by decide) rfl,A 8 _ (by decide) rfl,A 9 _ (by decide) rfl,A 10 _ (by decide) rfl,A 11 _ (by decide) rfl,A 12 _ (by decide) rfl,A 13 _ (by decide) rfl,A 14 _ (by decide) rfl,A 15 _ (by decide) rfl⟩
structure ActAt (W:World)(p:XP):Prop where
 a:Rd W 2 p.1.op.ao p.1.op.an p.1.op.ac (atV p.2.op.attrs)
 b:Rd W 1 p.1.op.bo p.1.op.bn p.1.op.bc (txV p.2.op.parts)
 c:Rd W 1 p.1.op.co p.1.op.cn p.1.op.cc (byV p.2.op.cursor)
 y:Rd W 1 p.1.bo p.1.bn p.1.bc (byV p.2.by_)
 e:EnAt W p.1.rs.eo p.1.rs.en p.1.rs.ec p.2.rs.ents
 q:Rd W 1 p.1.rs.co p.1.rs.cn p.1.rs.cc (byV p.2.rs.cursor)
 vi:0<=p.1.vi/\p.1.vi<18446744073709551616
 cl:0<=p.1.cl/\p.1.cl<18446744073709551616
 nu:0<=p.1.nu/\p.1.nu<18446744073709551616
structure ActsRd (W:World)(ao:Option Addr)(n cap:Nat)(l:List XP):Prop where
 rd:Rd W 16 ao n cap (I5 l)
 each:∀p∈l,ActAt W p
theorem ActsRd.len{ao:Option Addr}{n cap:Nat}{l:List XP}(h:ActsRd W ao n cap l):l.length=n:=by
 have:=h.rd.1;unfold I5 at this;rw[xZ (fun p:XP=>p.1.cells.toList) 16 (fun _=>rfl)] at this;omega
def kE (y:AcV):Bool:=!(decide (1100<(y.op.name.size:Int))||(decide (1100<(y.op.to.size:Int))||(decide (60<(y.op.an:Int))||(decide (10<(y.op.bn:Int))||(decide (4100<(y.op.cn:Int))||(decide (3000<(y.bn:Int))||(decide (10<(y.rs.en:Int))||(decide (4100<(y.rs.cn:Int))))))))))
def vU (l:List XP)(most:Int):Bool:=l.all (fun p=>kE p.1)&&decide ((l.length:Int)<=most)
theorem Oa{α:Type}(f:α->Bool)(l:List α)(k:Nat)(a:α)(h:l[k]?=some a):(l.take (k+1)).all f=((l.take k).all f&&f a):=by
 obtain⟨hl,e⟩:=yao.1 h;rw[yau hl,e,ycg];simp
theorem SS{α:Type}(f:α->Bool)(l:List α)(k:Nat)(a:α)(h:l[k]?=some a)(hf:f a=false):l.all f=false:=by
 cases he:l.all f with
 | false=>rfl
 | true=>rw[ybX.1 he a (yan h)] at hf;cases hf
theorem Sl(d1 d2 d3 d4 d5 d6 d7 d8:Bool):(d1=true)\/(d1=false/\d2=true)\/(d1=false/\d2=false/\d3=true)\/(d1=false/\d2=false/\d3=false/\d4=true)\/(d1=false/\d2=false/\d3=false/\d4=false/\d5=true)\/(d1=false/\d2=false/\d3=false/\d4=false/\d5=false/\d6=true)\/(d1=false/\d2=false/\d3=false/\d4=false/\d5=false/\d6=false/\d7=true)\/(d1=false/\d2=false/\d3=false/\d4=false/\d5=false/\d6=false/\d7=false/\d8=true)\/(d1=false/\d2=false/\d3=false/\d4=false/\d5=false/\d6=false/\d7=false/\d8=false):=by
 cases d1<;>cases d2<;>cases d3<;>cases d4<;>cases d5<;>cases d6<;>cases d7<;>cases d8<;>simp
theorem PM(ao:Option Addr)(n cap:Nat)(l:List XP)(most:Int)(w:World)(hA:ActsRd w ao n cap l):Calls Tryz.prog 8 #[.slice ao n cap,.int .i64 most] w (GivesB (vU l most) w):=by
 have LA:=hid hA.len;have hcap:n<=9223372036854775807:=by have:=hA.rd.2.1;have:=hA.rd.2.2.1;unfold maxLen at this;omega
 go_in;go_wp2_with fail;go_loopw [5] (fun p wr=>∃k:Nat,k<=n/\p=.int .i64 (k:Int)/\(l.take k).all (fun p=>kE p.1)=true/\Below w.heap.size w wr) (fun p _=>n-(intOf p).toNat)
 case atStart=>exact⟨0,yam _,rfl,rfl,yaj _ _⟩
 case round=>
  obtain⟨k,hk,rfl,hall,hbr⟩:=hrel;have HALL:=hid hall;clear hall;by_cases hkn:k<n
  ·obtain⟨b1,o1,rfl,hl1,hc1⟩:=hA.rd.some (by have:=hA.rd.le;omega);obtain⟨p,hu⟩:∃p,l[k]?=some p:=⟨_,yac (by rw[LA.out];exact hkn)⟩
   obtain⟨y,hy⟩:∃y,y=p.1:=⟨_,rfl⟩
   obtain⟨c0,c1,c2,c3,c4,c5,c6,c7,-⟩:=Ce l k p hu (W:=wr) (b:=b1) (o:=o1) (fun j x hj=>(hbr.cell (p:=⟨b1,o1+j,none⟩) hl1).trans (hc1 j x hj)) y hy;have HY:=hid hy;clear hy;have i0:(0:Int)<=(k:Int):=by omega
   have i1:(k:Int)<(n:Int):=by omega
   go_upto_region 5 with (refine zNr rfl ?_;go_simp);generalize hg:wr.alloc _=W1;have e1:wr.alloc y.op.box=W1:=hg;have hb1:=bE e1
   have q1:W1.heap[wr.heap.size]?=some y.op.box:=aE e1
   have hbr1:=hbr.trans (hb1.mono hbr.size);clear hg e1 c0 c1 c2 c3 c4 c5 c6 c7 hb1;obtain⟨-,g1,g2,g3,g4,g5,-⟩:=aC q1;obtain⟨-,-,-,-,-,-,-,-,c8,-,-,-,-,-,c14,c15⟩:=Ce l k p hu (W:=W1) (b:=b1) (o:=o1) (fun j x hj=>(hbr1.cell (p:=⟨b1,o1+j,none⟩) hl1).trans (hc1 j x hj)) y HY.out;have HS:Hid (kE p.1=kE y):=hid (by rw[HY.out]);have HB:=hid hbr1;clear hbr hbr1 q1 HY;obtain⟨d1,hd1⟩:∃d,decide (1100<(y.op.name.size:Int))=d:=⟨_,rfl⟩
   obtain⟨d2,hd2⟩:∃d,decide (1100<(y.op.to.size:Int))=d:=⟨_,rfl⟩
   obtain⟨d3,hd3⟩:∃d,decide (60<(y.op.an:Int))=d:=⟨_,rfl⟩
   obtain⟨d4,hd4⟩:∃d,decide (10<(y.op.bn:Int))=d:=⟨_,rfl⟩
   obtain⟨d5,hd5⟩:∃d,decide (4100<(y.op.cn:Int))=d:=⟨_,rfl⟩
   obtain⟨d6,hd6⟩:∃d,decide (3000<(y.bn:Int))=d:=⟨_,rfl⟩
   obtain⟨d7,hd7⟩:∃d,decide (10<(y.rs.en:Int))=d:=⟨_,rfl⟩
   obtain⟨d8,hd8⟩:∃d,decide (4100<(y.rs.cn:Int))=d:=⟨_,rfl⟩
   have HD:Hid (kE p.1=!(d1||(d2||(d3||(d4||(d5||(d6||(d7||(d8))))))))):=hid (by rw[HS.out];unfold kE;rw[hd1,hd2,hd3,hd4,hd5,hd6,hd7,hd8]);clear HS;go_cut [74] from 7 to 74 (fun v wk=>v=.bool (d1||(d2||(d3||(d4||(d5||(d6||(d7||(d8))))))))/\Below w.heap.size w wk)
   case first=>
    rcases Sl d1 d2 d3 d4 d5 d6 d7 d8 with rfl | ⟨rfl,rfl⟩ | ⟨rfl,rfl,rfl⟩ | ⟨rfl,rfl,rfl,rfl⟩ | ⟨rfl,rfl,rfl,rfl,rfl⟩ | ⟨rfl,rfl,rfl,rfl,rfl,rfl⟩ | ⟨rfl,rfl,rfl,rfl,rfl,rfl,rfl⟩ | ⟨rfl,rfl,rfl,rfl,rfl,rfl,rfl,rfl⟩ | ⟨rfl,rfl,rfl,rfl,rfl,rfl,rfl,rfl⟩
    all_goals
     go_wp2_with fail;go_meet
     case rel=>exact⟨by simp,HB.out⟩
   obtain⟨rfl,hbr2⟩:=hcut;clear hd1 hd2 hd3 hd4 hd5 hd6 hd7 hd8 c8 c14 c15 g1 g2 g3 g4 g5;generalize (d1||(d2||(d3||(d4||(d5||(d6||(d7||(d8))))))))=D at *;cases D with
   | true=>
    have HF:Hid (vU l most=false):=hid (by unfold vU;rw[SS _ l k p hu (by rw[HD.out];rfl)];rfl);go_wp2_with fail;go_ret;exact⟨by rw[HF.out];rfl,hbr2⟩
   | false=>
    have HN:Hid ((l.take (k+1)).all (fun p=>kE p.1)=true):=hid (by rw[Oa _ l k p hu,HALL.out,HD.out];rfl);go_wp2_with fail;go_roundw
    case rel=>exact⟨k+1,by omega,by go_num,HN.out,hbr2⟩
    case measure=>simp[intOf];omega
  have hkn2:k=n:=by omega
  subst hkn2;have HV:Hid (vU l most=decide ((k:Int)<=most)):=hid (by
   have:=HALL.out;rw[yak (by rw[LA.out];omega)] at this;unfold vU;rw[this,LA.out];rfl)
  go_wp2_with fail;go_ret;exact⟨by rw[HV.out];rfl,hbr⟩
