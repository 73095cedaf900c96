/-A part of the proof.-/
import Derived.Lib.OthersKept
import Derived.Test.YtfmmandlmbcncaaGreatDoorKfag
import Derived.Test.YtfmmandlmbcncaaGreatDoorKfad
set_option maxHeartbeats 40000000
set_option maxRecDepth 100000
set_option linter.all false
namespace Go.Proofs.YtfmmandlmbcncaaGreatDoor
namespace Msg
open Go.RowKit Go.Lib Mem
variable{W:World}{b i j:Nat}{v:OV}{x:Value}
def bP (l:List UInt8)(v:OV):OV:=
 ⟨v.k,if 110∈l then v.name else ⟨#[]⟩,if 116∈l then v.to else ⟨#[]⟩,if 97∈l then v.ao else none,if 97∈l then v.an else 0,if 97∈l then v.ac else 0,
  if 112∈l then v.bo else none,if 112∈l then v.bn else 0,if 112∈l then v.bc else 0,if 99∈l then v.co else none,if 99∈l then v.cn else 0,if 99∈l then v.cc else 0,if 107∈l then v.n else 0⟩
def iQ (l:List UInt8)(c:OC):OC:=⟨if 97∈l then c.attrs else [],if 112∈l then c.parts else [],if 99∈l then c.cursor else []⟩
theorem FI{c:OC}(h:OpAt W v c)(l:List UInt8):OpAt W (bP l v) (iQ l c):=by
 obtain⟨a,b,d,la,lb,lc⟩:=h;unfold bP iQ;refine⟨?_,?_,?_,?_,?_,?_⟩
 ·by_cases h:(97:UInt8)∈l
  ·simp only[if_pos h];exact a
  simp only[if_neg h];exact Rd.nil _ _
 ·by_cases h:(112:UInt8)∈l
  ·simp only[if_pos h];exact b
  simp only[if_neg h];exact Rd.nil _ _
 ·by_cases h:(99:UInt8)∈l
  ·simp only[if_pos h];exact d
  simp only[if_neg h];exact Rd.nil _ _
 ·dsimp only;split<;>omega
 ·dsimp only;split<;>omega
 dsimp only;split<;>omega
theorem letters(k:Int)(j:Nat)(c:UInt8)(h:(fieldsOf k)[j]?=some c):c=110\/c=116\/c=97\/c=112\/c=99\/c=107:=by
 have hm:=yan h;unfold fieldsOf at hm
 repeat' split at hm
 all_goals simp only[yas,yal,or_false] at hm
 all_goals first | (rcases hm with rfl|rfl|rfl<;>simp) | (rcases hm with rfl|rfl<;>simp) | (subst hm;simp)
theorem uz(k:Int):(fieldsOf k).length<=3:=by
 unfold fieldsOf
 repeat' split
 all_goals simp
theorem at_set{cs:Array Value}{t:TypeId}{fr:Nat×Nat}(h:W.heap[b]?=some (.cells cs t fr)):(W.setCell ⟨b,i,none⟩ x).heap[b]?=some (.cells (cs.setIfInBounds i x) t fr):=by
 have hlt:=lA h;have h2:=(ybA.1 h).2;simp only[World.setCell,ybt,Array.size_modify,hlt,ycd,h2];rfl
theorem ah{o:Obj}(h:W.heap[j]?=some o)(hne:j≠b):(W.setCell ⟨b,i,none⟩ x).heap[j]?=some o:=(yaA W ⟨b,i,none⟩ x j hne).trans h
structure BareAt (w:World)(it:Nat)(v:OV)(j:Nat)(wr:World):Prop where
 bel:Below w.heap.size w wr
 h1:wr.heap[w.heap.size]?=some v.box
 h2:wr.heap[w.heap.size+1]?=some (bP [] ⟨0,⟨#[]⟩,⟨#[]⟩,none,0,0,none,0,0,none,0,0,0⟩).box
 h3:wr.heap[w.heap.size+1+1]?=some (bP ((fieldsOf v.k).take j) v).box
 hi:wr.heap[it]?=some (.stringIter ⟨(fieldsOf v.k).toArray⟩ j)
theorem BareAt.next{w wr:World}{it:Nat}{c:UInt8}(h:BareAt w it v j wr)(hit:w.heap.size+1+1<it)(hc:(fieldsOf v.k)[j]?=some c)(i:Nat)(x:Value)
  (hx:∀l:List UInt8,(match (bP l v).box with | .cells cs t fr=>Obj.cells (cs.setIfInBounds i x) t fr | o=>o)=(bP (l++[c]) v).box) :
  BareAt w it v (j+1) ((wr.iterAt it ⟨(fieldsOf v.k).toArray⟩ (j+1)).setCell ⟨w.heap.size+1+1,i,none⟩ x):=by
 obtain⟨bel,h1,h2,h3,hi⟩:=h;obtain⟨hlt,he⟩:=yao.1 hc;refine⟨(below_iterAt bel (by omega) _ _).setCell (p:=⟨w.heap.size+1+1,i,none⟩) (by dsimp only;omega) _,ah ((iterAt_other _ _ _ _ _ (by omega)).trans h1) (by omega),ah ((iterAt_other _ _ _ _ _ (by omega)).trans h2) (by omega),?_,ah (iterAt_heap _ _ _ _ _ hi) (by omega)⟩;have:=at_set (i:=i) (x:=x) ((iterAt_other wr it (w.heap.size+1+1) ⟨(fieldsOf v.k).toArray⟩ (j+1) (by omega)).trans h3);rw[yau hlt,he,<-hx];exact this
def Sv (v:OV)(w:World)(e:Ending)(w':World):Prop:=e=.returned v.val/\Below w.heap.size w w'
theorem aC{B:Nat}(h:W.heap[B]?=some v.box):W.cell? ⟨B,0,none⟩=some (.int .i64 v.k)/\W.cell? ⟨B,1,none⟩=some (.string v.name)/\W.cell? ⟨B,2,none⟩=some (.string v.to)/\W.cell? ⟨B,3,none⟩=some (.slice v.ao v.an v.ac)/\W.cell? ⟨B,4,none⟩=some (.slice v.bo v.bn v.bc)/\W.cell? ⟨B,5,none⟩=some (.slice v.co v.cn v.cc)/\W.cell? ⟨B,6,none⟩=some (.int .i64 v.n)/\∀i,W.frozen? ⟨B,i,none⟩=false:=by
 unfold OV.box at h;simp[World.cell?,World.frozen?,h]
theorem dm{P:Program}(wr:World)(it:Nat)(l:List UInt8)(j:Nat)(c:UInt8)(ty:TypeId)(hi:wr.heap[it]?=some (.stringIter ⟨l.toArray⟩ j))(hc:l[j]?=some c)(h:c.toNat<128) :
  (Instr.next (.pointer (some ⟨it,0,none⟩)) true ty).run P wr=.ok (.tuple #[.bool true,.int .i64 j,.int .i32 (c.toNat:Int)]) (wr.iterAt it ⟨l.toArray⟩ (j+1)):=by
 obtain⟨hlt,he⟩:=yao.1 hc;have e:(⟨l.toArray⟩:ByteArray)[j]'hlt=c:=he;rw[run_next_ascii_at wr it ⟨l.toArray⟩ j ty hi hlt (by rw[e];exact h),e]
theorem zu{f:Func}{tmps:Array Value}(hr:f.results=#[.cell i 36])(hp:tmps.getD i undef=.pointer (some ⟨b,0,none⟩))(h:W.heap[b]?=some v.box):(results f tmps).run Tryz.prog W=.ok v.val W:=by
 obtain⟨c0,c1,c2,c3,c4,c5,c6,-⟩:=aC h;simp only[results,hr];have hp':tmps[i]?.getD undef=.pointer (some ⟨b,0,none⟩):=by simpa using hp
 unfold OV.val;simp[hp',asAddr];go_simp
def zeroV:OV:=⟨0,⟨#[]⟩,⟨#[]⟩,none,0,0,none,0,0,none,0,0,0⟩
theorem rO(w:World)(o p q:Obj):(((w.alloc o).alloc p).alloc q).heap[w.heap.size]?=some o/\(((w.alloc o).alloc p).alloc q).heap[w.heap.size+1]?=some p/\(((w.alloc o).alloc p).alloc q).heap[w.heap.size+1+1]?=some q:=by
 obtain⟨h1,h2⟩:=dh w o p;have hs:((w.alloc o).alloc p).heap.size=w.heap.size+1+1:=by simp
 refine⟨(((yaj _ _).alloc (yag _) q).block _ (by omega)).trans h1,(((yaj _ _).alloc (yag _) q).block _ (by omega)).trans h2,?_⟩;show (((w.alloc o).alloc p).heap.push q)[w.heap.size+1+1]?=some q;rw[<-hs];exact ybH
theorem rW(w:World)(o p q:Obj):Below w.heap.size w (((w.alloc o).alloc p).alloc q):=(cu w o p).alloc (by simp<;>omega) _
theorem Nj(v:OV)(w:World):Calls Tryz.prog 77 #[v.val] w (Sv (bP (fieldsOf v.k) v) w):=by
 have hb0:Below w.heap.size w (((w.alloc v.box).alloc zeroV.box).alloc (bP [] v).box):=rW w _ _ _;obtain⟨k1,k2,k3⟩:=rO w v.box zeroV.box (bP [] v).box;have hz:(((w.alloc v.box).alloc zeroV.box).alloc (bP [] v).box).heap.size=w.heap.size+1+1+1:=by simp
 have hf:=fun W=>oN v.k W;have hus:Tryz.prog.underlying 9=some .string:=Tryz.underlying9;have hl3:=uz v.k;unfold OV.val;go_in;go_wp2_with fail;refine (hf _).mono ?_;rintro e w1 ⟨rfl,hb1⟩;have hb2:=hb0.trans (hb1.mono hb0.size);have q1:=(hb1.block w.heap.size (Nat.lt_of_lt_of_eq (by omega) hz.symm)).trans k1;have q2:=(hb1.block (w.heap.size+1) (Nat.lt_of_lt_of_eq (by omega) hz.symm)).trans k2;have q3:=(hb1.block (w.heap.size+1+1) (Nat.lt_of_lt_of_eq (by omega) hz.symm)).trans k3;have hz1:w.heap.size+1+1+1<=w1.heap.size:=yae (yaR hz.symm) hb1.size;have hr:=run_range_string (P:=Tryz.prog) w1 9 ⟨(fieldsOf v.k).toArray⟩ hus;go_wp2_with fail;go_loopw [] (fun wr=>∃j,BareAt w w1.heap.size v j wr) (fun wr=>(fieldsOf v.k).length-wr.iterPos w1.heap.size)
 case atStart=>
  have hbi:Below w1.heap.size w1 (w1.iter ⟨(fieldsOf v.k).toArray⟩ 0):=bN _ _;exact⟨0,hb2.trans (hbi.mono hb2.size),(hbi.block _ (by omega)).trans q1,(hbi.block _ (by omega)).trans q2,(hbi.block _ (by omega)).trans q3,aN _ _⟩
 case round=>
  obtain⟨j,hB⟩:=hrel;by_cases hj:j<(fieldsOf v.k).length
  ·obtain⟨c,hc⟩:∃c,(fieldsOf v.k)[j]?=some c:=⟨_,yac hj⟩
   have hcl:=letters v.k j c hc;have hm:wr.iterPos w1.heap.size=j:=by simp[World.iterPos,hB.hi]
   have hw1:w.heap.size+1+1<w1.heap.size:=by omega
   have b1:(wr.iterAt w1.heap.size ⟨(fieldsOf v.k).toArray⟩ (j+1)).heap[w.heap.size]?=some v.box:=(iterAt_other _ _ _ _ _ (by omega)).trans hB.h1;have b3:(wr.iterAt w1.heap.size ⟨(fieldsOf v.k).toArray⟩ (j+1)).heap[w.heap.size+1+1]?=some (bP ((fieldsOf v.k).take j) v).box:=(iterAt_other _ _ _ _ _ (by omega)).trans hB.h3;obtain⟨-,c1,c2,c3,c4,c5,c6,-⟩:=aC b1;obtain⟨-,d1,d2,d3,d4,d5,d6,d7⟩:=aC b3;rcases hcl with rfl|rfl|rfl|rfl|rfl|rfl
   ·have hn:=fun ty=>dm (P:=Tryz.prog) wr w1.heap.size (fieldsOf v.k) j 110 ty hB.hi hc (by decide);have hN:=hB.next hw1 hc 1 (.string v.name) (fun l=>by simp[bP,OV.box]);go_wp2_with fail;go_roundw
    case rel=>exact⟨j+1,hN⟩
    case measure=>rw[hm];simp[World.iterPos,hN.hi];omega
   ·have hn:=fun ty=>dm (P:=Tryz.prog) wr w1.heap.size (fieldsOf v.k) j 116 ty hB.hi hc (by decide);have hN:=hB.next hw1 hc 2 (.string v.to) (fun l=>by simp[bP,OV.box]);go_wp2_with fail;go_roundw
    case rel=>exact⟨j+1,hN⟩
    case measure=>rw[hm];simp[World.iterPos,hN.hi];omega
   ·have hn:=fun ty=>dm (P:=Tryz.prog) wr w1.heap.size (fieldsOf v.k) j 97 ty hB.hi hc (by decide);have hN:=hB.next hw1 hc 3 (.slice v.ao v.an v.ac) (fun l=>by simp[bP,OV.box]);go_wp2_with fail;go_roundw
    case rel=>exact⟨j+1,hN⟩
    case measure=>rw[hm];simp[World.iterPos,hN.hi];omega
   ·have hn:=fun ty=>dm (P:=Tryz.prog) wr w1.heap.size (fieldsOf v.k) j 112 ty hB.hi hc (by decide);have hN:=hB.next hw1 hc 4 (.slice v.bo v.bn v.bc) (fun l=>by simp[bP,OV.box]);go_wp2_with fail;go_roundw
    case rel=>exact⟨j+1,hN⟩
    case measure=>rw[hm];simp[World.iterPos,hN.hi];omega
   ·have hn:=fun ty=>dm (P:=Tryz.prog) wr w1.heap.size (fieldsOf v.k) j 99 ty hB.hi hc (by decide);have hN:=hB.next hw1 hc 5 (.slice v.co v.cn v.cc) (fun l=>by simp[bP,OV.box]);go_wp2_with fail;go_roundw
    case rel=>exact⟨j+1,hN⟩
    case measure=>rw[hm];simp[World.iterPos,hN.hi];omega
   have hn:=fun ty=>dm (P:=Tryz.prog) wr w1.heap.size (fieldsOf v.k) j 107 ty hB.hi hc (by decide);have hN:=hB.next hw1 hc 6 (.int .i64 v.n) (fun l=>by simp[bP,OV.box]);go_wp2_with fail;go_roundw
   case rel=>exact⟨j+1,hN⟩
   case measure=>rw[hm];simp[World.iterPos,hN.hi];omega
  have hn:=fun ty=>run_next_end_at (P:=Tryz.prog) wr w1.heap.size ⟨(fieldsOf v.k).toArray⟩ j ty hB.hi hj;have h3:=hB.h3;rw[yak (by omega)] at h3;obtain⟨u,hu⟩:∃u,bP (fieldsOf v.k) v=u:=⟨_,rfl⟩
  rw[hu] at h3;have Hu:=hid hu;clear hu;obtain⟨d0,d1,d2,d3,d4,d5,d6,-⟩:=aC h3;obtain⟨e0,e1,e2,e3,e4,e5,e6,e7⟩:=aC hB.h2;clear h3;go_wp2_with fail;have hW:(((((((wr.setCell ⟨w.heap.size+1,0,none⟩ (.int .i64 u.k)).setCell ⟨w.heap.size+1,1,none⟩ (.string u.name)).setCell ⟨w.heap.size+1,2,none⟩ (.string u.to)).setCell ⟨w.heap.size+1,3,none⟩ (.slice u.ao u.an u.ac)).setCell ⟨w.heap.size+1,4,none⟩ (.slice u.bo u.bn u.bc)).setCell ⟨w.heap.size+1,5,none⟩ (.slice u.co u.cn u.cc)).setCell ⟨w.heap.size+1,6,none⟩ (.int .i64 u.n)).heap[w.heap.size+1]?=some u.box:=
   at_set (at_set (at_set (at_set (at_set (at_set (at_set hB.h2))))))
  have hlow:∀i,w.heap.size<=(⟨w.heap.size+1,i,none⟩:Addr).block:=fun i=>by dsimp only;omega
  refine yay (zu (i:=2) rfl rfl hW) rfl ⟨by rw[Hu.out],?_⟩;exact ((((((hB.bel.setCell (hlow 0) _).setCell (hlow 1) _).setCell (hlow 2) _).setCell (hlow 3) _).setCell (hlow 4) _).setCell (hlow 5) _).setCell (hlow 6) _
end Msg
namespace Msg
open Go.RowKit Go.Lib Mem Utf
variable{W w:World}{v:OV}
def aT (x:ByteArray):Bool:=decide (x.size<=1000)&&decide (wh x.data.toList=x.size)
def gp (n:Int):Bool:=decide (97<=n)&&decide (n<=122)
def iy (n:Int):Bool:=gp n||n==45||(decide (48<=n)&&decide (n<=57))
def eH (x:ByteArray):Bool:=decide (1<=x.size)&&decide (x.size<=32)&&gp (bt x.data.toList 0)&&x.data.toList.all fun c=>iy (c.toNat:Int)
def aQ (x:ByteArray×ByteArray):Bool:=eH x.1&&aT x.2
theorem rU(x:ByteArray)(w:World):Calls Tryz.prog 74 #[.string x] w (GivesB (aT x) w):=by
 by_cases h:x.size<=1000
 ·have f1:decide ((x.size:Int)<=1000)=true:=by simp;omega
  have hv:=KX x w (by omega);go_in;go_wp2_with fail;refine hv.mono ?_;rintro e w1 ⟨rfl,hb1⟩;go_wp2_with fail;go_ret;exact⟨by simp[aT,h],hb1⟩
 have f1:decide ((x.size:Int)<=1000)=false:=by simp;omega
 go_in;go_wp2_with fail;go_ret;exact⟨by simp[aT,h],yaj _ _⟩
theorem zN(x:ByteArray)(w:World):Calls Tryz.prog 73 #[.string x] w (GivesB (!aT x) w):=by
 go_in;go_wp2_with fail;refine (rU _ _).mono ?_;rintro e w1 ⟨rfl,hb1⟩;go_wp2_with fail;go_ret;exact⟨rfl,hb1⟩
theorem AQ(n:Int)(w:World):Calls Tryz.prog 152 #[.int .u8 n] w fun e w'=>e=.returned (.bool (gp n))/\w'=w:=by
 by_cases h:97<=n
 ·have f1:decide (97<=n)=true:=by simp[h]
  have f2:gp n=decide (n<=122):=by simp[gp,h]
  rw[f2];clear f2 h;go_in;go_wp2_with fail;go_ret;exact⟨rfl,rfl⟩
 have f1:decide (97<=n)=false:=by simp;omega
 have f2:gp n=false:=by simp[gp,h]
 rw[f2];clear f2 h;go_in;go_wp2_with fail;go_ret;exact⟨rfl,rfl⟩
def jd (l:List UInt8)(k:Nat):Bool:=gp (bt l 0)&&(l.take k).all fun c=>iy (c.toNat:Int)
theorem Gw(l:List UInt8)(k:Nat)(h:k<l.length):jd l (k+1)=(jd l k&&iy (bt l k)):=by
 have e:bt l k=((l[k]).toNat:Int):=by simp[bt,yaW,yac h]
 simp only[jd,yau h,ycg,e,List.all_cons,List.all_nil,Bool.and_true,Bool.and_assoc]
theorem ES(x:ByteArray)(h1:1<=x.size)(h2:x.size<=32):eH x=jd x.data.toList x.size:=by
 have ht:x.data.toList.take x.size=x.data.toList:=yak (yaR (dI x));unfold eH jd;rw[ht,yaa h1,yaa h2,yaX,yaX]
theorem EI(x:ByteArray)(w:World):Calls Tryz.prog 117 #[.string x] w fun e w'=>e=.returned (.bool (eH x))/\w'=w:=by
 by_cases h1:1<=x.size
 ·by_cases h2:x.size<=32
  ·have h0:=hid (tJ x 0 (by omega));have Hm:=hid (ES x h1 h2);have f1:decide ((1:Int)<=(x.size:Int))=true:=by simp;omega
   have f2:decide ((x.size:Int)<=32)=true:=by simp;omega
   go_in;go_wp2_with fail;rw[h0.out];refine (AQ _ _).mono ?_;rintro e w1 ⟨rfl,rfl⟩;have Hg:Hid (gp (bt x.data.toList 0)=jd x.data.toList 0):=hid (by simp[jd]);rw[Hg.out];go_wp2_with fail;go_loopw [4,26] (fun g p wr=>∃k:Nat,k<=x.size/\g=.bool (jd x.data.toList k)/\p=.int .i64 (k:Int)/\wr=w1) (fun _ p _=>x.size-(intOf p).toNat)
   case atStart=>exact⟨0,yam _,rfl,rfl,rfl⟩
   case round=>
    obtain⟨k,hk,rfl,rfl,rfl⟩:=hrel;by_cases hkn:k<x.size
    ·have hk0:=hid (tJ x k hkn);have Hn:=hid (Gw x.data.toList k hkn);by_cases hg:jd x.data.toList k=true
     ·rw[hg];go_wp2_with fail;rw[hk0.out];refine (AQ _ _).mono ?_;rintro e w2 ⟨rfl,rfl⟩;obtain⟨c,hc⟩:∃c,bt x.data.toList k=c:=⟨_,rfl⟩
      rw[hc];have Hn2:Hid (jd x.data.toList (k+1)=iy c):=hid (by rw[Hn.out,hg,hc,yaX]);clear Hn;by_cases hs:gp c=true
      ·have Hs:Hid (jd x.data.toList (k+1)=true):=hid (by rw[Hn2.out];simp[iy,hs]);rw[hs];go_wp2_with fail;go_roundw
       case rel=>exact⟨k+1,by omega,congrArg Value.bool Hs.out.symm,by go_num,trivial⟩
       case measure=>simp[intOf];omega
      have hs2:gp c=false:=by simpa using hs
      rw[hs2];by_cases h45:c=45
      ·have Hs:Hid (jd x.data.toList (k+1)=true):=hid (by rw[Hn2.out];simp[iy,h45]);have f3:(c==45)=true:=by simp[h45]
       clear h45;go_wp2_with fail;go_roundw
       case rel=>exact⟨k+1,by omega,congrArg Value.bool Hs.out.symm,by go_num,trivial⟩
       case measure=>simp[intOf];omega
      have f3:(c==45)=false:=by simp[h45]
      by_cases h48:48<=c
      ·have Hs:Hid (jd x.data.toList (k+1)=decide (c<=57)):=hid (by rw[Hn2.out];simp[iy,hs2,h45,h48]);have f4:decide (48<=c)=true:=by simp[h48]
       clear h48 h45;go_wp2_with fail;go_roundw
       case rel=>exact⟨k+1,by omega,congrArg Value.bool Hs.out.symm,by go_num,trivial⟩
       case measure=>simp[intOf];omega
      have Hs:Hid (jd x.data.toList (k+1)=false):=hid (by rw[Hn2.out];simp[iy,hs2,h45,h48]);have f4:decide (48<=c)=false:=by simp;omega
      clear h48 h45;go_wp2_with fail;go_roundw
      case rel=>exact⟨k+1,by omega,congrArg Value.bool Hs.out.symm,by go_num,trivial⟩
      case measure=>simp[intOf];omega
     have hg2:jd x.data.toList k=false:=by simpa using hg
     have Hs:Hid (jd x.data.toList (k+1)=false):=hid (by rw[Hn.out,hg2,Bool.false_and]);rw[hg2];go_wp2_with fail;go_roundw
     case rel=>exact⟨k+1,by omega,congrArg Value.bool Hs.out.symm,by go_num,trivial⟩
     case measure=>simp[intOf];omega
    have hke:k=x.size:=by omega
    subst hke;have f5:decide ((0:Int)<(x.size:Int))=true:=by simp;omega
    by_cases hg:jd x.data.toList x.size=true
    ·rw[hg];go_wp2_with fail;go_ret;exact⟨by rw[Hm.out,hg];rfl,rfl⟩
    have hg2:jd x.data.toList x.size=false:=by simpa using hg
    rw[hg2];go_wp2_with fail;go_ret;exact⟨by rw[Hm.out,hg2];rfl,rfl⟩
  have Hm:Hid (eH x=false):=hid (by simp[eH,h2]);have f1:decide ((1:Int)<=(x.size:Int))=true:=by simp;omega
  have f2:decide ((x.size:Int)<=32)=false:=by simp;omega
  have f3:((x.size:Int)==0)=false:=yap.2 (by omega);go_in;go_wp2_with fail;go_ret;exact⟨by rw[Hm.out];rfl,rfl⟩
 have h0:x.size=0:=by omega
 have Hm:Hid (eH x=false):=hid (by simp[eH,h1]);have f1:decide ((1:Int)<=(x.size:Int))=false:=by simp;omega
 have f3:((x.size:Int)==0)=true:=beq_iff_eq.2 (by omega);have f4:decide ((0:Int)<(x.size:Int))=false:=yad (by omega);go_in;go_wp2_with fail;go_loopw [4,26] (fun g p wr=>g=.bool true/\p=.int .i64 0/\wr=w) (fun _ p _=>0)
 case atStart=>exact⟨rfl,rfl,rfl⟩
 case round=>
  obtain⟨rfl,rfl,rfl⟩:=hrel;go_wp2_with fail;go_ret;exact⟨by rw[Hm.out];rfl,rfl⟩
theorem lI(x:ByteArray×ByteArray)(w:World):Calls Tryz.prog 72 #[.agg #[.string x.1,.string x.2]] w (GivesB (aQ x) w):=by
 have hb0:=bN w (.cells #[.string x.1,.string x.2] 106);go_in;go_wp2_with fail;refine (EI _ _).mono ?_;rintro e w1 ⟨rfl,rfl⟩;by_cases h:eH x.1=true
 ·rw[h];go_wp2_with fail;refine (rU _ _).mono ?_;rintro e w1 ⟨rfl,hb1⟩;have Hs:Hid (aQ x=aT x.2):=hid (by simp[aQ,h]);go_wp2_with fail;go_ret;exact⟨by rw[Hs.out];rfl,hb0.trans (hb1.mono hb0.size)⟩
 have h2:eH x.1=false:=by simpa using h
 rw[h2];have Hs:Hid (aQ x=false):=hid (by simp[aQ,h2]);go_wp2_with fail;go_ret;exact⟨by rw[Hs.out];rfl,hb0⟩
theorem Pv(x:ByteArray×ByteArray)(w:World):Calls Tryz.prog 71 #[.agg #[.string x.1,.string x.2]] w (GivesB (!aQ x) w):=by
 have hb0:=bN w (.cells #[.string x.1,.string x.2] 106);go_in;go_wp2_with fail;refine (lI _ _).mono ?_;rintro e w1 ⟨rfl,hb1⟩;go_wp2_with fail;go_ret;exact⟨rfl,hb0.trans (hb1.mono hb0.size)⟩
theorem Ia(x:ByteArray)(w:World)(hs:x.size<=1000):Calls Tryz.prog 82 #[.string x] w (GivesB (decide (wh x.data.toList=x.size)) w):=by
 have hd:=EG x w (by omega);go_in;go_wp2_with fail;refine hd.mono ?_;rintro e w1 ⟨ao,cap,rfl,-,hb1⟩;by_cases h:wh x.data.toList=x.size
 ·have h2:((wh x.data.toList:Int)==(x.size:Int))=true:=by simp[h]
  have h3:decide (wh x.data.toList=x.size)=true:=yaa h;have H3:=hid h3;clear h hd h3;go_wp2_with fail;go_ret;exact⟨by rw[H3.out];rfl,hb1⟩
 have h2:((wh x.data.toList:Int)==(x.size:Int))=false:=by simp;omega
 have h3:decide (wh x.data.toList=x.size)=false:=yad h;have H3:=hid h3;clear h hd h3;go_wp2_with fail;go_ret;exact⟨by rw[H3.out];rfl,hb1⟩
theorem kU(x:ByteArray)(w:World):Calls Tryz.prog 47 #[.string x] w (GivesB (aT x) w):=by
 by_cases h:x.size<=1000
 ·have hv:=Ia x w h;have f1:decide ((x.size:Int)<=1000)=true:=yaa (by omega);have H:Hid (aT x=decide (wh x.data.toList=x.size)):=hid (by unfold aT;rw[yaa h,yaX]);clear h;go_in;go_wp2_with fail;refine hv.mono ?_;rintro e w1 ⟨rfl,hb1⟩;go_wp2_with fail;go_ret;exact⟨by rw[H.out];rfl,hb1⟩
 have f1:decide ((x.size:Int)<=1000)=false:=yad (by omega);have H:Hid (aT x=false):=hid (by unfold aT;rw[yad h,Bool.false_and]);clear h;go_in;go_wp2_with fail;go_ret;exact⟨by rw[H.out];rfl,yaj _ _⟩
theorem TB(x:ByteArray)(k:Nat)(h:k<x.size):∃c∈x.data.toList,(c.toNat:Int)=bt x.data.toList k:=by
 have hl:k<x.data.toList.length:=by rw[dI];exact h
 exact⟨x.data.toList[k],ybK hl,by simp[bt,yaW,yac hl]⟩
theorem IW(x:ByteArray)(k:Nat)(h:k<x.size)(hc:iy (bt x.data.toList k)=false):eH x=false:=by
 obtain⟨c,hm,e⟩:=TB x k h;unfold eH;rw[show (x.data.toList.all fun c=>iy (c.toNat:Int))=false from by
  rw[ycw];exact⟨c,hm,by rw[e,hc];decide⟩,Bool.and_false]
theorem kN(x:ByteArray×ByteArray)(w:World):Calls Tryz.prog 48 #[.agg #[.string x.1,.string x.2]] w (GivesB (aQ x) w):=by
 have hb0:=bN w (.cells #[.string x.1,.string x.2] 106);by_cases h1:x.1.size<1
 ·have f1:decide ((x.1.size:Int)<1)=true:=yaa (by omega);have H:Hid (aQ x=false):=hid (by unfold aQ eH;rw[yad (by omega:¬1<=x.1.size)];simp);clear h1;go_in;go_wp2_with fail;go_ret;exact⟨by rw[H.out];rfl,hb0⟩
 have f1:decide ((x.1.size:Int)<1)=false:=yad (by omega);by_cases h2:32<x.1.size
 ·have f2:decide ((32:Int)<(x.1.size:Int))=true:=yaa (by omega);have H:Hid (aQ x=false):=hid (by unfold aQ eH;rw[yad (by omega:¬x.1.size<=32)];simp);clear h1 h2;go_in;go_wp2_with fail;go_ret;exact⟨by rw[H.out];rfl,hb0⟩
 have f2:decide ((32:Int)<(x.1.size:Int))=false:=yad (by omega);have s0:0<x.1.size:=by omega
 have s1:x.1.size<=32:=by omega
 clear h1 h2;have e0:=tJ x.1 0 s0;have p0:decide ((0:Int)<(x.1.size:Int))=true:=yaa (by omega);have p1:(0:Int)<(x.1.size:Int):=by omega
 obtain⟨c0,hc0⟩:∃c0,bt x.1.data.toList 0=c0:=⟨_,rfl⟩
 rw[hc0] at e0;by_cases h3:97<=c0
 ·have f3:decide (c0<97)=false:=yad (by omega);by_cases h4:c0<=122
  ·have f4:decide (122<c0)=false:=yad (by omega);have hm2:Hid (eH x.1=x.1.data.toList.all fun c=>iy (c.toNat:Int)):=hid (by
    unfold eH gp;rw[hc0,yaa h3,yaa h4,yaa (by omega:1<=x.1.size),yaa s1];simp)
   clear h3 h4 hc0;go_in;go_wp2_with fail;refine (kU _ _).mono ?_;rintro e w1 ⟨rfl,hb1⟩;have k1:w1.heap[w.heap.size]?=some (.cells #[.string x.1,.string x.2] 106):=(hb1.block _ (by simp)).trans (aN _ _);have c0:w1.cell? ⟨w.heap.size,0,none⟩=some (.string x.1):=by simp[World.cell?,k1]
   have hB:=hb0.trans (hb1.mono hb0.size);clear k1 hb1 hb0;by_cases hn:aT x.2=true
   ·rw[hn];have hm3:Hid (aQ x=eH x.1):=hid (by unfold aQ;rw[hn,Bool.and_true]);clear hn;go_wp2_with fail;go_loopw [3] (fun p wr=>∃k:Nat,k<=x.1.size/\p=.int .i64 (k:Int)/\wr=w1/\(x.1.data.toList.take k).all (fun c=>iy (c.toNat:Int))=true) (fun p _=>x.1.size-(intOf p).toNat)
    case atStart=>exact⟨0,yam _,rfl,rfl,rfl⟩
    case round=>
     obtain⟨k,hk,rfl,rfl,ht⟩:=hrel;by_cases hkn:k<x.1.size
     ·have ek:=tJ x.1 k hkn;have q1:decide ((k:Int)<(x.1.size:Int))=true:=yaa (by omega);have hw:IntKind.wrap .i64 ((k:Int)+1)=(k:Int)+1:=by rw[yaP];omega
      obtain⟨c,hc⟩:∃c,bt x.1.data.toList k=c:=⟨_,rfl⟩
      rw[hc] at ek;have hnext:Hid (iy c=true->(x.1.data.toList.take (k+1)).all (fun c=>iy (c.toNat:Int))=true):=hid (fun hy=>by
       have hl:k<x.1.data.toList.length:=by rw[dI];exact hkn
       have e:bt x.1.data.toList k=((x.1.data.toList[k]).toNat:Int):=by simp[bt,yaW,yac hl]
       rw[yau hl,ycg,ht,List.all_cons,List.all_nil,Bool.and_true,yaX,<-e,hc,hy])
      have hbad:Hid (iy c=false->aQ x=false):=hid (fun hy=>by rw[hm3.out];exact IW x.1 k hkn (by rw[hc];exact hy));clear hc ht;by_cases g1:97<=c
      ·have d1:decide (97<=c)=true:=yaa g1;by_cases g2:c<=122
       ·have d2:decide (c<=122)=true:=yaa g2;have ht:=hid (hnext.out (by simp[iy,gp,d1,d2]));clear g1 g2;go_wp2_with fail;go_roundw
        case rel=>exact⟨k+1,by omega,by go_num,trivial,ht.out⟩
        case measure=>simp[intOf];omega
       have d2:decide (c<=122)=false:=yad g2;have d3:decide (48<=c)=true:=yaa (by omega);have d4:decide (c<=57)=false:=yad (by omega);have d5:(c==45)=false:=by simp;omega
       have ht:=hid (hbad.out (by simp[iy,gp,d1,d2,d3,d4,d5]));clear g1 g2;go_wp2_with fail;go_ret;exact⟨by rw[ht.out];rfl,hB⟩
      have d1:decide (97<=c)=false:=yad g1;by_cases g2:48<=c
      ·have d3:decide (48<=c)=true:=yaa g2;by_cases g3:c<=57
       ·have d4:decide (c<=57)=true:=yaa g3;have ht:=hid (hnext.out (by simp[iy,gp,d1,d3,d4]));clear g1 g2 g3;go_wp2_with fail;go_roundw
        case rel=>exact⟨k+1,by omega,by go_num,trivial,ht.out⟩
        case measure=>simp[intOf];omega
       have d4:decide (c<=57)=false:=yad g3;have d5:(c==45)=false:=by simp;omega
       have ht:=hid (hbad.out (by simp[iy,gp,d1,d3,d4,d5]));clear g1 g2 g3;go_wp2_with fail;go_ret;exact⟨by rw[ht.out];rfl,hB⟩
      have d3:decide (48<=c)=false:=yad g2;by_cases g3:c=45
      ·have d5:(c==45)=true:=by simp[g3]
       have ht:=hid (hnext.out (by simp[iy,gp,d1,d3,d5]));clear g1 g2 g3;go_wp2_with fail;go_roundw
       case rel=>exact⟨k+1,by omega,by go_num,trivial,ht.out⟩
       case measure=>simp[intOf];omega
      have d5:(c==45)=false:=by simp[g3]
      have ht:=hid (hbad.out (by simp[iy,gp,d1,d3,d5]));clear g1 g2 g3;go_wp2_with fail;go_ret;exact⟨by rw[ht.out];rfl,hB⟩
     have hke:k=x.1.size:=by omega
     have H:Hid (aQ x=true):=hid (by
      rw[hm3.out,hm2.out];rw[hke,yak (yaR (dI x.1))] at ht;exact ht)
     clear hke ht;go_wp2_with fail;go_ret;exact⟨by rw[H.out];rfl,hB⟩
   have hn2:aT x.2=false:=by simpa using hn
   have H:Hid (aQ x=false):=hid (by unfold aQ;rw[hn2,Bool.and_false]);rw[hn2];clear hn hn2;go_wp2_with fail;go_ret;exact⟨by rw[H.out];rfl,hB⟩
  have f4:decide (122<c0)=true:=yaa (by omega);have H:Hid (aQ x=false):=hid (by unfold aQ eH gp;rw[hc0,yad h4];simp);clear h3 h4 hc0;go_in;go_wp2_with fail;go_ret;exact⟨by rw[H.out];rfl,hb0⟩
 have f3:decide (c0<97)=true:=yaa (by omega);have H:Hid (aQ x=false):=hid (by unfold aQ eH gp;rw[hc0,yad h3];simp);clear h3 hc0;go_in;go_wp2_with fail;go_ret;exact⟨by rw[H.out];rfl,hb0⟩
theorem pR{α:Type}(p:α->Bool)(x:List α)(k:Nat)(u:α)(h:x[k]?=some u)(h1:(x.take k).any p=false)(h2:p u=false):(x.take (k+1)).any p=false:=by
 obtain⟨hl,e⟩:=yao.1 h;rw[yau hl,List.any_append,h1,e];simp[h2]
theorem tV{α:Type}(p:α->Bool)(x:List α)(k:Nat)(u:α)(h:x[k]?=some u)(h2:p u=true):x.any p=true:=List.any_eq_true.2 ⟨u,yan h,h2⟩
def zg (b:Bool)(w:World)(e:Ending)(w':World):Prop:=∃r:Int,e=.returned (.int .i64 r)/\decide (0<=r)=b/\Below w.heap.size w w'
theorem MH(ao:Option Addr)(n cap:Nat)(x:List ByteArray)(w:World)(hx:Rd w 1 ao n cap (txV x)) :
  Calls Tryz.prog 124 #[.slice ao n cap,.func (.func 73) #[] #[]] w (zg (x.any fun u=>!aT u) w):=by
 have lx:x.length=n:=by have:=hx.1;rw[ig] at this;omega
 have LX:=hid lx;have hcap:n<=9223372036854775807:=by have:=hx.2.1;have:=hx.2.2.1;unfold maxLen at this;omega
 clear lx;go_in;go_wp2_with fail;go_loopw [8] (fun p wr=>∃k:Nat,k<=n/\p=.int .i64 (k:Int)/\Hid ((x.take k).any (fun u=>!aT u)=false)/\Below w.heap.size w wr) (fun p _=>n-(intOf p).toNat)
 case atStart=>exact⟨0,yam _,rfl,hid rfl,yaj _ _⟩
 case round=>
  obtain⟨k,hk,rfl,Ht,hbr⟩:=hrel;by_cases hkn:k<n
  ·obtain⟨b1,o1,rfl,hl1,hc1⟩:=hx.some (by have:=hx.le;omega);obtain⟨u,hu⟩:∃u,x[k]?=some u:=⟨_,yac (by rw[LX.out];exact hkn)⟩
   have c1:=(hbr.cell (p:=⟨b1,o1+k,none⟩) hl1).trans (hc1 k _ (oC x k u hu));have i0:(0:Int)<=(k:Int):=by omega
   have i1:(k:Int)<(n:Int):=by omega
   go_wp2_with fail;refine (zN _ _).mono ?_;rintro e w1 ⟨rfl,hb1⟩;have hb2:=hbr.trans (hb1.mono hbr.size);by_cases hm:(!aT u)=true
   ·have Hs:=hid (tV (fun u=>!aT u) x k u hu hm);rw[hm];go_wp2_with fail;go_ret;exact⟨k,rfl,by rw[Hs.out];simp,hb2⟩
   have hm2:(!aT u)=false:=by simpa using hm
   have Hs:=hid (pR (fun u=>!aT u) x k u hu Ht.out hm2);rw[hm2];go_wp2_with fail;go_roundw
   case rel=>exact⟨k+1,by omega,by go_num,Hs,hb2⟩
   case measure=>simp[intOf];omega
  have Hs:Hid (x.any (fun u=>!aT u)=false):=hid (by have:=Ht.out;rw[yak (by rw[LX.out];omega)] at this;exact this);have hkn2:k=n:=by omega
  subst hkn2;go_wp2_with fail;go_ret;exact⟨-1,rfl,by rw[Hs.out];rfl,hbr⟩
theorem Cj(ao:Option Addr)(n cap:Nat)(x:List ByteArray)(w:World)(hx:Rd w 1 ao n cap (txV x)) :
  Calls Tryz.prog 80 #[.slice ao n cap,.func (.func 73) #[] #[]] w (GivesB (x.any fun u=>!aT u) w):=by
 go_in;go_wp2_with fail;refine (MH _ _ _ x _ hx).mono ?_;rintro e w1 ⟨r,rfl,hr,hb1⟩;have Hr:=hid hr;clear hr;go_wp2_with fail;go_ret;exact⟨by rw[<-Hr.out];rfl,hb1⟩
theorem Ld(ao:Option Addr)(n cap:Nat)(x:List (ByteArray×ByteArray))(w:World)(hx:Rd w 2 ao n cap (atV x)) :
  Calls Tryz.prog 122 #[.slice ao n cap,.func (.func 71) #[] #[]] w (zg (x.any fun u=>!aQ u) w):=by
 have lx:x.length=n:=by have:=hx.1;rw[fG] at this;omega
 have LX:=hid lx;have hcap:n<=9223372036854775807:=by have:=hx.2.1;have:=hx.2.2.1;unfold maxLen at this;omega
 clear lx;go_in;go_wp2_with fail;go_loopw [8] (fun p wr=>∃k:Nat,k<=n/\p=.int .i64 (k:Int)/\Hid ((x.take k).any (fun u=>!aQ u)=false)/\Below w.heap.size w wr) (fun p _=>n-(intOf p).toNat)
 case atStart=>exact⟨0,yam _,rfl,hid rfl,yaj _ _⟩
 case round=>
  obtain⟨k,hk,rfl,Ht,hbr⟩:=hrel;by_cases hkn:k<n
  ·obtain⟨b1,o1,rfl,hl1,hc1⟩:=hx.some (by have:=hx.le;omega);obtain⟨u,hu⟩:∃u,x[k]?=some u:=⟨_,yac (by rw[LX.out];exact hkn)⟩
   obtain⟨v1,v2⟩:=kH x k u hu;have c1:=(hbr.cell (p:=⟨b1,o1+k*2,none⟩) hl1).trans (hc1 (k*2) _ v1);have c2:wr.cell? ⟨b1,o1+k*2+1,none⟩=_:=(hbr.cell (p:=⟨b1,o1+(k*2+1),none⟩) hl1).trans (hc1 (k*2+1) _ v2);clear v1 v2;have i0:(0:Int)<=(k:Int):=by omega
   have i1:(k:Int)<(n:Int):=by omega
   go_wp2_with fail;refine (Pv _ _).mono ?_;rintro e w1 ⟨rfl,hb1⟩;have hb2:=hbr.trans (hb1.mono hbr.size);by_cases hm:(!aQ u)=true
   ·have Hs:=hid (tV (fun u=>!aQ u) x k u hu hm);rw[hm];go_wp2_with fail;go_ret;exact⟨k,rfl,by rw[Hs.out];simp,hb2⟩
   have hm2:(!aQ u)=false:=by simpa using hm
   have Hs:=hid (pR (fun u=>!aQ u) x k u hu Ht.out hm2);rw[hm2];go_wp2_with fail;go_roundw
   case rel=>exact⟨k+1,by omega,by go_num,Hs,hb2⟩
   case measure=>simp[intOf];omega
  have Hs:Hid (x.any (fun u=>!aQ u)=false):=hid (by have:=Ht.out;rw[yak (by rw[LX.out];omega)] at this;exact this);have hkn2:k=n:=by omega
  subst hkn2;go_wp2_with fail;go_ret;exact⟨-1,rfl,by rw[Hs.out];rfl,hbr⟩
theorem CJ(ao:Option Addr)(n cap:Nat)(x:List (ByteArray×ByteArray))(w:World)(hx:Rd w 2 ao n cap (atV x)) :
  Calls Tryz.prog 78 #[.slice ao n cap,.func (.func 71) #[] #[]] w (GivesB (x.any fun u=>!aQ u) w):=by
 go_in;go_wp2_with fail;refine (Ld _ _ _ x _ hx).mono ?_;rintro e w1 ⟨r,rfl,hr,hb1⟩;have Hr:=hid hr;clear hr;go_wp2_with fail;go_ret;exact⟨by rw[<-Hr.out];rfl,hb1⟩
def InBox (w:World)(v:OV)(W:World):Prop:=W.heap[w.heap.size]?=some v.box/\Below w.heap.size w W
theorem InBox.step{W':World}(h:InBox w v W)(hb:Below W.heap.size W W'):InBox w v W':=
 ⟨(hb.q h.1),h.2.trans (hb.mono h.2.size)⟩
theorem InBox.drew(h:InBox w v W):InBox w v W.drew:=⟨h.1,h.2.drew⟩
theorem InBox.new(w:World)(v:OV):InBox w v (w.alloc v.box):=⟨aN _ _,bN _ _⟩
theorem InBox.at_{c:OC}(h:InBox w v W)(ho:OpAt w v c):OpAt W v c:=ho.later h.2
def oD (v:OV)(c:OC)(attrs:Bool):Bool:=
 if v.k=1 then attrs else if v.k=5 then decide (v.an=1) else decide (v.bn<=8)&&!(c.parts.any fun u=>!aT u)&&decide (v.cn<=4000)&&decide (0<=v.n)&&decide (v.n<=1000)
def dX (v:OV)(c:OC)(attrs:Bool):Bool:=
 decide (fieldsOf v.k≠[])&&bg v c (bP (fieldsOf v.k) v) (iQ (fieldsOf v.k) c)&&aT v.name&&aT v.to&&decide (v.an<=50)&&!(c.attrs.any fun u=>!aQ u)&&oD v c attrs
theorem nR{f s n t l a r:Bool}(h:f=false\/s=false\/n=false\/t=false\/l=false\/a=true):(f&&s&&n&&t&&l&&!a&&r)=false:=by
 rcases h with rfl|rfl|rfl|rfl|rfl|rfl<;>simp
theorem JD(v:OV)(c:OC)(attrs:Bool)(w:World)(ho:OpAt w v c)(hA:v.k=1->∀W,OpAt W v c->Calls Tryz.prog 79 #[.slice v.ao v.an v.ac] W (GivesB attrs W)) :
  Calls Tryz.prog 40 #[v.val] w (GivesB (dX v c attrs) w):=by
 have hmo:=hmO
 have s0:InBox w v (w.alloc v.box).drew:=(InBox.new w v).drew;obtain⟨b0,hf⟩:∃b,decide (fieldsOf v.k=[])=b:=⟨_,rfl⟩
 have HF:=hid hf;obtain⟨b1,h1⟩:∃b,bg v c (bP (fieldsOf v.k) v) (iQ (fieldsOf v.k) c)=b:=⟨_,rfl⟩
 have H1:=hid h1;obtain⟨b2,h2⟩:∃b,(!aT v.name)=b:=⟨_,rfl⟩
 have H2:=hid h2;obtain⟨b3,h3⟩:∃b,(!aT v.to)=b:=⟨_,rfl⟩
 have H3:=hid h3;obtain⟨b5,h5⟩:∃b,(c.attrs.any fun u=>!aQ u)=b:=⟨_,rfl⟩
 have H5:=hid h5;clear hf h1 h2 h3 h5;unfold OV.val;go_in;go_wp2_with fail;refine yaB (S:=InBox w v) hmo ?_;change wpAnyH _ _ _ _ _ _ _ _ (World.drew _);have zf0:=fun (w0:World) (h:InBox w v w0)=>aC h.1;refine zp 0 (pp w.heap.size 0) rfl ?_;go_simp;refine zv 1 (.int .i64 v.k) rfl ?_;go_simp;refine zH1 2 rfl (fun K hK=>?_);go_simp;refine (oN _ _).mono ?_;rintro e W1 ⟨rfl,hb1⟩;have s1:=s0.step hb1;go_simp;refine hK _ _ ⟨s1,?_⟩;clear hK K;cases b0;rotate_left
 ·have H0:=hid (yar HF.out);have Hr:Hid (dX v c attrs=false):=hid (nR (.inl (by simp[H0.out])));clear hA;refine zHa 3 (.bool true) rfl (by intro w h;go_simp;exact H0.out) s1 ?_;go_simp;refine zp 4 (.bool true) rfl (zo 5 rfl (zo 6 rfl (zo 7 rfl (zo 8 rfl (zo 9 rfl (zp 10 (.bool true) rfl (zp 11 (.bool true) rfl ?_)))))));go_simp;refine zo 12 rfl (zo 13 rfl (zo 14 rfl (zo 15 rfl (zp 16 (.bool true) rfl (zp 17 (.bool true) rfl (zo 18 rfl (zo 19 rfl ?_)))))));go_simp;refine zo 20 rfl (zo 21 rfl (zp 22 (.bool true) rfl (zp 23 (.bool true) rfl (zo 24 rfl (zo 25 rfl (zo 26 rfl (zo 27 rfl ?_)))))));go_simp;refine zp 28 (.bool true) rfl (zp 29 (.bool true) rfl (zo 30 rfl (zo 31 rfl (zo 32 rfl (zo 33 rfl (zp 34 (.bool true) rfl ?_))))));go_simp;refine zd ?_;go_wp2_with fail;go_ret;exact⟨by rw[Hr.out];rfl,s1.2⟩
 have H0:=hid (ybQ HF.out);refine zHa 3 (.bool false) rfl (by intro w h;go_simp;exact H0.out) s1 ?_;go_simp;refine zp 4 (.bool false) rfl ?_;go_simp;refine zv 5 (.agg #[.int .i64 v.k,.string v.name,.string v.to,.slice v.ao v.an v.ac,.slice v.bo v.bn v.bc,.slice v.co v.cn v.cc,.int .i64 v.n]) rfl ?_;go_simp;refine zv 6 (.agg #[.int .i64 v.k,.string v.name,.string v.to,.slice v.ao v.an v.ac,.slice v.bo v.bn v.bc,.slice v.co v.cn v.cc,.int .i64 v.n]) rfl ?_;go_simp;refine zC 7 rfl (Nj v _) ?_;rintro e W2 ⟨rfl,hb2⟩;have s2:=s1.step hb2;have o2:=s2.at_ ho;obtain⟨u,hu⟩:∃u,bP (fieldsOf v.k) v=u:=⟨_,rfl⟩
 have p2:OpAt W2 u (iQ (fieldsOf v.k) c):=hu▸FI o2 _;have Hs2:Hid (bg v c u (iQ (fieldsOf v.k) c)=b1):=hid (hu▸H1.out);rw[hu];clear hu o2;refine⟨s2,?_⟩;go_simp;refine zH1 8 rfl (fun K hK=>?_);go_simp;refine (yU v u c (iQ (fieldsOf v.k) c) _ (s2.at_ ho) p2).mono ?_;rintro e W3 ⟨rfl,hb3⟩;rw[Hs2.out];have s3:=s2.step hb3;go_simp;refine hK _ _ ⟨s3,?_⟩;clear hK K;cases b1
 ·have Hr:Hid (dX v c attrs=false):=hid (nR (.inr (.inl H1.out)));clear hA;refine zv 9 (.bool true) rfl ?_;go_simp;refine zp 10 (.bool true) rfl (zp 11 (.bool true) rfl (zo 12 rfl (zo 13 rfl (zo 14 rfl (zo 15 rfl (zp 16 (.bool true) rfl (zp 17 (.bool true) rfl ?_)))))));go_simp;refine zo 18 rfl (zo 19 rfl (zo 20 rfl (zo 21 rfl (zp 22 (.bool true) rfl (zp 23 (.bool true) rfl (zo 24 rfl (zo 25 rfl ?_)))))));go_simp;refine zo 26 rfl (zo 27 rfl (zp 28 (.bool true) rfl (zp 29 (.bool true) rfl (zo 30 rfl (zo 31 rfl (zo 32 rfl (zo 33 rfl ?_)))))));go_simp;refine zp 34 (.bool true) rfl ?_;go_simp;refine zd ?_;go_wp2_with fail;go_ret;exact⟨by rw[Hr.out];rfl,s3.2⟩
 refine zv 9 (.bool false) rfl ?_;go_simp;refine zp 10 (.bool false) rfl (zp 11 (.bool false) rfl (zp 12 (.func (.func 73) #[] #[]) rfl (zp 13 (pp w.heap.size 1) rfl ?_)));go_simp;refine zv 14 (.string v.name) rfl ?_;go_simp;refine zH1 15 rfl (fun K hK=>?_);go_simp;refine (zN _ _).mono ?_;rintro e W4 ⟨rfl,hb4⟩;rw[H2.out];have s4:=s3.step hb4;go_simp;refine hK _ _ ⟨s4,?_⟩;clear hK K;cases b2;rotate_left
 ·have Hr:Hid (dX v c attrs=false):=hid (nR (.inr (.inr (.inl (by simpa using H2.out)))));clear hA;refine zp 16 (.bool true) rfl (zp 17 (.bool true) rfl (zo 18 rfl (zo 19 rfl (zo 20 rfl (zo 21 rfl (zp 22 (.bool true) rfl (zp 23 (.bool true) rfl ?_)))))));go_simp;refine zo 24 rfl (zo 25 rfl (zo 26 rfl (zo 27 rfl (zp 28 (.bool true) rfl (zp 29 (.bool true) rfl (zo 30 rfl (zo 31 rfl ?_)))))));go_simp;refine zo 32 rfl (zo 33 rfl (zp 34 (.bool true) rfl ?_));go_simp;refine zd ?_;go_wp2_with fail;go_ret;exact⟨by rw[Hr.out];rfl,s4.2⟩
 refine zp 16 (.bool false) rfl (zp 17 (.bool false) rfl (zp 18 (.func (.func 73) #[] #[]) rfl (zp 19 (pp w.heap.size 2) rfl ?_)));go_simp;refine zv 20 (.string v.to) rfl ?_;go_simp;refine zH1 21 rfl (fun K hK=>?_);go_simp;refine (zN _ _).mono ?_;rintro e W5 ⟨rfl,hb5⟩;rw[H3.out];have s5:=s4.step hb5;go_simp;refine hK _ _ ⟨s5,?_⟩;clear hK K;cases b3;rotate_left
 ·have Hr:Hid (dX v c attrs=false):=hid (nR (.inr (.inr (.inr (.inl (by simpa using H3.out))))));clear hA;refine zp 22 (.bool true) rfl (zp 23 (.bool true) rfl (zo 24 rfl (zo 25 rfl (zo 26 rfl (zo 27 rfl (zp 28 (.bool true) rfl (zp 29 (.bool true) rfl ?_)))))));go_simp;refine zo 30 rfl (zo 31 rfl (zo 32 rfl (zo 33 rfl (zp 34 (.bool true) rfl ?_))));go_simp;refine zd ?_;go_wp2_with fail;go_ret;exact⟨by rw[Hr.out];rfl,s5.2⟩
 refine zp 22 (.bool false) rfl (zp 23 (.bool false) rfl (zp 24 (pp w.heap.size 3) rfl ?_));go_simp;refine zv 25 (.slice v.ao v.an v.ac) rfl ?_;go_simp;refine zv 26 (.int .i64 (v.an:Int)) rfl ?_;go_simp;by_cases f4:decide (50<(v.an:Int))=true
 ·have Hr:Hid (dX v c attrs=false):=hid (nR (.inr (.inr (.inr (.inr (.inl (yad (by have:=yar f4;omega))))))));clear hA;refine zv 27 (.bool true) rfl ?_;go_simp;refine zp 28 (.bool true) rfl (zp 29 (.bool true) rfl (zo 30 rfl (zo 31 rfl (zo 32 rfl (zo 33 rfl (zp 34 (.bool true) rfl ?_))))));go_simp;refine zd ?_;go_wp2_with fail;go_ret;exact⟨by rw[Hr.out];rfl,s5.2⟩
 replace f4:decide (50<(v.an:Int))=false:=by simpa using f4
 refine zv 27 (.bool false) rfl ?_;go_simp;refine zp 28 (.bool false) rfl (zp 29 (.bool false) rfl (zp 30 (pp w.heap.size 3) rfl ?_));go_simp;refine zv 31 (.slice v.ao v.an v.ac) rfl ?_;go_simp;refine zp 32 (.func (.func 71) #[] #[]) rfl ?_;go_simp;refine zH1 33 rfl (fun K hK=>?_);go_simp;refine (CJ _ _ _ c.attrs _ (s5.at_ ho).a).mono ?_;rintro e W6 ⟨rfl,hb6⟩;rw[H5.out];have s6:=s5.step hb6;go_simp;refine hK _ _ ⟨s6,?_⟩;clear hK K;cases b5;rotate_left
 ·have Hr:Hid (dX v c attrs=false):=hid (nR (.inr (.inr (.inr (.inr (.inr H5.out))))));clear hA;refine zp 34 (.bool true) rfl ?_;go_simp;refine zd ?_;go_wp2_with fail;go_ret;exact⟨by rw[Hr.out];rfl,s6.2⟩
 have Hr:Hid (dX v c attrs=oD v c attrs):=hid (by have:=ybQ f4;have h2:=H2.out;have h3:=H3.out;simp only[Bool.not_eq_false'] at h2 h3;unfold dX;rw[H1.out,h2,h3,H5.out,yaa H0.out,yaa (by omega)];simp);refine zp 34 (.bool false) rfl ?_;go_simp;refine zd ?_;obtain⟨c0,c1,c2,c3,c4,c5,c6,-⟩:=aC s6.1;by_cases hk1:v.k=1
 ·have f1:(v.k==1)=true:=by simp[hk1]
  have Hs:Hid (dX v c attrs=attrs):=hid (by rw[Hr.out];simp[oD,hk1]);have hc:=hA hk1 _ (s6.at_ ho);clear hk1 hA;go_wp2_with fail;refine hc.mono ?_;rintro e W7 ⟨rfl,hb7⟩;have s7:=s6.step hb7;go_wp2_with fail;go_ret;exact⟨by rw[Hs.out];rfl,s7.2⟩
 have f1:(v.k==1)=false:=by simp[hk1]
 by_cases hk5:v.k=5
 ·have f2:(v.k==5)=true:=by simp[hk5]
  have Hs:Hid (dX v c attrs=((v.an:Int)==1)):=hid (by rw[Hr.out];unfold oD;rw[if_neg hk1,if_pos hk5,ybk];simp;omega);clear hk1 hk5 hA;go_wp2_with fail;go_ret;exact⟨by rw[Hs.out];rfl,s6.2⟩
 have f2:(v.k==5)=false:=by simp[hk5]
 have Hs:Hid (dX v c attrs=(decide (v.bn<=8)&&!(c.parts.any fun u=>!aT u)&&decide (v.cn<=4000)&&decide (0<=v.n)&&decide (v.n<=1000))):=hid (by rw[Hr.out];unfold oD;rw[if_neg hk1,if_neg hk5]);clear hk1 hk5 hA Hr;by_cases hb:v.bn<=8
 ·have f3:decide ((v.bn:Int)<=8)=true:=yaa (by omega);go_wp2_with fail;refine (Cj _ _ _ c.parts _ (s6.at_ ho).b).mono ?_;rintro e W7 ⟨rfl,hb7⟩;have s7:=s6.step hb7;clear c0 c1 c2 c3 c4 c5 c6;obtain⟨c0,c1,c2,c3,c4,c5,c6,-⟩:=aC s7.1;by_cases hp:(c.parts.any fun u=>!aT u)=true
  ·have Hs2:Hid (dX v c attrs=false):=hid (by rw[Hs.out,hp];simp);rw[hp];clear Hs hp hb;go_wp2_with fail;go_ret;exact⟨by rw[Hs2.out];rfl,s7.2⟩
  have hp2:(c.parts.any fun u=>!aT u)=false:=by simpa using hp
  have Hs2:Hid (dX v c attrs=(decide (v.cn<=4000)&&decide (0<=v.n)&&decide (v.n<=1000))):=hid (by rw[Hs.out,hp2,yaa hb];simp);rw[hp2];clear Hs hp hp2 hb;by_cases hc:v.cn<=4000
  ·have f4:decide ((v.cn:Int)<=4000)=true:=yaa (by omega);by_cases h0:0<=v.n
   ·have f5:decide (0<=v.n)=true:=yaa h0;have Hs3:Hid (dX v c attrs=decide (v.n<=1000)):=hid (by rw[Hs2.out,yaa hc,f5];simp);clear Hs2 hc h0;go_wp2_with fail;go_ret;exact⟨by rw[Hs3.out];rfl,s7.2⟩
   have f5:decide (0<=v.n)=false:=yad h0;have Hs3:Hid (dX v c attrs=false):=hid (by rw[Hs2.out,f5];simp);clear Hs2 hc h0;go_wp2_with fail;go_ret;exact⟨by rw[Hs3.out];rfl,s7.2⟩
  have f4:decide ((v.cn:Int)<=4000)=false:=yad (by omega);have Hs3:Hid (dX v c attrs=false):=hid (by rw[Hs2.out,yad hc];simp);clear Hs2 hc;go_wp2_with fail;go_ret;exact⟨by rw[Hs3.out];rfl,s7.2⟩
 have f3:decide ((v.bn:Int)<=8)=false:=yad (by omega);have Hs2:Hid (dX v c attrs=false):=hid (by rw[Hs.out,yad hb];simp);clear Hs hb;go_wp2_with fail;go_ret;exact⟨by rw[Hs2.out];rfl,s6.2⟩
