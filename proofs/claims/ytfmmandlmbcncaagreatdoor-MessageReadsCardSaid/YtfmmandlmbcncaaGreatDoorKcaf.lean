/-
  A part of the proof.
-/
import Derived.Lib.OthersKept
import Derived.Test.YtfmmandlmbcncaaGreatDoorKcae
import Derived.Test.YtfmmandlmbcncaaGreatDoorKcac
set_option maxHeartbeats 40000000
set_option maxRecDepth 100000
namespace Go.Proofs.YtfmmandlmbcncaaGreatDoor.Msg
open Go.RowKit Go.Lib Mem
def bI (l:List UInt8)(v:OV):OV:=
 ⟨v.k,if 110∈l then v.name else ⟨#[]⟩,if 116∈l then v.to else ⟨#[]⟩,if 97∈l then v.ao else none,if 97∈l then v.an else 0,if 97∈l then v.ac else 0,
  if 112∈l then v.bo else none,if 112∈l then v.bn else 0,if 112∈l then v.bc else 0,if 99∈l then v.co else none,if 99∈l then v.cn else 0,if 99∈l then v.cc else 0,if 107∈l then v.n else 0⟩
def iR (l:List UInt8)(c:OC):OC:=⟨if 97∈l then c.attrs else [],if 112∈l then c.parts else [],if 99∈l then c.cursor else []⟩
theorem Du {W:World}{v:OV}{c:OC}(h:OpAt W v c)(l:List UInt8):OpAt W (bI l v) (iR l c):=by
 obtain⟨a,b,d,la,lb,lc⟩:=h;unfold bI iR;refine⟨?_,?_,?_,?_,?_,?_⟩
 ·by_cases h:(97:UInt8)∈l
  ·simp only[if_pos h];exact a
  simp only[if_neg h];exact Rd.nil _ _
 ·by_cases h:(112:UInt8)∈l
  ·simp only[if_pos h];exact b
  simp only[if_neg h];exact Rd.nil _ _
 ·by_cases h:(99:UInt8)∈l
  ·simp only[if_pos h];exact d
  simp only[if_neg h];exact Rd.nil _ _
 ·dsimp only;split<;>omega
 ·dsimp only;split<;>omega
 dsimp only;split<;>omega
theorem letters (k:Int)(j:Nat)(c:UInt8)(h:(fieldsOf k)[j]?=some c):c=110\/c=116\/c=97\/c=112\/c=99\/c=107:=by
 have hm:=List.mem_of_getElem? h;unfold fieldsOf at hm
 repeat' split at hm
 all_goals simp only[List.mem_cons,List.not_mem_nil,or_false] at hm
 all_goals first | (rcases hm with rfl|rfl|rfl<;>simp) | (rcases hm with rfl|rfl<;>simp) | (subst hm;simp)
theorem sH (k:Int):(fieldsOf k).length<=3:=by
 unfold fieldsOf
 repeat' split
 all_goals simp
theorem at_set {W:World}{b i:Nat}{cs:Array Value}{t:TypeId}{fr:Nat×Nat}{x:Value}(h:W.heap[b]?=some (.cells cs t fr)):(W.setCell ⟨b,i,none⟩ x).heap[b]?=some (.cells (cs.setIfInBounds i x) t fr):=by
 have hlt:=(Array.getElem?_eq_some_iff.1 h).1;have h2:=(Array.getElem?_eq_some_iff.1 h).2;simp only[World.setCell,Array.getElem?_eq_getElem,Array.size_modify,hlt,Array.getElem_modify_self,h2];rfl
theorem ai {W:World}{b j i:Nat}{x:Value}{o:Obj}(h:W.heap[j]?=some o)(hne:j≠b):(W.setCell ⟨b,i,none⟩ x).heap[j]?=some o:=(Below.heap_setCell W ⟨b,i,none⟩ x j hne).trans h
structure BareAt (w:World)(it:Nat)(v:OV)(j:Nat)(wr:World):Prop where
 bel:Below w.heap.size w wr
 h1:wr.heap[w.heap.size]?=some v.box
 h2:wr.heap[w.heap.size+1]?=some (bI [] ⟨0,⟨#[]⟩,⟨#[]⟩,none,0,0,none,0,0,none,0,0,0⟩).box
 h3:wr.heap[w.heap.size+1+1]?=some (bI ((fieldsOf v.k).take j) v).box
 hi:wr.heap[it]?=some (.stringIter ⟨(fieldsOf v.k).toArray⟩ j)
theorem BareAt.next {w wr:World}{it:Nat}{v:OV}{j:Nat}{c:UInt8}(h:BareAt w it v j wr)(hit:w.heap.size+1+1<it)(hc:(fieldsOf v.k)[j]?=some c)(i:Nat)(x:Value)
  (hx:∀l:List UInt8,(match (bI l v).box with | .cells cs t fr=>Obj.cells (cs.setIfInBounds i x) t fr | o=>o)=(bI (l++[c]) v).box) :
  BareAt w it v (j+1) ((wr.iterAt it ⟨(fieldsOf v.k).toArray⟩ (j+1)).setCell ⟨w.heap.size+1+1,i,none⟩ x):=by
 obtain⟨bel,h1,h2,h3,hi⟩:=h;obtain⟨hlt,he⟩:=List.getElem?_eq_some_iff.1 hc;refine⟨(below_iterAt bel (by omega) _ _).setCell (p:=⟨w.heap.size+1+1,i,none⟩) (by dsimp only;omega) _,ai ((iterAt_other _ _ _ _ _ (by omega)).trans h1) (by omega),ai ((iterAt_other _ _ _ _ _ (by omega)).trans h2) (by omega),?_,ai (iterAt_heap _ _ _ _ _ hi) (by omega)⟩;have:=at_set (i:=i) (x:=x) ((iterAt_other wr it (w.heap.size+1+1) ⟨(fieldsOf v.k).toArray⟩ (j+1) (by omega)).trans h3);rw[List.take_succ_eq_append_getElem hlt,he,<-hx];exact this
def Ox (v:OV)(w:World)(e:Ending)(w':World):Prop:=e=.returned v.val/\Below w.heap.size w w'
theorem au {W:World}{B:Nat}{v:OV}(h:W.heap[B]?=some v.box):W.cell? ⟨B,0,none⟩=some (.int .i64 v.k)/\W.cell? ⟨B,1,none⟩=some (.string v.name)/\W.cell? ⟨B,2,none⟩=some (.string v.to)/\W.cell? ⟨B,3,none⟩=some (.slice v.ao v.an v.ac)/\W.cell? ⟨B,4,none⟩=some (.slice v.bo v.bn v.bc)/\W.cell? ⟨B,5,none⟩=some (.slice v.co v.cn v.cc)/\W.cell? ⟨B,6,none⟩=some (.int .i64 v.n)/\∀i,W.frozen? ⟨B,i,none⟩=false:=by
 unfold OV.box at h;simp[World.cell?,World.frozen?,h]
theorem cZ {P:Program}(wr:World)(it:Nat)(l:List UInt8)(j:Nat)(c:UInt8)(ty:TypeId)(hi:wr.heap[it]?=some (.stringIter ⟨l.toArray⟩ j))(hc:l[j]?=some c)(h:c.toNat<128) :
  (Instr.next (.pointer (some ⟨it,0,none⟩)) true ty).run P wr=.ok (.tuple #[.bool true,.int .i64 j,.int .i32 (c.toNat:Int)]) (wr.iterAt it ⟨l.toArray⟩ (j+1)):=by
 obtain⟨hlt,he⟩:=List.getElem?_eq_some_iff.1 hc;have e:(⟨l.toArray⟩:ByteArray)[j]'hlt=c:=he;rw[run_next_ascii_at wr it ⟨l.toArray⟩ j ty hi hlt (by rw[e];exact h),e]
theorem Et {f:Func}{i:Nat}{tmps:Array Value}{W:World}{b:Nat}{v:OV}(hr:f.results=#[.cell i 36])(hp:tmps.getD i undef=.pointer (some ⟨b,0,none⟩))(h:W.heap[b]?=some v.box):(results f tmps).run Tryz.prog W=.ok v.val W:=by
 obtain⟨c0,c1,c2,c3,c4,c5,c6,-⟩:=au h;simp only[results,hr];have hp':tmps[i]?.getD undef=.pointer (some ⟨b,0,none⟩):=by simpa using hp
 unfold OV.val;simp[hp',asAddr];go_simp
def zeroV:OV:=⟨0,⟨#[]⟩,⟨#[]⟩,none,0,0,none,0,0,none,0,0,0⟩
theorem qH (w:World)(o p q:Obj):(((w.alloc o).alloc p).alloc q).heap[w.heap.size]?=some o/\(((w.alloc o).alloc p).alloc q).heap[w.heap.size+1]?=some p/\(((w.alloc o).alloc p).alloc q).heap[w.heap.size+1+1]?=some q:=by
 obtain⟨h1,h2⟩:=df w o p;have hs:((w.alloc o).alloc p).heap.size=w.heap.size+1+1:=by simp
 refine⟨(((Below.refl _ _).alloc (Nat.le_refl _) q).block _ (by omega)).trans h1,(((Below.refl _ _).alloc (Nat.le_refl _) q).block _ (by omega)).trans h2,?_⟩;show (((w.alloc o).alloc p).heap.push q)[w.heap.size+1+1]?=some q;rw[<-hs];exact Array.getElem?_push_size
theorem qG (w:World)(o p q:Obj):Below w.heap.size w (((w.alloc o).alloc p).alloc q):=(bW w o p).alloc (by simp<;>omega) _
theorem Ku (v:OV)(w:World):Calls Tryz.prog 77 #[v.val] w (Ox (bI (fieldsOf v.k) v) w):=by
 have hb0:Below w.heap.size w (((w.alloc v.box).alloc zeroV.box).alloc (bI [] v).box):=qG w _ _ _;obtain⟨k1,k2,k3⟩:=qH w v.box zeroV.box (bI [] v).box;have hz:(((w.alloc v.box).alloc zeroV.box).alloc (bI [] v).box).heap.size=w.heap.size+1+1+1:=by simp
 have hf:=fun W=>nP v.k W;have hus:Tryz.prog.underlying 9=some .string:=Tryz.underlying9;have hl3:=sH v.k;unfold OV.val;go_in;go_wp2_with fail;refine (hf _).mono ?_;rintro e w1 ⟨rfl,hb1⟩;have hb2:=hb0.trans (hb1.mono hb0.size);have q1:=(hb1.block w.heap.size (Nat.lt_of_lt_of_eq (by omega) hz.symm)).trans k1;have q2:=(hb1.block (w.heap.size+1) (Nat.lt_of_lt_of_eq (by omega) hz.symm)).trans k2;have q3:=(hb1.block (w.heap.size+1+1) (Nat.lt_of_lt_of_eq (by omega) hz.symm)).trans k3;have hz1:w.heap.size+1+1+1<=w1.heap.size:=Nat.le_trans (Nat.le_of_eq hz.symm) hb1.size;have hr:=run_range_string (P:=Tryz.prog) w1 9 ⟨(fieldsOf v.k).toArray⟩ hus;go_wp2_with fail;go_loopw [] (fun wr=>∃j,BareAt w w1.heap.size v j wr) (fun wr=>(fieldsOf v.k).length-wr.iterPos w1.heap.size)
 case atStart=>
  have hbi:Below w1.heap.size w1 (w1.iter ⟨(fieldsOf v.k).toArray⟩ 0):=(Below.refl _ _).alloc (Nat.le_refl _) _;exact⟨0,hb2.trans (hbi.mono hb2.size),(hbi.block _ (by omega)).trans q1,(hbi.block _ (by omega)).trans q2,(hbi.block _ (by omega)).trans q3,by show (w1.heap.push _)[w1.heap.size]?=some _;exact Array.getElem?_push_size⟩
 case round=>
  obtain⟨j,hB⟩:=hrel;by_cases hj:j<(fieldsOf v.k).length
  ·obtain⟨c,hc⟩:∃c,(fieldsOf v.k)[j]?=some c:=⟨_,List.getElem?_eq_getElem hj⟩
   have hcl:=letters v.k j c hc;have hm:wr.iterPos w1.heap.size=j:=by simp[World.iterPos,hB.hi]
   have hw1:w.heap.size+1+1<w1.heap.size:=by omega
   have b1:(wr.iterAt w1.heap.size ⟨(fieldsOf v.k).toArray⟩ (j+1)).heap[w.heap.size]?=some v.box:=(iterAt_other _ _ _ _ _ (by omega)).trans hB.h1;have b3:(wr.iterAt w1.heap.size ⟨(fieldsOf v.k).toArray⟩ (j+1)).heap[w.heap.size+1+1]?=some (bI ((fieldsOf v.k).take j) v).box:=(iterAt_other _ _ _ _ _ (by omega)).trans hB.h3;obtain⟨-,c1,c2,c3,c4,c5,c6,-⟩:=au b1;obtain⟨-,d1,d2,d3,d4,d5,d6,d7⟩:=au b3;rcases hcl with rfl|rfl|rfl|rfl|rfl|rfl
   ·have hn:∀ty,(Instr.next (.pointer (some ⟨w1.heap.size,0,none⟩)) true ty).run Tryz.prog wr=.ok (.tuple #[.bool true,.int .i64 j,.int .i32 110]) (wr.iterAt w1.heap.size ⟨(fieldsOf v.k).toArray⟩ (j+1)):=fun ty=>cZ wr w1.heap.size (fieldsOf v.k) j 110 ty hB.hi hc (by decide);have hN:=hB.next hw1 hc 1 (.string v.name) (fun l=>by simp[bI,OV.box]);go_wp2_with fail;go_roundw
    case rel=>exact⟨j+1,hN⟩
    case measure=>rw[hm];simp[World.iterPos,hN.hi];omega
   ·have hn:∀ty,(Instr.next (.pointer (some ⟨w1.heap.size,0,none⟩)) true ty).run Tryz.prog wr=.ok (.tuple #[.bool true,.int .i64 j,.int .i32 116]) (wr.iterAt w1.heap.size ⟨(fieldsOf v.k).toArray⟩ (j+1)):=fun ty=>cZ wr w1.heap.size (fieldsOf v.k) j 116 ty hB.hi hc (by decide);have hN:=hB.next hw1 hc 2 (.string v.to) (fun l=>by simp[bI,OV.box]);go_wp2_with fail;go_roundw
    case rel=>exact⟨j+1,hN⟩
    case measure=>rw[hm];simp[World.iterPos,hN.hi];omega
   ·have hn:∀ty,(Instr.next (.pointer (some ⟨w1.heap.size,0,none⟩)) true ty).run Tryz.prog wr=.ok (.tuple #[.bool true,.int .i64 j,.int .i32 97]) (wr.iterAt w1.heap.size ⟨(fieldsOf v.k).toArray⟩ (j+1)):=fun ty=>cZ wr w1.heap.size (fieldsOf v.k) j 97 ty hB.hi hc (by decide);have hN:=hB.next hw1 hc 3 (.slice v.ao v.an v.ac) (fun l=>by simp[bI,OV.box]);go_wp2_with fail;go_roundw
    case rel=>exact⟨j+1,hN⟩
    case measure=>rw[hm];simp[World.iterPos,hN.hi];omega
   ·have hn:∀ty,(Instr.next (.pointer (some ⟨w1.heap.size,0,none⟩)) true ty).run Tryz.prog wr=.ok (.tuple #[.bool true,.int .i64 j,.int .i32 112]) (wr.iterAt w1.heap.size ⟨(fieldsOf v.k).toArray⟩ (j+1)):=fun ty=>cZ wr w1.heap.size (fieldsOf v.k) j 112 ty hB.hi hc (by decide);have hN:=hB.next hw1 hc 4 (.slice v.bo v.bn v.bc) (fun l=>by simp[bI,OV.box]);go_wp2_with fail;go_roundw
    case rel=>exact⟨j+1,hN⟩
    case measure=>rw[hm];simp[World.iterPos,hN.hi];omega
   ·have hn:∀ty,(Instr.next (.pointer (some ⟨w1.heap.size,0,none⟩)) true ty).run Tryz.prog wr=.ok (.tuple #[.bool true,.int .i64 j,.int .i32 99]) (wr.iterAt w1.heap.size ⟨(fieldsOf v.k).toArray⟩ (j+1)):=fun ty=>cZ wr w1.heap.size (fieldsOf v.k) j 99 ty hB.hi hc (by decide);have hN:=hB.next hw1 hc 5 (.slice v.co v.cn v.cc) (fun l=>by simp[bI,OV.box]);go_wp2_with fail;go_roundw
    case rel=>exact⟨j+1,hN⟩
    case measure=>rw[hm];simp[World.iterPos,hN.hi];omega
   have hn:∀ty,(Instr.next (.pointer (some ⟨w1.heap.size,0,none⟩)) true ty).run Tryz.prog wr=.ok (.tuple #[.bool true,.int .i64 j,.int .i32 107]) (wr.iterAt w1.heap.size ⟨(fieldsOf v.k).toArray⟩ (j+1)):=fun ty=>cZ wr w1.heap.size (fieldsOf v.k) j 107 ty hB.hi hc (by decide);have hN:=hB.next hw1 hc 6 (.int .i64 v.n) (fun l=>by simp[bI,OV.box]);go_wp2_with fail;go_roundw
   case rel=>exact⟨j+1,hN⟩
   case measure=>rw[hm];simp[World.iterPos,hN.hi];omega
  have hn:=fun ty=>run_next_end_at (P:=Tryz.prog) wr w1.heap.size ⟨(fieldsOf v.k).toArray⟩ j ty hB.hi hj;have h3:=hB.h3;rw[List.take_of_length_le (by omega)] at h3;obtain⟨u,hu⟩:∃u,bI (fieldsOf v.k) v=u:=⟨_,rfl⟩
  rw[hu] at h3;have Hu:=hid hu;clear hu;obtain⟨d0,d1,d2,d3,d4,d5,d6,-⟩:=au h3;obtain⟨e0,e1,e2,e3,e4,e5,e6,e7⟩:=au hB.h2;clear h3;go_wp2_with fail;have hW:(((((((wr.setCell ⟨w.heap.size+1,0,none⟩ (.int .i64 u.k)).setCell ⟨w.heap.size+1,1,none⟩ (.string u.name)).setCell ⟨w.heap.size+1,2,none⟩ (.string u.to)).setCell ⟨w.heap.size+1,3,none⟩ (.slice u.ao u.an u.ac)).setCell ⟨w.heap.size+1,4,none⟩ (.slice u.bo u.bn u.bc)).setCell ⟨w.heap.size+1,5,none⟩ (.slice u.co u.cn u.cc)).setCell ⟨w.heap.size+1,6,none⟩ (.int .i64 u.n)).heap[w.heap.size+1]?=some u.box:=
   at_set (at_set (at_set (at_set (at_set (at_set (at_set hB.h2))))))
  have hlow:∀i,w.heap.size<=(⟨w.heap.size+1,i,none⟩:Addr).block:=fun i=>by dsimp only;omega
  refine bodyPost_ret (Et (i:=2) rfl rfl hW) rfl ⟨by rw[Hu.out],?_⟩;exact ((((((hB.bel.setCell (hlow 0) _).setCell (hlow 1) _).setCell (hlow 2) _).setCell (hlow 3) _).setCell (hlow 4) _).setCell (hlow 5) _).setCell (hlow 6) _
end Go.Proofs.YtfmmandlmbcncaaGreatDoor.Msg
namespace Go.Proofs.YtfmmandlmbcncaaGreatDoor.Msg
open Go.RowKit Mem
theorem xJ:SliceT Tryz.prog 33 9 (.string ⟨#[]⟩) 1 16:=⟨Tryz.underlying33,by kernel_rfl,rfl,by decide⟩
theorem rF:SliceT Tryz.prog 32 106 (.agg #[.string ⟨#[]⟩,.string ⟨#[]⟩]) 2 32:=⟨Tryz.underlying32,by kernel_rfl,rfl,by decide⟩
end Go.Proofs.YtfmmandlmbcncaaGreatDoor.Msg
namespace Go.Proofs.YtfmmandlmbcncaaGreatDoor.Msg
open Go.RowKit Go.Lib Mem Utf
def aV (x:ByteArray):Bool:=decide (x.size<=1000)&&decide (wh x.data.toList=x.size)
def fF (n:Int):Bool:=decide (97<=n)&&decide (n<=122)
def gQ (n:Int):Bool:=fF n||n==45||(decide (48<=n)&&decide (n<=57))
def eF (x:ByteArray):Bool:=decide (1<=x.size)&&decide (x.size<=32)&&fF (bt x.data.toList 0)&&x.data.toList.all fun c=>gQ (c.toNat:Int)
def aK (x:ByteArray×ByteArray):Bool:=eF x.1&&aV x.2
theorem qB (x:ByteArray)(w:World):Calls Tryz.prog 74 #[.string x] w (aN (aV x) w):=by
 by_cases h:x.size<=1000
 ·have f1:decide ((x.size:Int)<=1000)=true:=by simp;omega
  have hv:=Ja x w (by omega);go_in;go_wp2_with fail;refine hv.mono ?_;rintro e w1 ⟨rfl,hb1⟩;go_wp2_with fail;go_ret;exact⟨by simp[aV,h],hb1⟩
 have f1:decide ((x.size:Int)<=1000)=false:=by simp;omega
 go_in;go_wp2_with fail;go_ret;exact⟨by simp[aV,h],Below.refl _ _⟩
theorem xZ (x:ByteArray)(w:World):Calls Tryz.prog 73 #[.string x] w (aN (!aV x) w):=by
 go_in;go_wp2_with fail;refine (qB _ _).mono ?_;rintro e w1 ⟨rfl,hb1⟩;go_wp2_with fail;go_ret;exact⟨rfl,hb1⟩
theorem yO (n:Int)(w:World):Calls Tryz.prog 152 #[.int .u8 n] w fun e w'=>e=.returned (.bool (fF n))/\w'=w:=by
 by_cases h:97<=n
 ·have f1:decide (97<=n)=true:=by simp[h]
  have f2:fF n=decide (n<=122):=by simp[fF,h]
  rw[f2];clear f2 h;go_in;go_wp2_with fail;go_ret;exact⟨rfl,rfl⟩
 have f1:decide (97<=n)=false:=by simp;omega
 have f2:fF n=false:=by simp[fF,h]
 rw[f2];clear f2 h;go_in;go_wp2_with fail;go_ret;exact⟨rfl,rfl⟩
def iQ (l:List UInt8)(k:Nat):Bool:=fF (bt l 0)&&(l.take k).all fun c=>gQ (c.toNat:Int)
theorem FH (l:List UInt8)(k:Nat)(h:k<l.length):iQ l (k+1)=(iQ l k&&gQ (bt l k)):=by
 have e:bt l k=((l[k]).toNat:Int):=by simp[bt,List.getD_eq_getElem?_getD,List.getElem?_eq_getElem h]
 simp only[iQ,List.take_succ_eq_append_getElem h,List.all_append,e,List.all_cons,List.all_nil,Bool.and_true,Bool.and_assoc]
theorem Ce (x:ByteArray)(h1:1<=x.size)(h2:x.size<=32):eF x=iQ x.data.toList x.size:=by
 have ht:x.data.toList.take x.size=x.data.toList:=List.take_of_length_le (Nat.le_of_eq (dD x));unfold eF iQ;rw[ht,decide_eq_true h1,decide_eq_true h2,Bool.true_and,Bool.true_and]
theorem Ci (x:ByteArray)(w:World):Calls Tryz.prog 117 #[.string x] w fun e w'=>e=.returned (.bool (eF x))/\w'=w:=by
 by_cases h1:1<=x.size
 ·by_cases h2:x.size<=32
  ·have h0:=hid (sK x 0 (by omega));have Hm:=hid (Ce x h1 h2);have f1:decide ((1:Int)<=(x.size:Int))=true:=by simp;omega
   have f2:decide ((x.size:Int)<=32)=true:=by simp;omega
   go_in;go_wp2_with fail;rw[h0.out];refine (yO _ _).mono ?_;rintro e w1 ⟨rfl,rfl⟩;have Hg:Hid (fF (bt x.data.toList 0)=iQ x.data.toList 0):=hid (by simp[iQ]);rw[Hg.out];go_wp2_with fail;go_loopw [4,26] (fun g p wr=>∃k:Nat,k<=x.size/\g=.bool (iQ x.data.toList k)/\p=.int .i64 (k:Int)/\wr=w1) (fun _ p _=>x.size-(intOf p).toNat)
   case atStart=>exact⟨0,Nat.zero_le _,rfl,rfl,rfl⟩
   case round=>
    obtain⟨k,hk,rfl,rfl,rfl⟩:=hrel;by_cases hkn:k<x.size
    ·have hk0:=hid (sK x k hkn);have Hn:=hid (FH x.data.toList k hkn);by_cases hg:iQ x.data.toList k=true
     ·rw[hg];go_wp2_with fail;rw[hk0.out];refine (yO _ _).mono ?_;rintro e w2 ⟨rfl,rfl⟩;obtain⟨c,hc⟩:∃c,bt x.data.toList k=c:=⟨_,rfl⟩
      rw[hc];have Hn2:Hid (iQ x.data.toList (k+1)=gQ c):=hid (by rw[Hn.out,hg,hc,Bool.true_and]);clear Hn;by_cases hs:fF c=true
      ·have Hs:Hid (iQ x.data.toList (k+1)=true):=hid (by rw[Hn2.out];simp[gQ,hs]);rw[hs];go_wp2_with fail;go_roundw
       case rel=>exact⟨k+1,by omega,congrArg Value.bool Hs.out.symm,by go_num,trivial⟩
       case measure=>simp[intOf];omega
      have hs2:fF c=false:=by simpa using hs
      rw[hs2];by_cases h45:c=45
      ·have Hs:Hid (iQ x.data.toList (k+1)=true):=hid (by rw[Hn2.out];simp[gQ,h45]);have f3:(c==45)=true:=by simp[h45]
       clear h45;go_wp2_with fail;go_roundw
       case rel=>exact⟨k+1,by omega,congrArg Value.bool Hs.out.symm,by go_num,trivial⟩
       case measure=>simp[intOf];omega
      have f3:(c==45)=false:=by simp[h45]
      by_cases h48:48<=c
      ·have Hs:Hid (iQ x.data.toList (k+1)=decide (c<=57)):=hid (by rw[Hn2.out];simp[gQ,hs2,h45,h48]);have f4:decide (48<=c)=true:=by simp[h48]
       clear h48 h45;go_wp2_with fail;go_roundw
       case rel=>exact⟨k+1,by omega,congrArg Value.bool Hs.out.symm,by go_num,trivial⟩
       case measure=>simp[intOf];omega
      have Hs:Hid (iQ x.data.toList (k+1)=false):=hid (by rw[Hn2.out];simp[gQ,hs2,h45,h48]);have f4:decide (48<=c)=false:=by simp;omega
      clear h48 h45;go_wp2_with fail;go_roundw
      case rel=>exact⟨k+1,by omega,congrArg Value.bool Hs.out.symm,by go_num,trivial⟩
      case measure=>simp[intOf];omega
     have hg2:iQ x.data.toList k=false:=by simpa using hg
     have Hs:Hid (iQ x.data.toList (k+1)=false):=hid (by rw[Hn.out,hg2,Bool.false_and]);rw[hg2];go_wp2_with fail;go_roundw
     case rel=>exact⟨k+1,by omega,congrArg Value.bool Hs.out.symm,by go_num,trivial⟩
     case measure=>simp[intOf];omega
    have hke:k=x.size:=by omega
    subst hke;have f5:decide ((0:Int)<(x.size:Int))=true:=by simp;omega
    by_cases hg:iQ x.data.toList x.size=true
    ·rw[hg];go_wp2_with fail;go_ret;exact⟨by rw[Hm.out,hg];rfl,rfl⟩
    have hg2:iQ x.data.toList x.size=false:=by simpa using hg
    rw[hg2];go_wp2_with fail;go_ret;exact⟨by rw[Hm.out,hg2];rfl,rfl⟩
  have Hm:Hid (eF x=false):=hid (by simp[eF,h2]);have f1:decide ((1:Int)<=(x.size:Int))=true:=by simp;omega
  have f2:decide ((x.size:Int)<=32)=false:=by simp;omega
  have f3:((x.size:Int)==0)=false:=beq_eq_false_iff_ne.2 (by omega);go_in;go_wp2_with fail;go_ret;exact⟨by rw[Hm.out];rfl,rfl⟩
 have h0:x.size=0:=by omega
 have Hm:Hid (eF x=false):=hid (by simp[eF,h1]);have f1:decide ((1:Int)<=(x.size:Int))=false:=by simp;omega
 have f3:((x.size:Int)==0)=true:=beq_iff_eq.2 (by omega);have f4:decide ((0:Int)<(x.size:Int))=false:=decide_eq_false (by omega);go_in;go_wp2_with fail;go_loopw [4,26] (fun g p wr=>g=.bool true/\p=.int .i64 0/\wr=w) (fun _ p _=>0)
 case atStart=>exact⟨rfl,rfl,rfl⟩
 case round=>
  obtain⟨rfl,rfl,rfl⟩:=hrel;go_wp2_with fail;go_ret;exact⟨by rw[Hm.out];rfl,rfl⟩
theorem kR (x:ByteArray×ByteArray)(w:World):Calls Tryz.prog 72 #[.agg #[.string x.1,.string x.2]] w (aN (aK x) w):=by
 have hb0:Below w.heap.size w (w.alloc (.cells #[.string x.1,.string x.2] 106)):=(Below.refl _ _).alloc (Nat.le_refl _) _;go_in;go_wp2_with fail;refine (Ci _ _).mono ?_;rintro e w1 ⟨rfl,rfl⟩;by_cases h:eF x.1=true
 ·rw[h];go_wp2_with fail;refine (qB _ _).mono ?_;rintro e w1 ⟨rfl,hb1⟩;have Hs:Hid (aK x=aV x.2):=hid (by simp[aK,h]);go_wp2_with fail;go_ret;exact⟨by rw[Hs.out];rfl,hb0.trans (hb1.mono hb0.size)⟩
 have h2:eF x.1=false:=by simpa using h
 rw[h2];have Hs:Hid (aK x=false):=hid (by simp[aK,h2]);go_wp2_with fail;go_ret;exact⟨by rw[Hs.out];rfl,hb0⟩
theorem MP (x:ByteArray×ByteArray)(w:World):Calls Tryz.prog 71 #[.agg #[.string x.1,.string x.2]] w (aN (!aK x) w):=by
 have hb0:Below w.heap.size w (w.alloc (.cells #[.string x.1,.string x.2] 106)):=(Below.refl _ _).alloc (Nat.le_refl _) _;go_in;go_wp2_with fail;refine (kR _ _).mono ?_;rintro e w1 ⟨rfl,hb1⟩;go_wp2_with fail;go_ret;exact⟨rfl,hb0.trans (hb1.mono hb0.size)⟩
theorem oW {α:Type}(p:α->Bool)(x:List α)(k:Nat)(u:α)(h:x[k]?=some u)(h1:(x.take k).any p=false)(h2:p u=false):(x.take (k+1)).any p=false:=by
 obtain⟨hl,e⟩:=List.getElem?_eq_some_iff.1 h;rw[List.take_succ_eq_append_getElem hl,List.any_append,h1,e];simp[h2]
theorem sG {α:Type}(p:α->Bool)(x:List α)(k:Nat)(u:α)(h:x[k]?=some u)(h2:p u=true):x.any p=true:=List.any_eq_true.2 ⟨u,List.mem_of_getElem? h,h2⟩
def xg (b:Bool)(w:World)(e:Ending)(w':World):Prop:=∃r:Int,e=.returned (.int .i64 r)/\decide (0<=r)=b/\Below w.heap.size w w'
theorem J7 (ao:Option Addr)(n cap:Nat)(x:List ByteArray)(w:World)(hx:Rd w 1 ao n cap (txV x)) :
  Calls Tryz.prog 124 #[.slice ao n cap,.func (.func 73) #[] #[]] w (xg (x.any fun u=>!aV u) w):=by
 have lx:x.length=n:=by have:=hx.1;rw[gG] at this;omega
 have LX:=hid lx;have hcap:n<=9223372036854775807:=by have:=hx.2.1;have:=hx.2.2.1;unfold maxLen at this;omega
 clear lx;go_in;go_wp2_with fail;go_loopw [8] (fun p wr=>∃k:Nat,k<=n/\p=.int .i64 (k:Int)/\Hid ((x.take k).any (fun u=>!aV u)=false)/\Below w.heap.size w wr) (fun p _=>n-(intOf p).toNat)
 case atStart=>exact⟨0,Nat.zero_le _,rfl,hid rfl,Below.refl _ _⟩
 case round=>
  obtain⟨k,hk,rfl,Ht,hbr⟩:=hrel;by_cases hkn:k<n
  ·obtain⟨b1,o1,rfl,hl1,hc1⟩:=hx.some (by have:=hx.le;omega);obtain⟨u,hu⟩:∃u,x[k]?=some u:=⟨_,List.getElem?_eq_getElem (by rw[LX.out];exact hkn)⟩
   have c1:=(hbr.cell (p:=⟨b1,o1+k,none⟩) hl1).trans (hc1 k _ (nz x k u hu));have i0:(0:Int)<=(k:Int):=by omega
   have i1:(k:Int)<(n:Int):=by omega
   go_wp2_with fail;refine (xZ _ _).mono ?_;rintro e w1 ⟨rfl,hb1⟩;have hb2:=hbr.trans (hb1.mono hbr.size);by_cases hm:(!aV u)=true
   ·have Hs:=hid (sG (fun u=>!aV u) x k u hu hm);rw[hm];go_wp2_with fail;go_ret;exact⟨k,rfl,by rw[Hs.out];simp,hb2⟩
   have hm2:(!aV u)=false:=by simpa using hm
   have Hs:=hid (oW (fun u=>!aV u) x k u hu Ht.out hm2);rw[hm2];go_wp2_with fail;go_roundw
   case rel=>exact⟨k+1,by omega,by go_num,Hs,hb2⟩
   case measure=>simp[intOf];omega
  have Hs:Hid (x.any (fun u=>!aV u)=false):=hid (by have:=Ht.out;rw[List.take_of_length_le (by rw[LX.out];omega)] at this;exact this);have hkn2:k=n:=by omega
  subst hkn2;go_wp2_with fail;go_ret;exact⟨-1,rfl,by rw[Hs.out];rfl,hbr⟩
theorem BR (ao:Option Addr)(n cap:Nat)(x:List ByteArray)(w:World)(hx:Rd w 1 ao n cap (txV x)) :
  Calls Tryz.prog 80 #[.slice ao n cap,.func (.func 73) #[] #[]] w (aN (x.any fun u=>!aV u) w):=by
 go_in;go_wp2_with fail;refine (J7 _ _ _ x _ hx).mono ?_;rintro e w1 ⟨r,rfl,hr,hb1⟩;have Hr:=hid hr;clear hr;go_wp2_with fail;go_ret;exact⟨by rw[<-Hr.out];rfl,hb1⟩
theorem H6 (ao:Option Addr)(n cap:Nat)(x:List (ByteArray×ByteArray))(w:World)(hx:Rd w 2 ao n cap (atV x)) :
  Calls Tryz.prog 122 #[.slice ao n cap,.func (.func 71) #[] #[]] w (xg (x.any fun u=>!aK u) w):=by
 have lx:x.length=n:=by have:=hx.1;rw[fG] at this;omega
 have LX:=hid lx;have hcap:n<=9223372036854775807:=by have:=hx.2.1;have:=hx.2.2.1;unfold maxLen at this;omega
 clear lx;go_in;go_wp2_with fail;go_loopw [8] (fun p wr=>∃k:Nat,k<=n/\p=.int .i64 (k:Int)/\Hid ((x.take k).any (fun u=>!aK u)=false)/\Below w.heap.size w wr) (fun p _=>n-(intOf p).toNat)
 case atStart=>exact⟨0,Nat.zero_le _,rfl,hid rfl,Below.refl _ _⟩
 case round=>
  obtain⟨k,hk,rfl,Ht,hbr⟩:=hrel;by_cases hkn:k<n
  ·obtain⟨b1,o1,rfl,hl1,hc1⟩:=hx.some (by have:=hx.le;omega);obtain⟨u,hu⟩:∃u,x[k]?=some u:=⟨_,List.getElem?_eq_getElem (by rw[LX.out];exact hkn)⟩
   obtain⟨v1,v2⟩:=jT x k u hu;have c1:=(hbr.cell (p:=⟨b1,o1+k*2,none⟩) hl1).trans (hc1 (k*2) _ v1);have c2:wr.cell? ⟨b1,o1+k*2+1,none⟩=_:=(hbr.cell (p:=⟨b1,o1+(k*2+1),none⟩) hl1).trans (hc1 (k*2+1) _ v2);clear v1 v2;have i0:(0:Int)<=(k:Int):=by omega
   have i1:(k:Int)<(n:Int):=by omega
   go_wp2_with fail;refine (MP _ _).mono ?_;rintro e w1 ⟨rfl,hb1⟩;have hb2:=hbr.trans (hb1.mono hbr.size);by_cases hm:(!aK u)=true
   ·have Hs:=hid (sG (fun u=>!aK u) x k u hu hm);rw[hm];go_wp2_with fail;go_ret;exact⟨k,rfl,by rw[Hs.out];simp,hb2⟩
   have hm2:(!aK u)=false:=by simpa using hm
   have Hs:=hid (oW (fun u=>!aK u) x k u hu Ht.out hm2);rw[hm2];go_wp2_with fail;go_roundw
   case rel=>exact⟨k+1,by omega,by go_num,Hs,hb2⟩
   case measure=>simp[intOf];omega
  have Hs:Hid (x.any (fun u=>!aK u)=false):=hid (by have:=Ht.out;rw[List.take_of_length_le (by rw[LX.out];omega)] at this;exact this);have hkn2:k=n:=by omega
  subst hkn2;go_wp2_with fail;go_ret;exact⟨-1,rfl,by rw[Hs.out];rfl,hbr⟩
theorem Bd (ao:Option Addr)(n cap:Nat)(x:List (ByteArray×ByteArray))(w:World)(hx:Rd w 2 ao n cap (atV x)) :
  Calls Tryz.prog 78 #[.slice ao n cap,.func (.func 71) #[] #[]] w (aN (x.any fun u=>!aK u) w):=by
 go_in;go_wp2_with fail;refine (H6 _ _ _ x _ hx).mono ?_;rintro e w1 ⟨r,rfl,hr,hb1⟩;have Hr:=hid hr;clear hr;go_wp2_with fail;go_ret;exact⟨by rw[<-Hr.out];rfl,hb1⟩
def InBox (w:World)(v:OV)(W:World):Prop:=W.heap[w.heap.size]?=some v.box/\Below w.heap.size w W
theorem InBox.step {w W W':World}{v:OV}(h:InBox w v W)(hb:Below W.heap.size W W'):InBox w v W':=
 ⟨(hb.block _ (Array.getElem?_eq_some_iff.1 h.1).1).trans h.1,h.2.trans (hb.mono h.2.size)⟩
theorem InBox.drew {w W:World}{v:OV}(h:InBox w v W):InBox w v W.drew:=⟨h.1,h.2.drew⟩
theorem InBox.new (w:World)(v:OV):InBox w v (w.alloc v.box):=⟨by show (w.heap.push _)[w.heap.size]?=some _;exact Array.getElem?_push_size,(Below.refl _ _).alloc (Nat.le_refl _) _⟩
theorem InBox.at_ {w W:World}{v:OV}{c:OC}(h:InBox w v W)(ho:OpAt w v c):OpAt W v c:=ho.later h.2
def nD (v:OV)(c:OC)(attrs:Bool):Bool:=
 if v.k=1 then attrs else if v.k=5 then decide (v.an=1) else decide (v.bn<=8)&&!(c.parts.any fun u=>!aV u)&&decide (v.cn<=4000)&&decide (0<=v.n)&&decide (v.n<=1000)
def dW (v:OV)(c:OC)(attrs:Bool):Bool:=
 decide (fieldsOf v.k≠[])&&bU v c (bI (fieldsOf v.k) v) (iR (fieldsOf v.k) c)&&aV v.name&&aV v.to&&decide (v.an<=50)&&!(c.attrs.any fun u=>!aK u)&&nD v c attrs
theorem mP {f s n t l a r:Bool}(h:f=false\/s=false\/n=false\/t=false\/l=false\/a=true):(f&&s&&n&&t&&l&&!a&&r)=false:=by
 rcases h with rfl|rfl|rfl|rfl|rfl|rfl<;>simp
theorem Gg (v:OV)(c:OC)(attrs:Bool)(w:World)(ho:OpAt w v c)(hA:v.k=1->∀W,OpAt W v c->Calls Tryz.prog 79 #[.slice v.ao v.an v.ac] W (aN attrs W)) :
  Calls Tryz.prog 40 #[v.val] w (aN (dW v c attrs) w):=by
 have hmo:Tryz.prog.follows .mixedOrders=true:=by kernel_rfl
 have s0:InBox w v (w.alloc v.box).drew:=(InBox.new w v).drew;obtain⟨b0,hf⟩:∃b,decide (fieldsOf v.k=[])=b:=⟨_,rfl⟩
 have HF:=hid hf;obtain⟨b1,h1⟩:∃b,bU v c (bI (fieldsOf v.k) v) (iR (fieldsOf v.k) c)=b:=⟨_,rfl⟩
 have H1:=hid h1;obtain⟨b2,h2⟩:∃b,(!aV v.name)=b:=⟨_,rfl⟩
 have H2:=hid h2;obtain⟨b3,h3⟩:∃b,(!aV v.to)=b:=⟨_,rfl⟩
 have H3:=hid h3;obtain⟨b5,h5⟩:∃b,(c.attrs.any fun u=>!aK u)=b:=⟨_,rfl⟩
 have H5:=hid h5;clear hf h1 h2 h3 h5;unfold OV.val;go_in;go_wp2_with fail;refine wp_region_held (S:=InBox w v) hmo ?_;change wpAnyH _ _ _ _ _ _ _ _ (World.drew _);refine zHp 0 (.pointer (some ⟨w.heap.size,0,none⟩)) rfl s0 ?_;go_simp;refine zHa 1 (.int .i64 v.k) rfl (by rintro w h;obtain⟨c0,c1,c2,c3,c4,c5,c6,-⟩:=au h.1;go_simp) s0 ?_;go_simp;refine zH1 2 rfl (fun K hK=>?_);go_simp;refine (nP _ _).mono ?_;rintro e W1 ⟨rfl,hb1⟩;have s1:=s0.step hb1;go_simp;refine hK _ _ ⟨s1,?_⟩;clear hK K;cases b0;rotate_left
 ·have H0:=hid (of_decide_eq_true HF.out);have Hr:Hid (dW v c attrs=false):=hid (mP (.inl (by simp[H0.out])));clear hA;refine zHa 3 (.bool true) rfl (by rintro w h;obtain⟨c0,c1,c2,c3,c4,c5,c6,-⟩:=au h.1;go_simp;exact H0.out) s1 ?_;go_simp;refine zHp 4 (.bool true) rfl s1 ?_;go_simp;refine zHo 5 rfl s1 ?_;go_simp;refine zHo 6 rfl s1 ?_;go_simp;refine zHo 7 rfl s1 ?_;go_simp;refine zHo 8 rfl s1 ?_;go_simp;refine zHo 9 rfl s1 ?_;go_simp;refine zHp 10 (.bool true) rfl s1 ?_;go_simp;refine zHp 11 (.bool true) rfl s1 ?_;go_simp;refine zHo 12 rfl s1 ?_;go_simp;refine zHo 13 rfl s1 ?_;go_simp;refine zHo 14 rfl s1 ?_;go_simp;refine zHo 15 rfl s1 ?_;go_simp;refine zHp 16 (.bool true) rfl s1 ?_;go_simp;refine zHp 17 (.bool true) rfl s1 ?_;go_simp;refine zHo 18 rfl s1 ?_;go_simp;refine zHo 19 rfl s1 ?_;go_simp;refine zHo 20 rfl s1 ?_;go_simp;refine zHo 21 rfl s1 ?_;go_simp;refine zHp 22 (.bool true) rfl s1 ?_;go_simp;refine zHp 23 (.bool true) rfl s1 ?_;go_simp;refine zHo 24 rfl s1 ?_;go_simp;refine zHo 25 rfl s1 ?_;go_simp;refine zHo 26 rfl s1 ?_;go_simp;refine zHo 27 rfl s1 ?_;go_simp;refine zHp 28 (.bool true) rfl s1 ?_;go_simp;refine zHp 29 (.bool true) rfl s1 ?_;go_simp;refine zHo 30 rfl s1 ?_;go_simp;refine zHo 31 rfl s1 ?_;go_simp;refine zHo 32 rfl s1 ?_;go_simp;refine zHo 33 rfl s1 ?_;go_simp;refine zHp 34 (.bool true) rfl s1 ?_;go_simp;refine wpAnyH_done (by kernel_rfl) ?_ _;go_wp2_with fail;go_ret;exact⟨by rw[Hr.out];rfl,s1.2⟩
 have H0:=hid (of_decide_eq_false HF.out);refine zHa 3 (.bool false) rfl (by rintro w h;obtain⟨c0,c1,c2,c3,c4,c5,c6,-⟩:=au h.1;go_simp;exact H0.out) s1 ?_;go_simp;refine zHp 4 (.bool false) rfl s1 ?_;go_simp;refine zHa 5 (.agg #[.int .i64 v.k,.string v.name,.string v.to,.slice v.ao v.an v.ac,.slice v.bo v.bn v.bc,.slice v.co v.cn v.cc,.int .i64 v.n]) rfl (by rintro w h;obtain⟨c0,c1,c2,c3,c4,c5,c6,-⟩:=au h.1;go_simp) s1 ?_;go_simp;refine zHa 6 (.agg #[.int .i64 v.k,.string v.name,.string v.to,.slice v.ao v.an v.ac,.slice v.bo v.bn v.bc,.slice v.co v.cn v.cc,.int .i64 v.n]) rfl (by rintro w h;obtain⟨c0,c1,c2,c3,c4,c5,c6,-⟩:=au h.1;go_simp) s1 ?_;go_simp;refine zH1 7 rfl (fun K hK=>?_);go_simp;refine (Ku v _).mono ?_;rintro e W2 ⟨rfl,hb2⟩;have s2:=s1.step hb2;have o2:=s2.at_ ho;obtain⟨u,hu⟩:∃u,bI (fieldsOf v.k) v=u:=⟨_,rfl⟩
 have p2:OpAt W2 u (iR (fieldsOf v.k) c):=hu▸Du o2 _;have Hs2:Hid (bU v c u (iR (fieldsOf v.k) c)=b1):=hid (hu▸H1.out);rw[hu];clear hu o2;go_simp;refine hK _ _ ⟨s2,?_⟩;clear hK K;refine zH1 8 rfl (fun K hK=>?_);go_simp;refine (ru v u c (iR (fieldsOf v.k) c) _ (s2.at_ ho) p2).mono ?_;rintro e W3 ⟨rfl,hb3⟩;rw[Hs2.out];have s3:=s2.step hb3;go_simp;refine hK _ _ ⟨s3,?_⟩;clear hK K;cases b1
 ·have Hr:Hid (dW v c attrs=false):=hid (mP (.inr (.inl H1.out)));clear hA;refine zHa 9 (.bool true) rfl (by rintro w h;obtain⟨c0,c1,c2,c3,c4,c5,c6,-⟩:=au h.1;go_simp) s3 ?_;go_simp;refine zHp 10 (.bool true) rfl s3 ?_;go_simp;refine zHp 11 (.bool true) rfl s3 ?_;go_simp;refine zHo 12 rfl s3 ?_;go_simp;refine zHo 13 rfl s3 ?_;go_simp;refine zHo 14 rfl s3 ?_;go_simp;refine zHo 15 rfl s3 ?_;go_simp;refine zHp 16 (.bool true) rfl s3 ?_;go_simp;refine zHp 17 (.bool true) rfl s3 ?_;go_simp;refine zHo 18 rfl s3 ?_;go_simp;refine zHo 19 rfl s3 ?_;go_simp;refine zHo 20 rfl s3 ?_;go_simp;refine zHo 21 rfl s3 ?_;go_simp;refine zHp 22 (.bool true) rfl s3 ?_;go_simp;refine zHp 23 (.bool true) rfl s3 ?_;go_simp;refine zHo 24 rfl s3 ?_;go_simp;refine zHo 25 rfl s3 ?_;go_simp;refine zHo 26 rfl s3 ?_;go_simp;refine zHo 27 rfl s3 ?_;go_simp;refine zHp 28 (.bool true) rfl s3 ?_;go_simp;refine zHp 29 (.bool true) rfl s3 ?_;go_simp;refine zHo 30 rfl s3 ?_;go_simp;refine zHo 31 rfl s3 ?_;go_simp;refine zHo 32 rfl s3 ?_;go_simp;refine zHo 33 rfl s3 ?_;go_simp;refine zHp 34 (.bool true) rfl s3 ?_;go_simp;refine wpAnyH_done (by kernel_rfl) ?_ _;go_wp2_with fail;go_ret;exact⟨by rw[Hr.out];rfl,s3.2⟩
 refine zHa 9 (.bool false) rfl (by rintro w h;obtain⟨c0,c1,c2,c3,c4,c5,c6,-⟩:=au h.1;go_simp) s3 ?_;go_simp;refine zHp 10 (.bool false) rfl s3 ?_;go_simp;refine zHp 11 (.bool false) rfl s3 ?_;go_simp;refine zHp 12 (.func (.func 73) #[] #[]) rfl s3 ?_;go_simp;refine zHp 13 (.pointer (some ⟨w.heap.size,1,none⟩)) rfl s3 ?_;go_simp;refine zHa 14 (.string v.name) rfl (by rintro w h;obtain⟨c0,c1,c2,c3,c4,c5,c6,-⟩:=au h.1;go_simp) s3 ?_;go_simp;refine zH1 15 rfl (fun K hK=>?_);go_simp;refine (xZ _ _).mono ?_;rintro e W4 ⟨rfl,hb4⟩;rw[H2.out];have s4:=s3.step hb4;go_simp;refine hK _ _ ⟨s4,?_⟩;clear hK K;cases b2;rotate_left
 ·have Hr:Hid (dW v c attrs=false):=hid (mP (.inr (.inr (.inl (by simpa using H2.out)))));clear hA;refine zHp 16 (.bool true) rfl s4 ?_;go_simp;refine zHp 17 (.bool true) rfl s4 ?_;go_simp;refine zHo 18 rfl s4 ?_;go_simp;refine zHo 19 rfl s4 ?_;go_simp;refine zHo 20 rfl s4 ?_;go_simp;refine zHo 21 rfl s4 ?_;go_simp;refine zHp 22 (.bool true) rfl s4 ?_;go_simp;refine zHp 23 (.bool true) rfl s4 ?_;go_simp;refine zHo 24 rfl s4 ?_;go_simp;refine zHo 25 rfl s4 ?_;go_simp;refine zHo 26 rfl s4 ?_;go_simp;refine zHo 27 rfl s4 ?_;go_simp;refine zHp 28 (.bool true) rfl s4 ?_;go_simp;refine zHp 29 (.bool true) rfl s4 ?_;go_simp;refine zHo 30 rfl s4 ?_;go_simp;refine zHo 31 rfl s4 ?_;go_simp;refine zHo 32 rfl s4 ?_;go_simp;refine zHo 33 rfl s4 ?_;go_simp;refine zHp 34 (.bool true) rfl s4 ?_;go_simp;refine wpAnyH_done (by kernel_rfl) ?_ _;go_wp2_with fail;go_ret;exact⟨by rw[Hr.out];rfl,s4.2⟩
 refine zHp 16 (.bool false) rfl s4 ?_;go_simp;refine zHp 17 (.bool false) rfl s4 ?_;go_simp;refine zHp 18 (.func (.func 73) #[] #[]) rfl s4 ?_;go_simp;refine zHp 19 (.pointer (some ⟨w.heap.size,2,none⟩)) rfl s4 ?_;go_simp;refine zHa 20 (.string v.to) rfl (by rintro w h;obtain⟨c0,c1,c2,c3,c4,c5,c6,-⟩:=au h.1;go_simp) s4 ?_;go_simp;refine zH1 21 rfl (fun K hK=>?_);go_simp;refine (xZ _ _).mono ?_;rintro e W5 ⟨rfl,hb5⟩;rw[H3.out];have s5:=s4.step hb5;go_simp;refine hK _ _ ⟨s5,?_⟩;clear hK K;cases b3;rotate_left
 ·have Hr:Hid (dW v c attrs=false):=hid (mP (.inr (.inr (.inr (.inl (by simpa using H3.out))))));clear hA;refine zHp 22 (.bool true) rfl s5 ?_;go_simp;refine zHp 23 (.bool true) rfl s5 ?_;go_simp;refine zHo 24 rfl s5 ?_;go_simp;refine zHo 25 rfl s5 ?_;go_simp;refine zHo 26 rfl s5 ?_;go_simp;refine zHo 27 rfl s5 ?_;go_simp;refine zHp 28 (.bool true) rfl s5 ?_;go_simp;refine zHp 29 (.bool true) rfl s5 ?_;go_simp;refine zHo 30 rfl s5 ?_;go_simp;refine zHo 31 rfl s5 ?_;go_simp;refine zHo 32 rfl s5 ?_;go_simp;refine zHo 33 rfl s5 ?_;go_simp;refine zHp 34 (.bool true) rfl s5 ?_;go_simp;refine wpAnyH_done (by kernel_rfl) ?_ _;go_wp2_with fail;go_ret;exact⟨by rw[Hr.out];rfl,s5.2⟩
 refine zHp 22 (.bool false) rfl s5 ?_;go_simp;refine zHp 23 (.bool false) rfl s5 ?_;go_simp;refine zHp 24 (.pointer (some ⟨w.heap.size,3,none⟩)) rfl s5 ?_;go_simp;refine zHa 25 (.slice v.ao v.an v.ac) rfl (by rintro w h;obtain⟨c0,c1,c2,c3,c4,c5,c6,-⟩:=au h.1;go_simp) s5 ?_;go_simp;refine zHa 26 (.int .i64 (v.an:Int)) rfl (by rintro w h;obtain⟨c0,c1,c2,c3,c4,c5,c6,-⟩:=au h.1;go_simp) s5 ?_;go_simp;by_cases f4:decide (50<(v.an:Int))=true
 ·have Hr:Hid (dW v c attrs=false):=hid (mP (.inr (.inr (.inr (.inr (.inl (decide_eq_false (by have:=of_decide_eq_true f4;omega))))))));clear hA;refine zHa 27 (.bool true) rfl (by rintro w h;obtain⟨c0,c1,c2,c3,c4,c5,c6,-⟩:=au h.1;go_simp) s5 ?_;go_simp;refine zHp 28 (.bool true) rfl s5 ?_;go_simp;refine zHp 29 (.bool true) rfl s5 ?_;go_simp;refine zHo 30 rfl s5 ?_;go_simp;refine zHo 31 rfl s5 ?_;go_simp;refine zHo 32 rfl s5 ?_;go_simp;refine zHo 33 rfl s5 ?_;go_simp;refine zHp 34 (.bool true) rfl s5 ?_;go_simp;refine wpAnyH_done (by kernel_rfl) ?_ _;go_wp2_with fail;go_ret;exact⟨by rw[Hr.out];rfl,s5.2⟩
 replace f4:decide (50<(v.an:Int))=false:=by simpa using f4
 refine zHa 27 (.bool false) rfl (by rintro w h;obtain⟨c0,c1,c2,c3,c4,c5,c6,-⟩:=au h.1;go_simp) s5 ?_;go_simp;refine zHp 28 (.bool false) rfl s5 ?_;go_simp;refine zHp 29 (.bool false) rfl s5 ?_;go_simp;refine zHp 30 (.pointer (some ⟨w.heap.size,3,none⟩)) rfl s5 ?_;go_simp;refine zHa 31 (.slice v.ao v.an v.ac) rfl (by rintro w h;obtain⟨c0,c1,c2,c3,c4,c5,c6,-⟩:=au h.1;go_simp) s5 ?_;go_simp;refine zHp 32 (.func (.func 71) #[] #[]) rfl s5 ?_;go_simp;refine zH1 33 rfl (fun K hK=>?_);go_simp;refine (Bd _ _ _ c.attrs _ (s5.at_ ho).a).mono ?_;rintro e W6 ⟨rfl,hb6⟩;rw[H5.out];have s6:=s5.step hb6;go_simp;refine hK _ _ ⟨s6,?_⟩;clear hK K;cases b5;rotate_left
 ·have Hr:Hid (dW v c attrs=false):=hid (mP (.inr (.inr (.inr (.inr (.inr H5.out))))));clear hA;refine zHp 34 (.bool true) rfl s6 ?_;go_simp;refine wpAnyH_done (by kernel_rfl) ?_ _;go_wp2_with fail;go_ret;exact⟨by rw[Hr.out];rfl,s6.2⟩
 have Hr:Hid (dW v c attrs=nD v c attrs):=hid (by have:=of_decide_eq_false f4;have h2:=H2.out;have h3:=H3.out;simp only[Bool.not_eq_false'] at h2 h3;unfold dW;rw[H1.out,h2,h3,H5.out,decide_eq_true H0.out,decide_eq_true (by omega)];simp);refine zHp 34 (.bool false) rfl s6 ?_;go_simp;refine wpAnyH_done (by kernel_rfl) ?_ _;obtain⟨c0,c1,c2,c3,c4,c5,c6,-⟩:=au s6.1;by_cases hk1:v.k=1
 ·have f1:(v.k==1)=true:=by simp[hk1]
  have Hs:Hid (dW v c attrs=attrs):=hid (by rw[Hr.out];simp[nD,hk1]);have hc:=hA hk1 _ (s6.at_ ho);clear hk1 hA;go_wp2_with fail;refine hc.mono ?_;rintro e W7 ⟨rfl,hb7⟩;have s7:=s6.step hb7;go_wp2_with fail;go_ret;exact⟨by rw[Hs.out];rfl,s7.2⟩
 have f1:(v.k==1)=false:=by simp[hk1]
 by_cases hk5:v.k=5
 ·have f2:(v.k==5)=true:=by simp[hk5]
  have Hs:Hid (dW v c attrs=((v.an:Int)==1)):=hid (by rw[Hr.out];unfold nD;rw[if_neg hk1,if_pos hk5,Bool.eq_iff_iff];simp;omega);clear hk1 hk5 hA;go_wp2_with fail;go_ret;exact⟨by rw[Hs.out];rfl,s6.2⟩
 have f2:(v.k==5)=false:=by simp[hk5]
 have Hs:Hid (dW v c attrs=(decide (v.bn<=8)&&!(c.parts.any fun u=>!aV u)&&decide (v.cn<=4000)&&decide (0<=v.n)&&decide (v.n<=1000))):=hid (by rw[Hr.out];unfold nD;rw[if_neg hk1,if_neg hk5]);clear hk1 hk5 hA Hr;by_cases hb:v.bn<=8
 ·have f3:decide ((v.bn:Int)<=8)=true:=decide_eq_true (by omega);go_wp2_with fail;refine (BR _ _ _ c.parts _ (s6.at_ ho).b).mono ?_;rintro e W7 ⟨rfl,hb7⟩;have s7:=s6.step hb7;clear c0 c1 c2 c3 c4 c5 c6;obtain⟨c0,c1,c2,c3,c4,c5,c6,-⟩:=au s7.1;by_cases hp:(c.parts.any fun u=>!aV u)=true
  ·have Hs2:Hid (dW v c attrs=false):=hid (by rw[Hs.out,hp];simp);rw[hp];clear Hs hp hb;go_wp2_with fail;go_ret;exact⟨by rw[Hs2.out];rfl,s7.2⟩
  have hp2:(c.parts.any fun u=>!aV u)=false:=by simpa using hp
  have Hs2:Hid (dW v c attrs=(decide (v.cn<=4000)&&decide (0<=v.n)&&decide (v.n<=1000))):=hid (by rw[Hs.out,hp2,decide_eq_true hb];simp);rw[hp2];clear Hs hp hp2 hb;by_cases hc:v.cn<=4000
  ·have f4:decide ((v.cn:Int)<=4000)=true:=decide_eq_true (by omega);by_cases h0:0<=v.n
   ·have f5:decide (0<=v.n)=true:=decide_eq_true h0;have Hs3:Hid (dW v c attrs=decide (v.n<=1000)):=hid (by rw[Hs2.out,decide_eq_true hc,f5];simp);clear Hs2 hc h0;go_wp2_with fail;go_ret;exact⟨by rw[Hs3.out];rfl,s7.2⟩
   have f5:decide (0<=v.n)=false:=decide_eq_false h0;have Hs3:Hid (dW v c attrs=false):=hid (by rw[Hs2.out,f5];simp);clear Hs2 hc h0;go_wp2_with fail;go_ret;exact⟨by rw[Hs3.out];rfl,s7.2⟩
  have f4:decide ((v.cn:Int)<=4000)=false:=decide_eq_false (by omega);have Hs3:Hid (dW v c attrs=false):=hid (by rw[Hs2.out,decide_eq_false hc];simp);clear Hs2 hc;go_wp2_with fail;go_ret;exact⟨by rw[Hs3.out];rfl,s7.2⟩
 have f3:decide ((v.bn:Int)<=8)=false:=decide_eq_false (by omega);have Hs2:Hid (dW v c attrs=false):=hid (by rw[Hs.out,decide_eq_false hb];simp);clear Hs hb;go_wp2_with fail;go_ret;exact⟨by rw[Hs2.out];rfl,s6.2⟩
end Go.Proofs.YtfmmandlmbcncaaGreatDoor.Msg
namespace Go.Proofs.YtfmmandlmbcncaaGreatDoor.Msg
open Go.RowKit Go.Lib Mem
theorem O1 {W:World}{size:Nat}{ao:Option Addr}{n cap:Nat}{xs:List Value}(h:Rd W size ao n cap xs)(p:Addr)(x:Value)(hd:∀a,ao=some a->a.block≠p.block):Rd (W.setCell p x) size ao n cap xs:=by
 obtain⟨h1,h2,h3,h4,h5⟩:=h;refine⟨h1,h2,h3,h4,fun h0 a ha=>?_⟩;obtain⟨s,l,c⟩:=h5 h0 a ha;exact⟨s,by simpa using l,fun j u hu=>(World.cell?_of_block (a:=⟨a.block,a.off+j,none⟩) (Below.heap_setCell W p x _ (hd a ha))).trans (c j u hu)⟩
end Go.Proofs.YtfmmandlmbcncaaGreatDoor.Msg
