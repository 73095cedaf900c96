/-
  A part of the proof.
-/
import Derived.Lib.OthersKept
import Derived.Test.YtfmmandlmbcncaaGreatDoorKdae
set_option maxHeartbeats 40000000
set_option maxRecDepth 100000
namespace Go.Proofs.YtfmmandlmbcncaaGreatDoor.Msg
open Go.RowKit Go.Lib Mem
def eF (l:List UInt8)(v:OV):OV:=
 ⟨v.k,if 110∈l then v.name else ⟨#[]⟩,if 116∈l then v.to else ⟨#[]⟩,if 97∈l then v.ao else none,if 97∈l then v.an else 0,if 97∈l then v.ac else 0,
  if 112∈l then v.bo else none,if 112∈l then v.bn else 0,if 112∈l then v.bc else 0,if 99∈l then v.co else none,if 99∈l then v.cn else 0,if 99∈l then v.cc else 0,if 107∈l then v.n else 0⟩
def jC (l:List UInt8)(c:OC):OC:=⟨if 97∈l then c.attrs else [],if 112∈l then c.parts else [],if 99∈l then c.cursor else []⟩
theorem NK {W:World}{v:OV}{c:OC}(h:OpAt W v c)(l:List UInt8):OpAt W (eF l v) (jC l c):=by
 obtain⟨a,b,d,la,lb,lc⟩:=h;unfold eF jC;refine⟨?_,?_,?_,?_,?_,?_⟩
 ·by_cases h:(97:UInt8)∈l
  ·simp only[if_pos h];exact a
  simp only[if_neg h];exact Rd.nil _ _
 ·by_cases h:(112:UInt8)∈l
  ·simp only[if_pos h];exact b
  simp only[if_neg h];exact Rd.nil _ _
 ·by_cases h:(99:UInt8)∈l
  ·simp only[if_pos h];exact d
  simp only[if_neg h];exact Rd.nil _ _
 ·dsimp only;split<;>omega
 ·dsimp only;split<;>omega
 dsimp only;split<;>omega
theorem letters (k:Int)(j:Nat)(c:UInt8)(h:(fieldsOf k)[j]?=some c):c=110\/c=116\/c=97\/c=112\/c=99\/c=107:=by
 have hm:=List.mem_of_getElem? h;unfold fieldsOf at hm
 repeat' split at hm
 all_goals simp only[List.mem_cons,List.not_mem_nil,or_false] at hm
 all_goals first | (rcases hm with rfl|rfl|rfl<;>simp) | (rcases hm with rfl|rfl<;>simp) | (subst hm;simp)
theorem qP (k:Int):(fieldsOf k).length<=3:=by
 unfold fieldsOf
 repeat' split
 all_goals simp
theorem at_set {W:World}{b i:Nat}{cs:Array Value}{t:TypeId}{fr:Nat×Nat}{x:Value}(h:W.heap[b]?=some (.cells cs t fr)):(W.setCell ⟨b,i,none⟩ x).heap[b]?=some (.cells (cs.setIfInBounds i x) t fr):=by
 have hlt:=(Array.getElem?_eq_some_iff.1 h).1;have h2:=(Array.getElem?_eq_some_iff.1 h).2;simp only[World.setCell,Array.getElem?_eq_getElem,Array.size_modify,hlt,Array.getElem_modify_self,h2];rfl
theorem af {W:World}{b j i:Nat}{x:Value}{o:Obj}(h:W.heap[j]?=some o)(hne:j≠b):(W.setCell ⟨b,i,none⟩ x).heap[j]?=some o:=(Below.heap_setCell W ⟨b,i,none⟩ x j hne).trans h
structure BareAt (w:World)(it:Nat)(v:OV)(j:Nat)(wr:World):Prop where
 bel:Below w.heap.size w wr
 h1:wr.heap[w.heap.size]?=some v.box
 h2:wr.heap[w.heap.size+1]?=some (eF [] ⟨0,⟨#[]⟩,⟨#[]⟩,none,0,0,none,0,0,none,0,0,0⟩).box
 h3:wr.heap[w.heap.size+1+1]?=some (eF ((fieldsOf v.k).take j) v).box
 hi:wr.heap[it]?=some (.stringIter ⟨(fieldsOf v.k).toArray⟩ j)
theorem BareAt.next {w wr:World}{it:Nat}{v:OV}{j:Nat}{c:UInt8}(h:BareAt w it v j wr)(hit:w.heap.size+1+1<it)(hc:(fieldsOf v.k)[j]?=some c)(i:Nat)(x:Value)
  (hx:∀l:List UInt8,(match (eF l v).box with | .cells cs t fr=>Obj.cells (cs.setIfInBounds i x) t fr | o=>o)=(eF (l++[c]) v).box) :
  BareAt w it v (j+1) ((wr.iterAt it ⟨(fieldsOf v.k).toArray⟩ (j+1)).setCell ⟨w.heap.size+1+1,i,none⟩ x):=by
 obtain⟨bel,h1,h2,h3,hi⟩:=h;obtain⟨hlt,he⟩:=List.getElem?_eq_some_iff.1 hc;refine⟨(below_iterAt bel (by omega) _ _).setCell (p:=⟨w.heap.size+1+1,i,none⟩) (by dsimp only;omega) _,af ((iterAt_other _ _ _ _ _ (by omega)).trans h1) (by omega),af ((iterAt_other _ _ _ _ _ (by omega)).trans h2) (by omega),?_,af (iterAt_heap _ _ _ _ _ hi) (by omega)⟩;have:=at_set (i:=i) (x:=x) ((iterAt_other wr it (w.heap.size+1+1) ⟨(fieldsOf v.k).toArray⟩ (j+1) (by omega)).trans h3);rw[List.take_succ_eq_append_getElem hlt,he,<-hx];exact this
def P5 (v:OV)(w:World)(e:Ending)(w':World):Prop:=e=.returned v.val/\Below w.heap.size w w'
theorem aO {W:World}{B:Nat}{v:OV}(h:W.heap[B]?=some v.box):W.cell? ⟨B,0,none⟩=some (.int .i64 v.k)/\W.cell? ⟨B,1,none⟩=some (.string v.name)/\W.cell? ⟨B,2,none⟩=some (.string v.to)/\W.cell? ⟨B,3,none⟩=some (.slice v.ao v.an v.ac)/\W.cell? ⟨B,4,none⟩=some (.slice v.bo v.bn v.bc)/\W.cell? ⟨B,5,none⟩=some (.slice v.co v.cn v.cc)/\W.cell? ⟨B,6,none⟩=some (.int .i64 v.n)/\∀i,W.frozen? ⟨B,i,none⟩=false:=by
 unfold OV.box at h;simp[World.cell?,World.frozen?,h]
theorem bQ {P:Program}(wr:World)(it:Nat)(l:List UInt8)(j:Nat)(c:UInt8)(ty:TypeId)(hi:wr.heap[it]?=some (.stringIter ⟨l.toArray⟩ j))(hc:l[j]?=some c)(h:c.toNat<128) :
  (Instr.next (.pointer (some ⟨it,0,none⟩)) true ty).run P wr=.ok (.tuple #[.bool true,.int .i64 j,.int .i32 (c.toNat:Int)]) (wr.iterAt it ⟨l.toArray⟩ (j+1)):=by
 obtain⟨hlt,he⟩:=List.getElem?_eq_some_iff.1 hc;have e:(⟨l.toArray⟩:ByteArray)[j]'hlt=c:=he;rw[run_next_ascii_at wr it ⟨l.toArray⟩ j ty hi hlt (by rw[e];exact h),e]
theorem wR {f:Func}{i:Nat}{tmps:Array Value}{W:World}{b:Nat}{v:OV}(hr:f.results=#[.cell i 36])(hp:tmps.getD i undef=.pointer (some ⟨b,0,none⟩))(h:W.heap[b]?=some v.box):(results f tmps).run Tryz.prog W=.ok v.val W:=by
 obtain⟨c0,c1,c2,c3,c4,c5,c6,-⟩:=aO h;simp only[results,hr];have hp':tmps[i]?.getD undef=.pointer (some ⟨b,0,none⟩):=by simpa using hp
 unfold OV.val;simp[hp',asAddr];go_simp
def zeroV:OV:=⟨0,⟨#[]⟩,⟨#[]⟩,none,0,0,none,0,0,none,0,0,0⟩
theorem vK (w:World)(o p q:Obj):(((w.alloc o).alloc p).alloc q).heap[w.heap.size]?=some o/\(((w.alloc o).alloc p).alloc q).heap[w.heap.size+1]?=some p/\(((w.alloc o).alloc p).alloc q).heap[w.heap.size+1+1]?=some q:=by
 obtain⟨h1,h2⟩:=bY w o p;have hs:((w.alloc o).alloc p).heap.size=w.heap.size+1+1:=by simp
 refine⟨(((Below.refl _ _).alloc (Nat.le_refl _) q).block _ (by omega)).trans h1,(((Below.refl _ _).alloc (Nat.le_refl _) q).block _ (by omega)).trans h2,?_⟩;show (((w.alloc o).alloc p).heap.push q)[w.heap.size+1+1]?=some q;rw[<-hs];exact Array.getElem?_push_size
theorem vP (w:World)(o p q:Obj):Below w.heap.size w (((w.alloc o).alloc p).alloc q):=(bU w o p).alloc (by simp<;>omega) _
theorem JI (v:OV)(w:World):Calls Tryz.prog 77 #[v.val] w (P5 (eF (fieldsOf v.k) v) w):=by
 have hb0:Below w.heap.size w (((w.alloc v.box).alloc zeroV.box).alloc (eF [] v).box):=vP w _ _ _;obtain⟨k1,k2,k3⟩:=vK w v.box zeroV.box (eF [] v).box;have hz:(((w.alloc v.box).alloc zeroV.box).alloc (eF [] v).box).heap.size=w.heap.size+1+1+1:=by simp
 have hf:=fun W=>mX v.k W;have hus:Tryz.prog.underlying 9=some .string:=Tryz.underlying9;have hl3:=qP v.k;unfold OV.val;go_in;go_wp2_with fail;refine (hf _).mono ?_;rintro e w1 ⟨rfl,hb1⟩;have hb2:=hb0.trans (hb1.mono hb0.size);have q1:=(hb1.block w.heap.size (Nat.lt_of_lt_of_eq (by omega) hz.symm)).trans k1;have q2:=(hb1.block (w.heap.size+1) (Nat.lt_of_lt_of_eq (by omega) hz.symm)).trans k2;have q3:=(hb1.block (w.heap.size+1+1) (Nat.lt_of_lt_of_eq (by omega) hz.symm)).trans k3;have hz1:w.heap.size+1+1+1<=w1.heap.size:=Nat.le_trans (Nat.le_of_eq hz.symm) hb1.size;have hr:=run_range_string (P:=Tryz.prog) w1 9 ⟨(fieldsOf v.k).toArray⟩ hus;go_wp2_with fail;go_loopw [] (fun wr=>∃j,BareAt w w1.heap.size v j wr) (fun wr=>(fieldsOf v.k).length-wr.iterPos w1.heap.size)
 case atStart=>
  have hbi:Below w1.heap.size w1 (w1.iter ⟨(fieldsOf v.k).toArray⟩ 0):=(Below.refl _ _).alloc (Nat.le_refl _) _;exact⟨0,hb2.trans (hbi.mono hb2.size),(hbi.block _ (by omega)).trans q1,(hbi.block _ (by omega)).trans q2,(hbi.block _ (by omega)).trans q3,by show (w1.heap.push _)[w1.heap.size]?=some _;exact Array.getElem?_push_size⟩
 case round=>
  obtain⟨j,hB⟩:=hrel;by_cases hj:j<(fieldsOf v.k).length
  ·obtain⟨c,hc⟩:∃c,(fieldsOf v.k)[j]?=some c:=⟨_,List.getElem?_eq_getElem hj⟩
   have hcl:=letters v.k j c hc;have hm:wr.iterPos w1.heap.size=j:=by simp[World.iterPos,hB.hi]
   have hw1:w.heap.size+1+1<w1.heap.size:=by omega
   have b1:(wr.iterAt w1.heap.size ⟨(fieldsOf v.k).toArray⟩ (j+1)).heap[w.heap.size]?=some v.box:=(iterAt_other _ _ _ _ _ (by omega)).trans hB.h1;have b3:(wr.iterAt w1.heap.size ⟨(fieldsOf v.k).toArray⟩ (j+1)).heap[w.heap.size+1+1]?=some (eF ((fieldsOf v.k).take j) v).box:=(iterAt_other _ _ _ _ _ (by omega)).trans hB.h3;obtain⟨-,c1,c2,c3,c4,c5,c6,-⟩:=aO b1;obtain⟨-,d1,d2,d3,d4,d5,d6,d7⟩:=aO b3;rcases hcl with rfl|rfl|rfl|rfl|rfl|rfl
   ·have hn:∀ty,(Instr.next (.pointer (some ⟨w1.heap.size,0,none⟩)) true ty).run Tryz.prog wr=.ok (.tuple #[.bool true,.int .i64 j,.int .i32 110]) (wr.iterAt w1.heap.size ⟨(fieldsOf v.k).toArray⟩ (j+1)):=fun ty=>bQ wr w1.heap.size (fieldsOf v.k) j 110 ty hB.hi hc (by decide);have hN:=hB.next hw1 hc 1 (.string v.name) (fun l=>by simp[eF,OV.box]);go_wp2_with fail;go_roundw
    case rel=>exact⟨j+1,hN⟩
    case measure=>rw[hm];simp[World.iterPos,hN.hi];omega
   ·have hn:∀ty,(Instr.next (.pointer (some ⟨w1.heap.size,0,none⟩)) true ty).run Tryz.prog wr=.ok (.tuple #[.bool true,.int .i64 j,.int .i32 116]) (wr.iterAt w1.heap.size ⟨(fieldsOf v.k).toArray⟩ (j+1)):=fun ty=>bQ wr w1.heap.size (fieldsOf v.k) j 116 ty hB.hi hc (by decide);have hN:=hB.next hw1 hc 2 (.string v.to) (fun l=>by simp[eF,OV.box]);go_wp2_with fail;go_roundw
    case rel=>exact⟨j+1,hN⟩
    case measure=>rw[hm];simp[World.iterPos,hN.hi];omega
   ·have hn:∀ty,(Instr.next (.pointer (some ⟨w1.heap.size,0,none⟩)) true ty).run Tryz.prog wr=.ok (.tuple #[.bool true,.int .i64 j,.int .i32 97]) (wr.iterAt w1.heap.size ⟨(fieldsOf v.k).toArray⟩ (j+1)):=fun ty=>bQ wr w1.heap.size (fieldsOf v.k) j 97 ty hB.hi hc (by decide);have hN:=hB.next hw1 hc 3 (.slice v.ao v.an v.ac) (fun l=>by simp[eF,OV.box]);go_wp2_with fail;go_roundw
    case rel=>exact⟨j+1,hN⟩
    case measure=>rw[hm];simp[World.iterPos,hN.hi];omega
   ·have hn:∀ty,(Instr.next (.pointer (some ⟨w1.heap.size,0,none⟩)) true ty).run Tryz.prog wr=.ok (.tuple #[.bool true,.int .i64 j,.int .i32 112]) (wr.iterAt w1.heap.size ⟨(fieldsOf v.k).toArray⟩ (j+1)):=fun ty=>bQ wr w1.heap.size (fieldsOf v.k) j 112 ty hB.hi hc (by decide);have hN:=hB.next hw1 hc 4 (.slice v.bo v.bn v.bc) (fun l=>by simp[eF,OV.box]);go_wp2_with fail;go_roundw
    case rel=>exact⟨j+1,hN⟩
    case measure=>rw[hm];simp[World.iterPos,hN.hi];omega
   ·have hn:∀ty,(Instr.next (.pointer (some ⟨w1.heap.size,0,none⟩)) true ty).run Tryz.prog wr=.ok (.tuple #[.bool true,.int .i64 j,.int .i32 99]) (wr.iterAt w1.heap.size ⟨(fieldsOf v.k).toArray⟩ (j+1)):=fun ty=>bQ wr w1.heap.size (fieldsOf v.k) j 99 ty hB.hi hc (by decide);have hN:=hB.next hw1 hc 5 (.slice v.co v.cn v.cc) (fun l=>by simp[eF,OV.box]);go_wp2_with fail;go_roundw
    case rel=>exact⟨j+1,hN⟩
    case measure=>rw[hm];simp[World.iterPos,hN.hi];omega
   have hn:∀ty,(Instr.next (.pointer (some ⟨w1.heap.size,0,none⟩)) true ty).run Tryz.prog wr=.ok (.tuple #[.bool true,.int .i64 j,.int .i32 107]) (wr.iterAt w1.heap.size ⟨(fieldsOf v.k).toArray⟩ (j+1)):=fun ty=>bQ wr w1.heap.size (fieldsOf v.k) j 107 ty hB.hi hc (by decide);have hN:=hB.next hw1 hc 6 (.int .i64 v.n) (fun l=>by simp[eF,OV.box]);go_wp2_with fail;go_roundw
   case rel=>exact⟨j+1,hN⟩
   case measure=>rw[hm];simp[World.iterPos,hN.hi];omega
  have hn:=fun ty=>run_next_end_at (P:=Tryz.prog) wr w1.heap.size ⟨(fieldsOf v.k).toArray⟩ j ty hB.hi hj;have h3:=hB.h3;rw[List.take_of_length_le (by omega)] at h3;obtain⟨u,hu⟩:∃u,eF (fieldsOf v.k) v=u:=⟨_,rfl⟩
  rw[hu] at h3;have Hu:=hid hu;clear hu;obtain⟨d0,d1,d2,d3,d4,d5,d6,-⟩:=aO h3;obtain⟨e0,e1,e2,e3,e4,e5,e6,e7⟩:=aO hB.h2;clear h3;go_wp2_with fail;have hW:(((((((wr.setCell ⟨w.heap.size+1,0,none⟩ (.int .i64 u.k)).setCell ⟨w.heap.size+1,1,none⟩ (.string u.name)).setCell ⟨w.heap.size+1,2,none⟩ (.string u.to)).setCell ⟨w.heap.size+1,3,none⟩ (.slice u.ao u.an u.ac)).setCell ⟨w.heap.size+1,4,none⟩ (.slice u.bo u.bn u.bc)).setCell ⟨w.heap.size+1,5,none⟩ (.slice u.co u.cn u.cc)).setCell ⟨w.heap.size+1,6,none⟩ (.int .i64 u.n)).heap[w.heap.size+1]?=some u.box:=
   at_set (at_set (at_set (at_set (at_set (at_set (at_set hB.h2))))))
  have hlow:∀i,w.heap.size<=(⟨w.heap.size+1,i,none⟩:Addr).block:=fun i=>by dsimp only;omega
  refine bodyPost_ret (wR (i:=2) rfl rfl hW) rfl ⟨by rw[Hu.out],?_⟩;exact ((((((hB.bel.setCell (hlow 0) _).setCell (hlow 1) _).setCell (hlow 2) _).setCell (hlow 3) _).setCell (hlow 4) _).setCell (hlow 5) _).setCell (hlow 6) _
end Go.Proofs.YtfmmandlmbcncaaGreatDoor.Msg
