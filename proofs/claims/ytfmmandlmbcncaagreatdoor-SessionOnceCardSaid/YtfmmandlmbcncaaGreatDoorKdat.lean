/-
  A part of the proof.
-/
import Derived.Test.YtfmmandlmbcncaaGreatDoorKdas
set_option maxHeartbeats 40000000
set_option maxRecDepth 100000
namespace Go.Proofs.YtfmmandlmbcncaaGreatDoor.Msg
open Go.RowKit Go.Lib Mem Tlv
def MX (T:World->OV->Prop)(ok bad:Value)(b:List UInt8)(w:World)(e:Ending)(w':World):Prop:=Below w.heap.size w w' /\
 ((∃v c,e=.returned (.tuple #[v.val,ok])/\OpAt w' v c/\T w' v/\aB v c=true/\opL v c=b)\/(e=.returned (.tuple #[zeroV.val,bad])/\yN b))
theorem FI {wr:World}{it j p:Nat}{s s':ByteArray}(_h:wr.heap[it]?=some (.stringIter s' j)):wr.grownBy (wr.iterAt it s p) (some it):=by
 have hb:=below_iterAt (Below.refl it wr) (Nat.le_refl _) s p;exact⟨hb.os,hb.tape,hb.output,hb.size,fun k _ hne=>iterAt_other _ _ _ _ _ (fun e=>hne (by rw[e]))⟩
theorem JC {wr w':World}{it j:Nat}{s:ByteArray}(h:wr.heap[it]?=some (.stringIter s j))(hg:wr.grownBy w' (some it)):KeepR wr w':=by
 refine KeepR.of_belX (BelX.of_grown hg) (fun k hk=>?_);rw[List.mem_singleton.1 hk];exact⟨_,h,fun c t fr _ e=>by cases e⟩
def OV.cells (v:OV):Array Value:=#[.int .i64 v.k,.string v.name,.string v.to,.slice v.ao v.an v.ac,.slice v.bo v.bn v.bc,.slice v.co v.cn v.cc,.int .i64 v.n]
theorem Ik {v:OV}(h1:v.bo=none)(h2:v.bn=0)(h3:v.bc=0):v=v.parts none 0 0:=by
 cases v;dsimp only at h1 h2 h3;subst h1 h2 h3;rfl
structure OpLoop (B g ob it:Nat)(w:World)(b:List UInt8)(k:Int)(j:Nat)(wr:World):Prop where
 ex:∃v c s,OpGo B g ob w b v c ((fieldsOf k).take j) s wr/\v.k=k/\(112∉(fieldsOf k).take j->v.bo=none/\v.bn=0/\v.bc=0)
 hi:wr.heap[it]?=some (.stringIter ⟨(fieldsOf k).toArray⟩ j)
theorem OpGo.iter {B g ob it:Nat}{w:World}{b:List UInt8}{v:OV}{c:OC}{ls:List UInt8}{s:RS}{wr w':World}{j:Nat}{x:ByteArray}(h:OpGo B g ob w b v c ls s wr)(hi:wr.heap[it]?=some (.stringIter x j))(hg:wr.grownBy w' (some it))(hw:w.heap.size<=it):OpGo B g ob w b v c ls s w':=by
 have hk:=JC hi hg;have h1:it≠ob:=fun e=>by have:=h.box;unfold InO OV.box at this;rw[<-e,hi] at this;cases this
 have h2:g≠it:=fun e=>by obtain⟨_,_,h⟩:=h.rd;have:=h.at_;rw[e,hi] at this;cases this
 exact⟨h.bel.trans (below_of_grown hg hw (Array.getElem?_eq_some_iff.1 hi).1),h.box.grown hg (fun e=>h1 (Option.some.inj e).symm),h.rd.grown hg hi (fun c fr h=>by cases h) h2,h.at_.kpr h.ty hk,h.ty.kpr hk,h.part⟩
theorem Part.start2 {b:List UInt8}{n:Nat}{s:RS}(h:Took (fun n:Nat=>val 1 (az n)) (fun n=>n<=255) (fun n=>n<=255) ⟨b,false⟩ n s)(hn:n<=255) :
  Part b ⟨(n:Int),⟨#[]⟩,⟨#[]⟩,none,0,0,none,0,0,none,0,0,0⟩ ⟨[],[],[]⟩ [] s where
 k0:=by dsimp only;omega
 k1:=by dsimp only;omega
 only:=⟨fun _=>rfl,fun _=>rfl,fun _=>rfl,fun _=>rfl,fun _=>rfl,fun _=>rfl⟩
 n0:=by dsimp only;omega
 n1:=by dsimp only;omega
 good:=fun l hl=>absurd hl List.not_mem_nil
 yes:=fun hb=>by
  have:=(h.yes hb).2.1;rw[qi];simpa using this
 no:=fun hb=>by
  rcases h.no hb with h | h
  ·cases h
  intro W v c ho hm e;have hk:=Fg hm;refine h v.k.toNat ((fieldsOf v.k).flatMap (gJ v c)) (by omega) ?_;rw[<-e];rfl
 le:=h.le
theorem KO (b:List UInt8)(ao:Option Addr)(n cap:Nat)(w:World)(hr:Rd w 1 ao n cap (byV b))(hn:n<=100000000) :
  Calls Tryz.prog 229 #[.slice ao n cap] w (MX OpTy (.int .i64 0) (.int .i64 4) b w):=by
 have hbn:b.length=n:=by have:=hr.1;rw[aS] at this;omega
 have hus:Tryz.prog.underlying 9=some .string:=Tryz.underlying9;have hb0:Below w.heap.size w (w.alloc zeroV.box):=(Below.refl _ _).alloc (Nat.le_refl _) _;have k0:(w.alloc zeroV.box).heap[w.heap.size]?=some zeroV.box:=by show (w.heap.push _)[w.heap.size]?=some _;exact Array.getElem?_push_size
 have hz0:(w.alloc zeroV.box).heap.size=w.heap.size+1:=by simp
 have hr0:=hr.later hb0;unfold zeroV OV.box at hb0 k0 hz0 hr0;dsimp only at hb0 k0 hz0 hr0;clear hr;go_in;go_upto_region 1 with fail;generalize hg:w.alloc _=W0 at *;have k0f:W0.heap[w.heap.size]?=some zeroV.box:=k0;clear hg k0;go_wp2_with fail;refine (nT ao n cap b W0 hr0 (by omega)).mono ?_;rintro e W1 ⟨g,rfl,hr1,hb1⟩;have hg0:W0.heap.size<=g:=by obtain⟨_,_,h⟩:=hr1;exact h.le
 have hT:=mD ⟨b,false⟩ 1 255 (by decide) (by decide);have hnm:=nG ⟨b,false⟩ 1 255;have hnum:=lH W0.heap.size g ⟨b,false⟩ 1 255 W1 hr1 (by dsimp only;omega) (by decide);generalize RS.numM ⟨b,false⟩ 1 255=nm at *;obtain⟨kn,s0⟩:=nm;dsimp only at hT hnm hnum;go_wp2_with fail;refine hnum.mono ?_;rintro e W2 ⟨rfl,hr2,hg2⟩;have hz2:=hg2.size;have hz1:=hb1.size;have hgs:g<W1.heap.size:=by obtain⟨_,_,h⟩:=hr1;exact h.lt
 have hb2:Below W0.heap.size W0 W2:=hb1.trans (below_of_grown hg2 hg0 hgs);go_upto_region 3 with (refine zNr rfl ?_;go_simp);have hP:=Part.start2 hT hnm;have HP:=hid hP;clear hT hnm hnum hP;obtain⟨V,hV⟩:∃V:OV,V=⟨(kn:Int),⟨#[]⟩,⟨#[]⟩,none,0,0,none,0,0,none,0,0,0⟩:=⟨_,rfl⟩
 have hVk:(kn:Int)=V.k:=by rw[hV]
 generalize hg:W2.alloc _=W3;have e3:W2.alloc V.box=W3:=by rw[hV];exact hg
 have hb3:Below W2.heap.size W2 W3:=by rw[<-e3];exact (Below.refl _ _).alloc (Nat.le_refl _) _
 have kb:InO W2.heap.size V W3:=by rw[<-e3];show (W2.heap.push _)[W2.heap.size]?=some _;exact Array.getElem?_push_size
 have ho3:OpGo W0.heap.size g W2.heap.size W0 b V ⟨[],[],[]⟩ ((fieldsOf V.k).take 0) s0 W3:=by
  refine⟨hb2.trans (hb3.mono (by omega)),kb,hr2.later hb3,?_,?_,?_⟩
  ·rw[hV];exact⟨Rd.nil _ _,Rd.nil _ _,Rd.nil _ _,Nat.zero_le _,Nat.zero_le _,Nat.zero_le _⟩
  ·rw[hV];exact⟨fun h=>absurd h (Nat.lt_irrefl 0),fun h=>absurd h (Nat.lt_irrefl 0),fun h=>absurd h (Nat.lt_irrefl 0)⟩
  rw[hV];exact HP.out
 have Hnil:Hid (V.bo=none/\V.bn=0/\V.bc=0):=hid (by rw[hV];exact⟨rfl,rfl,rfl⟩);clear e3 hg kb hV HP;have hgo:g≠W2.heap.size:=by omega
 have hob:W0.heap.size<=W2.heap.size:=by omega
 obtain⟨c0,-⟩:=aO ho3.box;generalize W2.heap.size=ob at *;go_wp2_with fail;refine (mX V.k W3).mono ?_;rintro e W4 ⟨rfl,hb4⟩;have ho4:OpGo W0.heap.size g ob W0 b V ⟨[],[],[]⟩ ((fieldsOf V.k).take 0) s0 W4:=⟨ho3.bel.trans (hb4.mono ho3.bel.size),ho3.box.step hb4,ho3.rd.later hb4,ho3.at_.later hb4,ho3.ty.kpr (KeepR.of_below hb4),ho3.part⟩
 have hrg:=run_range_string (P:=Tryz.prog) W4 9 ⟨(fieldsOf V.k).toArray⟩ hus;have hz4:=ho4.bel.size;clear c0 ho3 hb4 hVk;go_wp2_with fail;go_loopw [] (fun wr=>∃j,OpLoop W0.heap.size g ob W4.heap.size W0 b V.k j wr) (fun wr=>(fieldsOf V.k).length-wr.iterPos W4.heap.size)
 case atStart=>
  have hbi:Below W4.heap.size W4 (W4.iter ⟨(fieldsOf V.k).toArray⟩ 0):=(Below.refl _ _).alloc (Nat.le_refl _) _;exact⟨0,⟨V,_,s0,⟨ho4.bel.trans (hbi.mono hz4),ho4.box.step hbi,ho4.rd.later hbi,ho4.at_.later hbi,ho4.ty.kpr (KeepR.of_below hbi),ho4.part⟩,rfl,fun _=>Hnil.out⟩,by show (W4.heap.push _)[W4.heap.size]?=some _;exact Array.getElem?_push_size⟩
 case round=>
  obtain⟨j,⟨v,c,s,hB,hk,hnp⟩,hi⟩:=hrel;have Hnp:=hid hnp;clear hnp;by_cases hj:j<(fieldsOf V.k).length
  ·obtain⟨x,hc⟩:∃x,(fieldsOf V.k)[j]?=some x:=⟨_,List.getElem?_eq_getElem hj⟩
   have hcl:=letters V.k j x hc;obtain⟨hf1,hf2,hf3⟩:=Ai hc;have hm:wr.iterPos W4.heap.size=j:=by simp[World.iterPos,hi]
   have hG:=FI (s:=⟨(fieldsOf V.k).toArray⟩) (p:=j+1) hi;have hI:=hB.iter hi hG hz4;have hit:(wr.iterAt W4.heap.size ⟨(fieldsOf V.k).toArray⟩ (j+1)).heap[W4.heap.size]?=some (.stringIter ⟨(fieldsOf V.k).toArray⟩ (j+1)):=iterAt_heap _ _ _ _ _ hi;have hsl:s.l.length<=100000000:=by have:=hI.part.le;omega
   have hitg:W4.heap.size≠g:=fun e=>by obtain⟨_,_,h⟩:=hI.rd;have:=h.at_;rw[<-e,hit] at this;cases this
   have hito:W4.heap.size≠ob:=fun e=>by have:=hI.box;unfold InO OV.box at this;rw[<-e,hit] at this;cases this
   have hvk:Hid (v.k=V.k):=hid hk;have HF1:Hid (fieldsOf v.k=(fieldsOf V.k).take j++x::(fieldsOf V.k).drop (j+1)):=hid (by rw[hk];exact hf1);have HF2:=hid hf2;have HF3:=hid hf3;clear hB hk hf1 hf2 hf3;rcases hcl with rfl|rfl|rfl|rfl|rfl|rfl
   ·have hn:∀ty,(Instr.next (.pointer (some ⟨W4.heap.size,0,none⟩)) true ty).run Tryz.prog wr=.ok (.tuple #[.bool true,.int .i64 j,.int .i32 110]) (wr.iterAt W4.heap.size ⟨(fieldsOf V.k).toArray⟩ (j+1)):=fun ty=>bQ wr W4.heap.size (fieldsOf V.k) j 110 ty hi hc (by decide);go_wp2_with fail;have T:=bI s 2 (by decide);refine (jb W0.heap.size g s 2 _ hI.rd hsl).mono ?_;generalize s.bytes 2=y at *;rintro e W5 ⟨rfl,hr5,hg5⟩;obtain⟨a5,t5⟩:=hI.kept hg5;have hN:=hI.next (v':=v.setName ⟨y.1.toArray⟩) (i:=1) (x:=.string ⟨y.1.toArray⟩) hg5 hr5 hg0 hob hgo rfl ⟨a5.a,a5.b,a5.c,a5.la,a5.lb,a5.lc⟩ ⟨t5.a,t5.b,t5.c⟩ (hI.part.name T HF1.out HF3.out);have hb5:=hI.box.grown hg5 (fun e=>hgo (Option.some.inj e).symm);obtain⟨b0,b1,b2,b3,b4,b5,b6,b7⟩:=aO hb5;have hi5:=af (b:=ob) (i:=1) (x:=.string ⟨y.1.toArray⟩) ((hg5.block _ (Array.getElem?_eq_some_iff.1 hit).1 (fun e=>hitg (Option.some.inj e))).trans hit) hito;rw[<-HF2.out] at hN;clear hI hb5 hG;go_wp2_with fail;go_roundw
    case rel=>exact⟨j+1,⟨_,_,_,hN,hvk.out,fun h=>Hnp.out (fun hm=>h (by rw[HF2.out];exact List.mem_append_left _ hm))⟩,hi5⟩
    case measure=>rw[hm];simp[World.iterPos,hi5];omega
   ·have hn:∀ty,(Instr.next (.pointer (some ⟨W4.heap.size,0,none⟩)) true ty).run Tryz.prog wr=.ok (.tuple #[.bool true,.int .i64 j,.int .i32 116]) (wr.iterAt W4.heap.size ⟨(fieldsOf V.k).toArray⟩ (j+1)):=fun ty=>bQ wr W4.heap.size (fieldsOf V.k) j 116 ty hi hc (by decide);go_wp2_with fail;have T:=bI s 3 (by decide);refine (jb W0.heap.size g s 3 _ hI.rd hsl).mono ?_;generalize s.bytes 3=y at *;rintro e W5 ⟨rfl,hr5,hg5⟩;obtain⟨a5,t5⟩:=hI.kept hg5;have hN:=hI.next (v':=v.setTo ⟨y.1.toArray⟩) (i:=2) (x:=.string ⟨y.1.toArray⟩) hg5 hr5 hg0 hob hgo rfl ⟨a5.a,a5.b,a5.c,a5.la,a5.lb,a5.lc⟩ ⟨t5.a,t5.b,t5.c⟩ (hI.part.to_ T HF1.out HF3.out);have hb5:=hI.box.grown hg5 (fun e=>hgo (Option.some.inj e).symm);obtain⟨b0,b1,b2,b3,b4,b5,b6,b7⟩:=aO hb5;have hi5:=af (b:=ob) (i:=2) (x:=.string ⟨y.1.toArray⟩) ((hg5.block _ (Array.getElem?_eq_some_iff.1 hit).1 (fun e=>hitg (Option.some.inj e))).trans hit) hito;rw[<-HF2.out] at hN;clear hI hb5 hG;go_wp2_with fail;go_roundw
    case rel=>exact⟨j+1,⟨_,_,_,hN,hvk.out,fun h=>Hnp.out (fun hm=>h (by rw[HF2.out];exact List.mem_append_left _ hm))⟩,hi5⟩
    case measure=>rw[hm];simp[World.iterPos,hi5];omega
   ·have hn:∀ty,(Instr.next (.pointer (some ⟨W4.heap.size,0,none⟩)) true ty).run Tryz.prog wr=.ok (.tuple #[.bool true,.int .i64 j,.int .i32 97]) (wr.iterAt W4.heap.size ⟨(fieldsOf V.k).toArray⟩ (j+1)):=fun ty=>bQ wr W4.heap.size (fieldsOf V.k) j 97 ty hi hc (by decide);go_wp2_with fail;refine (zX W0.heap.size g s 4 _ (by decide) hI.rd hsl).mono ?_;rintro e W5 ⟨ao5,n5,cap5,xs5,s5,rfl,hrd5,hn5,hty5,hr5,hg5,T⟩;obtain⟨a5,t5⟩:=hI.kept hg5;have hN:=hI.next (v':=v.setAttrs ao5 n5 cap5) (c':=⟨xs5,c.parts,c.cursor⟩) (i:=3) (x:=.slice ao5 n5 cap5) hg5 hr5 hg0 hob hgo rfl ⟨hrd5,a5.b,a5.c,(by show n5<=_;omega),a5.lb,a5.lc⟩ ⟨hty5,t5.b,t5.c⟩ (hI.part.attrs T HF1.out HF3.out);have hb5:=hI.box.grown hg5 (fun e=>hgo (Option.some.inj e).symm);obtain⟨b0,b1,b2,b3,b4,b5,b6,b7⟩:=aO hb5;have hi5:=af (b:=ob) (i:=3) (x:=.slice ao5 n5 cap5) ((hg5.block _ (Array.getElem?_eq_some_iff.1 hit).1 (fun e=>hitg (Option.some.inj e))).trans hit) hito;rw[<-HF2.out] at hN;clear hI hb5 hG;go_wp2_with fail;go_roundw
    case rel=>exact⟨j+1,⟨_,_,_,hN,hvk.out,fun h=>Hnp.out (fun hm=>h (by rw[HF2.out];exact List.mem_append_left _ hm))⟩,hi5⟩
    case measure=>rw[hm];simp[World.iterPos,hi5];omega
   ·have hn:∀ty,(Instr.next (.pointer (some ⟨W4.heap.size,0,none⟩)) true ty).run Tryz.prog wr=.ok (.tuple #[.bool true,.int .i64 j,.int .i32 112]) (wr.iterAt W4.heap.size ⟨(fieldsOf V.k).toArray⟩ (j+1)):=fun ty=>bQ wr W4.heap.size (fieldsOf V.k) j 112 ty hi hc (by decide);go_wp2_with fail;obtain⟨p1,p2,p3⟩:=Hnp.out HF3.out;have hbx:InO ob (v.parts none 0 0) (wr.iterAt W4.heap.size ⟨(fieldsOf V.k).toArray⟩ (j+1)):=by
     have h:=hI.box;rw[Ik p1 p2 p3] at h;exact h
    have hzw:=(Array.getElem?_eq_some_iff.1 hI.box).1;have hgw:g<(wr.iterAt W4.heap.size ⟨(fieldsOf V.k).toArray⟩ (j+1)).heap.size:=by obtain⟨_,_,h⟩:=hI.rd;exact h.lt
    refine (I9 W0.heap.size g ob s 5 v _ (by decide) hI.rd hsl hbx hgo).mono ?_;rintro e W5 ⟨⟨r,rfl⟩,s5,a5,k5,l5,hr5,hb5,ho5,hX5,hn5,T⟩;have hK:KeepR (wr.iterAt W4.heap.size ⟨(fieldsOf V.k).toArray⟩ (j+1)) W5:=by
     refine KeepR.of_belX hX5 (fun k hk=>?_);simp only[List.mem_cons,List.not_mem_nil,or_false] at hk;rcases hk with rfl|rfl
     ·obtain⟨_,_,h⟩:=hI.rd;refine⟨_,h.at_,fun c t fr ht e=>?_⟩;cases e;rcases ht with h | h | h<;>exact absurd h (by decide)
     refine⟨_,hI.box,fun c t fr ht e=>?_⟩;cases e;rcases ht with h | h | h<;>exact absurd h (by decide)
    have a6:=hI.at_.kpr hI.ty hK;have t6:=hI.ty.kpr hK;have hr6:=Rd.of_own_slice ho5;have hN:OpGo W0.heap.size g ob W0 b (v.parts a5 l5.length k5) ⟨c.attrs,l5,c.cursor⟩ ((fieldsOf V.k).take j++[112]) s5 W5:=
     ⟨⟨hX5.os.trans hI.bel.os,hX5.tape.trans hI.bel.tape,hX5.output.trans hI.bel.output,Nat.le_trans hI.bel.size hX5.size,fun k hk=>(hX5.block k (Nat.lt_of_lt_of_le hk hI.bel.size) (by simp only[List.mem_cons,List.not_mem_nil,or_false];omega)).trans (hI.bel.block k hk)⟩,hb5,hr5,⟨a6.a,hr6,a6.c,a6.la,(by show l5.length<=_;omega),a6.lc⟩,⟨t6.a,TyX.of_own ho5,t6.c⟩,hI.part.parts T HF1.out HF3.out⟩
    have hi5:=hX5.at_ hit (Array.getElem?_eq_some_iff.1 hit).1 (by simp only[List.mem_cons,List.not_mem_nil,or_false,not_or];exact⟨hitg,hito⟩);rw[<-HF2.out] at hN;clear hI hG hbx hK;go_wp2_with fail;go_roundw
    case rel=>exact⟨j+1,⟨_,_,_,hN,hvk.out,fun h=>absurd (by rw[HF2.out];simp) h⟩,hi5⟩
    case measure=>rw[hm];simp[World.iterPos,hi5];omega
   ·have hn:∀ty,(Instr.next (.pointer (some ⟨W4.heap.size,0,none⟩)) true ty).run Tryz.prog wr=.ok (.tuple #[.bool true,.int .i64 j,.int .i32 99]) (wr.iterAt W4.heap.size ⟨(fieldsOf V.k).toArray⟩ (j+1)):=fun ty=>bQ wr W4.heap.size (fieldsOf V.k) j 99 ty hi hc (by decide);go_wp2_with fail;have T:=bI s 6 (by decide);have hyl:=iM s 6;refine (gK W0.heap.size g s 6 _ hI.rd hsl).mono ?_;generalize s.bytes 6=y at *;rintro e W5 ⟨ao5,cap5,rfl,hrd5,hty5,hr5,hg5⟩;obtain⟨a5,t5⟩:=hI.kept hg5;have hN:=hI.next (v':=v.setCur ao5 y.1.length cap5) (c':=⟨c.attrs,c.parts,y.1⟩) (i:=5) (x:=.slice ao5 y.1.length cap5) hg5 hr5 hg0 hob hgo rfl ⟨a5.a,a5.b,hrd5,a5.la,a5.lb,(by show y.1.length<=_;omega)⟩ ⟨t5.a,t5.b,hty5⟩ (hI.part.cur T HF1.out HF3.out);have hb5:=hI.box.grown hg5 (fun e=>hgo (Option.some.inj e).symm);obtain⟨b0,b1,b2,b3,b4,b5,b6,b7⟩:=aO hb5;have hi5:=af (b:=ob) (i:=5) (x:=.slice ao5 y.1.length cap5) ((hg5.block _ (Array.getElem?_eq_some_iff.1 hit).1 (fun e=>hitg (Option.some.inj e))).trans hit) hito;rw[<-HF2.out] at hN;clear hI hb5 hG;go_wp2_with fail;go_roundw
    case rel=>exact⟨j+1,⟨_,_,_,hN,hvk.out,fun h=>Hnp.out (fun hm=>h (by rw[HF2.out];exact List.mem_append_left _ hm))⟩,hi5⟩
    case measure=>rw[hm];simp[World.iterPos,hi5];omega
   have hn:∀ty,(Instr.next (.pointer (some ⟨W4.heap.size,0,none⟩)) true ty).run Tryz.prog wr=.ok (.tuple #[.bool true,.int .i64 j,.int .i32 107]) (wr.iterAt W4.heap.size ⟨(fieldsOf V.k).toArray⟩ (j+1)):=fun ty=>bQ wr W4.heap.size (fieldsOf V.k) j 107 ty hi hc (by decide);go_wp2_with fail;have T:=mD s 7 1000 (by decide) (by decide);have hle:=nG s 7 1000;refine (lH W0.heap.size g s 7 1000 _ hI.rd hsl (by decide)).mono ?_;generalize s.numM 7 1000=y at *;rintro e W5 ⟨rfl,hr5,hg5⟩;obtain⟨a5,t5⟩:=hI.kept hg5;have hN:=hI.next (v':=v.setN (y.1:Int)) (i:=6) (x:=.int .i64 (y.1:Int)) hg5 hr5 hg0 hob hgo rfl ⟨a5.a,a5.b,a5.c,a5.la,a5.lb,a5.lc⟩ ⟨t5.a,t5.b,t5.c⟩ (hI.part.num T hle HF1.out HF3.out);have hb5:=hI.box.grown hg5 (fun e=>hgo (Option.some.inj e).symm);obtain⟨b0,b1,b2,b3,b4,b5,b6,b7⟩:=aO hb5;have hi5:=af (b:=ob) (i:=6) (x:=.int .i64 (y.1:Int)) ((hg5.block _ (Array.getElem?_eq_some_iff.1 hit).1 (fun e=>hitg (Option.some.inj e))).trans hit) hito;rw[<-HF2.out] at hN;clear hI hb5 hG;go_wp2_with fail;go_roundw
   case rel=>exact⟨j+1,⟨_,_,_,hN,hvk.out,fun h=>Hnp.out (fun hm=>h (by rw[HF2.out];exact List.mem_append_left _ hm))⟩,hi5⟩
   case measure=>rw[hm];simp[World.iterPos,hi5];omega
  have hn:=fun ty=>run_next_end_at (P:=Tryz.prog) wr W4.heap.size ⟨(fieldsOf V.k).toArray⟩ j ty hi hj;have hP:=hB.part;rw[List.take_of_length_le (by omega),<-hk] at hP;obtain⟨c0,c1,c2,c3,c4,c5,c6,-⟩:=aO hB.box;have hrz:wr.heap[w.heap.size]?=some zeroV.box:=(hB.bel.block _ (by omega)).trans k0f;have HP:=hid hP;clear hP hk;have hfin:∀cs:Array Value,(wr.setRow w.heap.size cs).heap[w.heap.size]?=some (.cells cs 36)/\Below w.heap.size w (wr.setRow w.heap.size cs):=fun cs=>
   ⟨aT hrz,below_setRow (hb0.trans (hB.bel.mono (by omega))) (Nat.le_refl _) cs⟩
  go_wp2_with fail;refine (nJ W0.heap.size g s wr hB.rd).mono ?_;rintro e w5 ⟨rfl,rfl⟩;by_cases he:s.bad=true\/0<s.l.length
  ·have e4:s.ends=4:=if_pos he;have hno:=HP.out.left he;rw[e4];obtain⟨f1,f2⟩:=hfin zeroV.cells;go_wp2_with (refine zSr rfl hrz ?_;go_simp);refine bodyPost_ret (w:=wr.setRow w.heap.size zeroV.cells) (aI (i:=2) (j:=3) (t:=36) rfl rfl rfl (by kernel_rfl) (by kernel_rfl) f1) rfl ⟨f2,.inr ⟨rfl,hno⟩⟩
  have e4:s.ends=0:=if_neg he;have hs1:s.bad=false:=by cases h:s.bad with
   | true=>exact absurd (.inl h) he
   | false=>rfl
  have hs2:s.l=[]:=List.eq_nil_of_length_eq_zero (by
   have:¬0<s.l.length:=fun h=>he (.inr h);omega)
  rw[e4];have hmay:=(jy wr v c hB.at_).may wr hB.at_;unfold OV.val at hmay;have hbox:=hB.box;go_wp2_with (refine zLr rfl hbox ?_;go_simp);refine hmay.mono ?_;rintro e w6 ⟨rfl,hb6⟩;have hrz6:=(hb6.block _ (Array.getElem?_eq_some_iff.1 hrz).1).trans hrz;have hbox6:=hB.box.step hb6;have hbel6:=(hb0.trans (hB.bel.mono (by omega))).trans (hb6.mono (Nat.le_trans hb0.size hB.bel.size));have hfin6:∀cs:Array Value,(w6.setRow w.heap.size cs).heap[w.heap.size]?=some (.cells cs 36)/\Below w.heap.size w (w6.setRow w.heap.size cs):=fun cs=>
   ⟨aT hrz6,below_setRow hbel6 (Nat.le_refl _) cs⟩
  have hkr:KeepR w6 (w6.setRow w.heap.size v.cells):=by
   refine⟨(below_setRow (Below.refl w.heap.size w6) (Nat.le_refl _) v.cells).size,fun k c t fr ht hk=>?_⟩;have hne:k≠w.heap.size:=fun e=>by
    subst e;rw[hrz6] at hk;cases hk;rcases ht with h | h | h<;>exact absurd h (by decide)
   exact (setRow_other w6 w.heap.size k v.cells hne).trans hk
  have ha6:=(hB.at_.later hb6).kpr (hB.ty.kpr (KeepR.of_below hb6)) hkr;have ht6:=(hB.ty.kpr (KeepR.of_below hb6)).kpr hkr;cases hm:aB v c with
  | false=>
   have hno:=HP.out.notMay hs1 hs2 hB.at_ hm;obtain⟨f1,f2⟩:=hfin6 zeroV.cells;go_wp2_with (refine zSr rfl hrz6 ?_;go_simp);exact bodyPost_ret (w:=w6.setRow w.heap.size zeroV.cells) (aI (i:=2) (j:=3) (t:=36) rfl rfl rfl (by kernel_rfl) (by kernel_rfl) f1) rfl ⟨f2,.inr ⟨rfl,hno⟩⟩
  | true=>
   have hyes:=HP.out.done hs1 hs2;obtain⟨f1,f2⟩:=hfin6 v.cells;go_wp2_with (first | (refine zLr rfl hbox6 ?_;go_simp) | (refine zSr rfl hrz6 ?_;go_simp));exact bodyPost_ret (w:=w6.setRow w.heap.size v.cells) (aI (i:=2) (j:=3) (t:=36) rfl rfl rfl (by kernel_rfl) (by kernel_rfl) f1) rfl ⟨f2,.inl ⟨v,c,rfl,ha6,ht6,hm,hyes⟩⟩
end Go.Proofs.YtfmmandlmbcncaaGreatDoor.Msg
