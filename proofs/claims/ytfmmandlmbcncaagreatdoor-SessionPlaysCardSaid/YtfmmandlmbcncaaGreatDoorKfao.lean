/-A part of the proof.-/
import Derived.Test.YtfmmandlmbcncaaGreatDoorKfan
set_option maxHeartbeats 40000000
set_option maxRecDepth 100000
set_option linter.all false
namespace Go.Proofs.YtfmmandlmbcncaaGreatDoor
namespace Msg
open Go.RowKit Go.Lib Mem Tlv
variable{it j:Nat}{s:RS}{v:OV}{v' v0:EV}{w' wr:World}
def FC (T:World->OV->Prop)(ok bad:Value)(b:List UInt8)(w:World)(e:Ending)(w':World):Prop:=Below w.heap.size w w' /\
 ((∃v c,e=.returned (.tuple #[v.val,ok])/\OpAt w' v c/\T w' v/\aA v c=true/\opL v c=b)\/(e=.returned (.tuple #[zeroV.val,bad])/\wQ b))
theorem He{p:Nat}{s s':ByteArray}(_h:wr.heap[it]?=some (.stringIter s' j)):wr.grownBy (wr.iterAt it s p) (some it):=by
 have hb:=below_iterAt (yaj it wr) (yag _) s p;exact⟨hb.os,hb.tape,hb.output,hb.size,fun k _ hne=>iterAt_other _ _ _ _ _ (fun e=>hne (by rw[e]))⟩
theorem Nw{s:ByteArray}(h:wr.heap[it]?=some (.stringIter s j))(hg:wr.grownBy w' (some it)):KeepR wr w':=by
 refine KeepR.of_belX (BelX.of_grown hg) (fun k hk=>?_);rw[yah.1 hk];exact⟨_,h,fun c t fr _ e=>by cases e⟩
def OV.cells (v:OV):Array Value:=#[.int .i64 v.k,.string v.name,.string v.to,.slice v.ao v.an v.ac,.slice v.bo v.bn v.bc,.slice v.co v.cn v.cc,.int .i64 v.n]
theorem BJ(h1:v.bo=none)(h2:v.bn=0)(h3:v.bc=0):v=v.parts none 0 0:=by
 cases v;dsimp only at h1 h2 h3;subst h1 h2 h3;rfl
structure OpLoop (B g ob it:Nat)(w:World)(b:List UInt8)(k:Int)(j:Nat)(wr:World):Prop where
 ex:∃v c s,OpGo B g ob w b v c ((fieldsOf k).take j) s wr/\v.k=k/\(112∉(fieldsOf k).take j->v.bo=none/\v.bn=0/\v.bc=0)
 hi:wr.heap[it]?=some (.stringIter ⟨(fieldsOf k).toArray⟩ j)
theorem OpGo.iter{B g ob:Nat}{w:World}{b:List UInt8}{c:OC}{ls:List UInt8}{x:ByteArray}(h:OpGo B g ob w b v c ls s wr)(hi:wr.heap[it]?=some (.stringIter x j))(hg:wr.grownBy w' (some it))(hw:w.heap.size<=it):OpGo B g ob w b v c ls s w':=by
 have hk:=Nw hi hg;have h1:it≠ob:=fun e=>by have:=h.box;unfold InO OV.box at this;rw[<-e,hi] at this;cases this
 have h2:g≠it:=fun e=>by obtain⟨_,_,h⟩:=h.rd;have:=h.at_;rw[e,hi] at this;cases this
 exact⟨h.bel.trans (below_of_grown hg hw (lA hi)),h.box.grown hg (fun e=>h1 (yaf e).symm),h.rd.grown hg hi (fun c fr h=>by cases h) h2,h.at_.kpr h.ty hk,h.ty.kpr hk,h.part⟩
theorem Part.start2{b:List UInt8}{n:Nat}(h:Took (fun n:Nat=>val 1 (au n)) (fun n=>n<=255) (fun n=>n<=255) ⟨b,false⟩ n s)(hn:n<=255) :
  Part b ⟨(n:Int),⟨#[]⟩,⟨#[]⟩,none,0,0,none,0,0,none,0,0,0⟩ ⟨[],[],[]⟩ [] s where
 k0:=by dsimp only;omega
 k1:=by dsimp only;omega
 only:=⟨fun _=>rfl,fun _=>rfl,fun _=>rfl,fun _=>rfl,fun _=>rfl,fun _=>rfl⟩
 n0:=by dsimp only;omega
 n1:=by dsimp only;omega
 good:=fun l hl=>absurd hl yal
 yes:=fun hb=>by
  have:=(h.yes hb).2.1;rw[pJ];simpa using this
 no:=fun hb=>by
  rcases h.no hb with h | h
  ·cases h
  intro W v c ho hm e;have hk:=yM hm;refine h v.k.toNat ((fieldsOf v.k).flatMap (dV v c)) (by omega) ?_;rw[<-e];rfl
 le:=h.le
theorem NT(b:List UInt8)(ao:Option Addr)(n cap:Nat)(w:World)(hr:Rd w 1 ao n cap (byV b))(hn:n<=100000000) :
  Calls Tryz.prog 229 #[.slice ao n cap] w (FC OpTy (.int .i64 0) (.int .i64 4) b w):=by
 have hbn:b.length=n:=by have:=hr.1;rw[aV] at this;omega
 have hus:Tryz.prog.underlying 9=some .string:=Tryz.underlying9;have hb0:=bN w zeroV.box;have k0:=aN w zeroV.box
 have hz0:(w.alloc zeroV.box).heap.size=w.heap.size+1:=by simp
 have hr0:=hr.later hb0;unfold zeroV OV.box at hb0 k0 hz0 hr0;dsimp only at hb0 k0 hz0 hr0;clear hr;go_in;go_upto_region 1 with fail;generalize hg:w.alloc _=W0 at *;have k0f:W0.heap[w.heap.size]?=some zeroV.box:=k0;clear hg k0;go_wp2_with fail;refine (pV ao n cap b W0 hr0 (by omega)).mono ?_;rintro e W1 ⟨g,rfl,hr1,hb1⟩;have hg0:W0.heap.size<=g:=by obtain⟨_,_,h⟩:=hr1;exact h.le
 have hT:=mG ⟨b,false⟩ 1 255 (by decide) (by decide);have hnm:=nT ⟨b,false⟩ 1 255;have hnum:=mW W0.heap.size g ⟨b,false⟩ 1 255 W1 hr1 (by dsimp only;omega) (by decide);generalize RS.numM ⟨b,false⟩ 1 255=nm at *;obtain⟨kn,s0⟩:=nm;dsimp only at hT hnm hnum;go_wp2_with fail;refine hnum.mono ?_;rintro e W2 ⟨rfl,hr2,hg2⟩;have hz2:=hg2.size;have hz1:=hb1.size;have hgs:g<W1.heap.size:=by obtain⟨_,_,h⟩:=hr1;exact h.lt
 have hb2:Below W0.heap.size W0 W2:=hb1.trans (below_of_grown hg2 hg0 hgs);go_upto_region 3 with (refine zNr rfl ?_;go_simp);have hP:=Part.start2 hT hnm;have HP:=hid hP;clear hT hnm hnum hP;obtain⟨V,hV⟩:∃V:OV,V=⟨(kn:Int),⟨#[]⟩,⟨#[]⟩,none,0,0,none,0,0,none,0,0,0⟩:=⟨_,rfl⟩
 have hVk:(kn:Int)=V.k:=by rw[hV]
 generalize hg:W2.alloc _=W3;have e3:W2.alloc V.box=W3:=by rw[hV];exact hg
 have hb3:=bE e3
 have kb:InO W2.heap.size V W3:=aE e3
 have ho3:OpGo W0.heap.size g W2.heap.size W0 b V ⟨[],[],[]⟩ ((fieldsOf V.k).take 0) s0 W3:=by
  refine⟨hb2.trans (hb3.mono (by omega)),kb,hr2.later hb3,?_,?_,?_⟩
  ·rw[hV];exact⟨Rd.nil _ _,Rd.nil _ _,Rd.nil _ _,yam _,yam _,yam _⟩
  ·rw[hV];exact⟨fun h=>absurd h (yaw 0),fun h=>absurd h (yaw 0),fun h=>absurd h (yaw 0)⟩
  rw[hV];exact HP.out
 have Hnil:Hid (V.bo=none/\V.bn=0/\V.bc=0):=hid (by rw[hV];exact⟨rfl,rfl,rfl⟩);clear e3 hg kb hV HP;have hgo:g≠W2.heap.size:=by omega
 have hob:W0.heap.size<=W2.heap.size:=by omega
 obtain⟨c0,-⟩:=aC ho3.box;generalize W2.heap.size=ob at *;go_wp2_with fail;refine (oN V.k W3).mono ?_;rintro e W4 ⟨rfl,hb4⟩;have ho4:OpGo W0.heap.size g ob W0 b V ⟨[],[],[]⟩ ((fieldsOf V.k).take 0) s0 W4:=⟨ho3.bel.trans (hb4.mono ho3.bel.size),ho3.box.step hb4,ho3.rd.later hb4,ho3.at_.later hb4,ho3.ty.kpr (KeepR.of_below hb4),ho3.part⟩
 have hrg:=run_range_string (P:=Tryz.prog) W4 9 ⟨(fieldsOf V.k).toArray⟩ hus;have hz4:=ho4.bel.size;clear c0 ho3 hb4 hVk;go_wp2_with fail;go_loopw [] (fun wr=>∃j,OpLoop W0.heap.size g ob W4.heap.size W0 b V.k j wr) (fun wr=>(fieldsOf V.k).length-wr.iterPos W4.heap.size)
 case atStart=>
  have hbi:Below W4.heap.size W4 (W4.iter ⟨(fieldsOf V.k).toArray⟩ 0):=bN _ _;exact⟨0,⟨V,_,s0,⟨ho4.bel.trans (hbi.mono hz4),ho4.box.step hbi,ho4.rd.later hbi,ho4.at_.later hbi,ho4.ty.kpr (KeepR.of_below hbi),ho4.part⟩,rfl,fun _=>Hnil.out⟩,aN _ _⟩
 case round=>
  obtain⟨j,⟨v,c,s,hB,hk,hnp⟩,hi⟩:=hrel;have Hnp:=hid hnp;clear hnp;by_cases hj:j<(fieldsOf V.k).length
  ·obtain⟨x,hc⟩:∃x,(fieldsOf V.k)[j]?=some x:=⟨_,yac hj⟩
   have hcl:=letters V.k j x hc;obtain⟨hf1,hf2,hf3⟩:=Dj hc;have hm:wr.iterPos W4.heap.size=j:=by simp[World.iterPos,hi]
   have hG:=He (s:=⟨(fieldsOf V.k).toArray⟩) (p:=j+1) hi;have hI:=hB.iter hi hG hz4;have hit:(wr.iterAt W4.heap.size ⟨(fieldsOf V.k).toArray⟩ (j+1)).heap[W4.heap.size]?=some (.stringIter ⟨(fieldsOf V.k).toArray⟩ (j+1)):=iterAt_heap _ _ _ _ _ hi;have hsl:s.l.length<=100000000:=by have:=hI.part.le;omega
   have hitg:W4.heap.size≠g:=fun e=>by obtain⟨_,_,h⟩:=hI.rd;have:=h.at_;rw[<-e,hit] at this;cases this
   have hito:W4.heap.size≠ob:=fun e=>by have:=hI.box;unfold InO OV.box at this;rw[<-e,hit] at this;cases this
   have hvk:Hid (v.k=V.k):=hid hk;have HF1:Hid (fieldsOf v.k=(fieldsOf V.k).take j++x::(fieldsOf V.k).drop (j+1)):=hid (by rw[hk];exact hf1);have HF2:=hid hf2;have HF3:=hid hf3;clear hB hk hf1 hf2 hf3;rcases hcl with rfl|rfl|rfl|rfl|rfl|rfl
   ·have hn:=fun ty=>dm (P:=Tryz.prog) wr W4.heap.size (fieldsOf V.k) j 110 ty hi hc (by decide);go_wp2_with fail;have T:=bC s 2 (by decide);refine (jT W0.heap.size g s 2 _ hI.rd hsl).mono ?_;generalize s.bytes 2=y at *;rintro e W5 ⟨rfl,hr5,hg5⟩;obtain⟨a5,t5⟩:=hI.kept hg5;have hN:=hI.next (v':=v.setName ⟨y.1.toArray⟩) (i:=1) (x:=.string ⟨y.1.toArray⟩) hg5 hr5 hg0 hob hgo rfl ⟨a5.a,a5.b,a5.c,a5.la,a5.lb,a5.lc⟩ ⟨t5.a,t5.b,t5.c⟩ (hI.part.name T HF1.out HF3.out);have hb5:=hI.box.grown hg5 (fun e=>hgo (yaf e).symm);obtain⟨b0,b1,b2,b3,b4,b5,b6,b7⟩:=aC hb5;have hi5:=ah (b:=ob) (i:=1) (x:=.string ⟨y.1.toArray⟩) ((hg5.block _ (lA hit) (fun e=>hitg (yaf e))).trans hit) hito;rw[<-HF2.out] at hN;clear hI hb5 hG;go_wp2_with fail;go_roundw
    case rel=>exact⟨j+1,⟨_,_,_,hN,hvk.out,fun h=>Hnp.out (fun hm=>h (by rw[HF2.out];exact yaN _ hm))⟩,hi5⟩
    case measure=>rw[hm];simp[World.iterPos,hi5];omega
   ·have hn:=fun ty=>dm (P:=Tryz.prog) wr W4.heap.size (fieldsOf V.k) j 116 ty hi hc (by decide);go_wp2_with fail;have T:=bC s 3 (by decide);refine (jT W0.heap.size g s 3 _ hI.rd hsl).mono ?_;generalize s.bytes 3=y at *;rintro e W5 ⟨rfl,hr5,hg5⟩;obtain⟨a5,t5⟩:=hI.kept hg5;have hN:=hI.next (v':=v.setTo ⟨y.1.toArray⟩) (i:=2) (x:=.string ⟨y.1.toArray⟩) hg5 hr5 hg0 hob hgo rfl ⟨a5.a,a5.b,a5.c,a5.la,a5.lb,a5.lc⟩ ⟨t5.a,t5.b,t5.c⟩ (hI.part.to_ T HF1.out HF3.out);have hb5:=hI.box.grown hg5 (fun e=>hgo (yaf e).symm);obtain⟨b0,b1,b2,b3,b4,b5,b6,b7⟩:=aC hb5;have hi5:=ah (b:=ob) (i:=2) (x:=.string ⟨y.1.toArray⟩) ((hg5.block _ (lA hit) (fun e=>hitg (yaf e))).trans hit) hito;rw[<-HF2.out] at hN;clear hI hb5 hG;go_wp2_with fail;go_roundw
    case rel=>exact⟨j+1,⟨_,_,_,hN,hvk.out,fun h=>Hnp.out (fun hm=>h (by rw[HF2.out];exact yaN _ hm))⟩,hi5⟩
    case measure=>rw[hm];simp[World.iterPos,hi5];omega
   ·have hn:=fun ty=>dm (P:=Tryz.prog) wr W4.heap.size (fieldsOf V.k) j 97 ty hi hc (by decide);go_wp2_with fail;refine (BU W0.heap.size g s 4 _ (by decide) hI.rd hsl).mono ?_;rintro e W5 ⟨ao5,n5,cap5,xs5,s5,rfl,hrd5,hn5,hty5,hr5,hg5,T⟩;obtain⟨a5,t5⟩:=hI.kept hg5;have hN:=hI.next (v':=v.setAttrs ao5 n5 cap5) (c':=⟨xs5,c.parts,c.cursor⟩) (i:=3) (x:=.slice ao5 n5 cap5) hg5 hr5 hg0 hob hgo rfl ⟨hrd5,a5.b,a5.c,(by show n5<=_;omega),a5.lb,a5.lc⟩ ⟨hty5,t5.b,t5.c⟩ (hI.part.attrs T HF1.out HF3.out);have hb5:=hI.box.grown hg5 (fun e=>hgo (yaf e).symm);obtain⟨b0,b1,b2,b3,b4,b5,b6,b7⟩:=aC hb5;have hi5:=ah (b:=ob) (i:=3) (x:=.slice ao5 n5 cap5) ((hg5.block _ (lA hit) (fun e=>hitg (yaf e))).trans hit) hito;rw[<-HF2.out] at hN;clear hI hb5 hG;go_wp2_with fail;go_roundw
    case rel=>exact⟨j+1,⟨_,_,_,hN,hvk.out,fun h=>Hnp.out (fun hm=>h (by rw[HF2.out];exact yaN _ hm))⟩,hi5⟩
    case measure=>rw[hm];simp[World.iterPos,hi5];omega
   ·have hn:=fun ty=>dm (P:=Tryz.prog) wr W4.heap.size (fieldsOf V.k) j 112 ty hi hc (by decide);go_wp2_with fail;obtain⟨p1,p2,p3⟩:=Hnp.out HF3.out;have hbx:InO ob (v.parts none 0 0) (wr.iterAt W4.heap.size ⟨(fieldsOf V.k).toArray⟩ (j+1)):=by
     have h:=hI.box;rw[BJ p1 p2 p3] at h;exact h
    have hzw:=lA hI.box;have hgw:g<(wr.iterAt W4.heap.size ⟨(fieldsOf V.k).toArray⟩ (j+1)).heap.size:=by obtain⟨_,_,h⟩:=hI.rd;exact h.lt
    refine (KR W0.heap.size g ob s 5 v _ (by decide) hI.rd hsl hbx hgo).mono ?_;rintro e W5 ⟨⟨r,rfl⟩,s5,a5,k5,l5,hr5,hb5,ho5,hX5,hn5,T⟩;have hK:KeepR (wr.iterAt W4.heap.size ⟨(fieldsOf V.k).toArray⟩ (j+1)) W5:=by
     refine KeepR.of_belX hX5 (fun k hk=>?_);simp only[yas,yal,or_false] at hk;rcases hk with rfl|rfl
     ·obtain⟨_,_,h⟩:=hI.rd;refine⟨_,h.at_,fun c t fr ht e=>?_⟩;cases e;rcases ht with h | h | h<;>exact absurd h (by decide)
     refine⟨_,hI.box,fun c t fr ht e=>?_⟩;cases e;rcases ht with h | h | h<;>exact absurd h (by decide)
    have a6:=hI.at_.kpr hI.ty hK;have t6:=hI.ty.kpr hK;have hr6:=Rd.of_own_slice ho5;have hN:OpGo W0.heap.size g ob W0 b (v.parts a5 l5.length k5) ⟨c.attrs,l5,c.cursor⟩ ((fieldsOf V.k).take j++[112]) s5 W5:=
     ⟨⟨hX5.os.trans hI.bel.os,hX5.tape.trans hI.bel.tape,hX5.output.trans hI.bel.output,yae hI.bel.size hX5.size,fun k hk=>(hX5.block k (yaz hk hI.bel.size) (by simp only[yas,yal,or_false];omega)).trans (hI.bel.block k hk)⟩,hb5,hr5,⟨a6.a,hr6,a6.c,a6.la,(by show l5.length<=_;omega),a6.lc⟩,⟨t6.a,TyX.of_own ho5,t6.c⟩,hI.part.parts T HF1.out HF3.out⟩
    have hi5:=hX5.at_ hit (lA hit) (by simp only[yas,yal,or_false,not_or];exact⟨hitg,hito⟩);rw[<-HF2.out] at hN;clear hI hG hbx hK;go_wp2_with fail;go_roundw
    case rel=>exact⟨j+1,⟨_,_,_,hN,hvk.out,fun h=>absurd (by rw[HF2.out];simp) h⟩,hi5⟩
    case measure=>rw[hm];simp[World.iterPos,hi5];omega
   ·have hn:=fun ty=>dm (P:=Tryz.prog) wr W4.heap.size (fieldsOf V.k) j 99 ty hi hc (by decide);go_wp2_with fail;have T:=bC s 6 (by decide);have hyl:=fU s 6;refine (iZ W0.heap.size g s 6 _ hI.rd hsl).mono ?_;generalize s.bytes 6=y at *;rintro e W5 ⟨ao5,cap5,rfl,hrd5,hty5,hr5,hg5⟩;obtain⟨a5,t5⟩:=hI.kept hg5;have hN:=hI.next (v':=v.setCur ao5 y.1.length cap5) (c':=⟨c.attrs,c.parts,y.1⟩) (i:=5) (x:=.slice ao5 y.1.length cap5) hg5 hr5 hg0 hob hgo rfl ⟨a5.a,a5.b,hrd5,a5.la,a5.lb,(by show y.1.length<=_;omega)⟩ ⟨t5.a,t5.b,hty5⟩ (hI.part.cur T HF1.out HF3.out);have hb5:=hI.box.grown hg5 (fun e=>hgo (yaf e).symm);obtain⟨b0,b1,b2,b3,b4,b5,b6,b7⟩:=aC hb5;have hi5:=ah (b:=ob) (i:=5) (x:=.slice ao5 y.1.length cap5) ((hg5.block _ (lA hit) (fun e=>hitg (yaf e))).trans hit) hito;rw[<-HF2.out] at hN;clear hI hb5 hG;go_wp2_with fail;go_roundw
    case rel=>exact⟨j+1,⟨_,_,_,hN,hvk.out,fun h=>Hnp.out (fun hm=>h (by rw[HF2.out];exact yaN _ hm))⟩,hi5⟩
    case measure=>rw[hm];simp[World.iterPos,hi5];omega
   have hn:=fun ty=>dm (P:=Tryz.prog) wr W4.heap.size (fieldsOf V.k) j 107 ty hi hc (by decide);go_wp2_with fail;have T:=mG s 7 1000 (by decide) (by decide);have hle:=nT s 7 1000;refine (mW W0.heap.size g s 7 1000 _ hI.rd hsl (by decide)).mono ?_;generalize s.numM 7 1000=y at *;rintro e W5 ⟨rfl,hr5,hg5⟩;obtain⟨a5,t5⟩:=hI.kept hg5;have hN:=hI.next (v':=v.setN (y.1:Int)) (i:=6) (x:=.int .i64 (y.1:Int)) hg5 hr5 hg0 hob hgo rfl ⟨a5.a,a5.b,a5.c,a5.la,a5.lb,a5.lc⟩ ⟨t5.a,t5.b,t5.c⟩ (hI.part.num T hle HF1.out HF3.out);have hb5:=hI.box.grown hg5 (fun e=>hgo (yaf e).symm);obtain⟨b0,b1,b2,b3,b4,b5,b6,b7⟩:=aC hb5;have hi5:=ah (b:=ob) (i:=6) (x:=.int .i64 (y.1:Int)) ((hg5.block _ (lA hit) (fun e=>hitg (yaf e))).trans hit) hito;rw[<-HF2.out] at hN;clear hI hb5 hG;go_wp2_with fail;go_roundw
   case rel=>exact⟨j+1,⟨_,_,_,hN,hvk.out,fun h=>Hnp.out (fun hm=>h (by rw[HF2.out];exact yaN _ hm))⟩,hi5⟩
   case measure=>rw[hm];simp[World.iterPos,hi5];omega
  have hn:=fun ty=>run_next_end_at (P:=Tryz.prog) wr W4.heap.size ⟨(fieldsOf V.k).toArray⟩ j ty hi hj;have hP:=hB.part;rw[yak (by omega),<-hk] at hP;obtain⟨c0,c1,c2,c3,c4,c5,c6,-⟩:=aC hB.box;have hrz:wr.heap[w.heap.size]?=some zeroV.box:=(hB.bel.block _ (by omega)).trans k0f;have HP:=hid hP;clear hP hk;have hfin:∀cs:Array Value,(wr.setRow w.heap.size cs).heap[w.heap.size]?=some (.cells cs 36)/\Below w.heap.size w (wr.setRow w.heap.size cs):=fun cs=>
   ⟨aO hrz,below_setRow (hb0.trans (hB.bel.mono (by omega))) (yag _) cs⟩
  go_wp2_with fail;refine (qB W0.heap.size g s wr hB.rd).mono ?_;rintro e w5 ⟨rfl,rfl⟩;by_cases he:s.bad=true\/0<s.l.length
  ·have e4:s.ends=4:=if_pos he;have hno:=HP.out.left he;rw[e4];obtain⟨f1,f2⟩:=hfin zeroV.cells;go_wp2_with (refine zSr rfl hrz ?_;go_simp);refine yay (w:=wr.setRow w.heap.size zeroV.cells) (aj (i:=2) (j:=3) (t:=36) rfl rfl rfl (by kernel_rfl) (by kernel_rfl) f1) rfl ⟨f2,.inr ⟨rfl,hno⟩⟩
  have e4:s.ends=0:=if_neg he;have hs1:s.bad=false:=by cases h:s.bad with
   | true=>exact absurd (.inl h) he
   | false=>rfl
  have hs2:s.l=[]:=yat (by
   have:¬0<s.l.length:=fun h=>he (.inr h);omega)
  rw[e4];have hmay:=(jI wr v c hB.at_).may wr hB.at_;unfold OV.val at hmay;have hbox:=hB.box;go_wp2_with (refine zLr rfl hbox ?_;go_simp);refine hmay.mono ?_;rintro e w6 ⟨rfl,hb6⟩;have hrz6:=hb6.q hrz;have hbox6:=hB.box.step hb6;have hbel6:=(hb0.trans (hB.bel.mono (by omega))).trans (hb6.mono (yae hb0.size hB.bel.size));have hfin6:∀cs:Array Value,(w6.setRow w.heap.size cs).heap[w.heap.size]?=some (.cells cs 36)/\Below w.heap.size w (w6.setRow w.heap.size cs):=fun cs=>
   ⟨aO hrz6,below_setRow hbel6 (yag _) cs⟩
  have hkr:KeepR w6 (w6.setRow w.heap.size v.cells):=by
   refine⟨(below_setRow (yaj w.heap.size w6) (yag _) v.cells).size,fun k c t fr ht hk=>?_⟩;have hne:k≠w.heap.size:=fun e=>by
    subst e;rw[hrz6] at hk;cases hk;rcases ht with h | h | h<;>exact absurd h (by decide)
   exact (yba w6 w.heap.size k v.cells hne).trans hk
  have ha6:=(hB.at_.later hb6).kpr (hB.ty.kpr (KeepR.of_below hb6)) hkr;have ht6:=(hB.ty.kpr (KeepR.of_below hb6)).kpr hkr;cases hm:aA v c with
  | false=>
   have hno:=HP.out.notMay hs1 hs2 hB.at_ hm;obtain⟨f1,f2⟩:=hfin6 zeroV.cells;go_wp2_with (refine zSr rfl hrz6 ?_;go_simp);exact yay (w:=w6.setRow w.heap.size zeroV.cells) (aj (i:=2) (j:=3) (t:=36) rfl rfl rfl (by kernel_rfl) (by kernel_rfl) f1) rfl ⟨f2,.inr ⟨rfl,hno⟩⟩
  | true=>
   have hyes:=HP.out.done hs1 hs2;obtain⟨f1,f2⟩:=hfin6 v.cells;go_wp2_with (first | (refine zLr rfl hbox6 ?_;go_simp) | (refine zSr rfl hrz6 ?_;go_simp));exact yay (w:=w6.setRow w.heap.size v.cells) (aj (i:=2) (j:=3) (t:=36) rfl rfl rfl (by kernel_rfl) (by kernel_rfl) f1) rfl ⟨f2,.inl ⟨v,c,rfl,ha6,ht6,hm,hyes⟩⟩
def uA (b:List UInt8):Prop:=∀v x,aB v x=true->eX v x≠b
theorem ru(v:EV)(x:List (ByteArray×ByteArray)):eX v x=val 1 v.name.data.toList++(val 2 (aI x)++[]):=by unfold eX;simp
theorem BN{v:EV}{x:List (ByteArray×ByteArray)}(h:v.name=v'.name):aB v x=aB v' x:=by unfold aB;rw[h]
theorem Qm{v:EV}{x x':List (ByteArray×ByteArray)}(hm:aB v x=true)(hm':aB v' x'=true)(h:eX v x=eX v' x'):bZ v x v' x'=true:=by
 have f:=FitE.of hm;have f':=FitE.of hm';have n1:=f.name;have n2:=f'.name;have a1:=f.len;have a2:=f'.len;have z1:v.name.data.toList.length=v.name.size:=gV _;have z2:v'.name.data.toList.length=v'.name.size:=gV _;rw[ru,ru] at h;obtain⟨h1,h⟩:=az (by decide) (by omega) (by omega) h;obtain⟨h2,-⟩:=az (by decide) (by omega) (by omega) h;have h3:=nP x x' (by omega) (by omega) h2;unfold bZ;rw[yaa (mD h1),yaa h3];rfl
section
variable {b y:List UInt8} {s1 s2:RS} {xs:List (ByteArray×ByteArray)}
 (T1:Took (val 1) (fun z=>z.length<=4194304) (fun z=>z.length<=4194304) ⟨b,false⟩ y s1)
 (T2:Took (fun ys=>val 2 (aI ys)) (fun ys=>bI ys=true/\(aI ys).length<=4194304) (fun ys=>(aI ys).length<=4194304) s1 xs s2)
include T1 T2
theorem ug(hv:v0.name=⟨y.toArray⟩)(h:(s2.bad=true\/0<s2.l.length)\/aB v0 xs=false):uA b:=by
 intro v x hm e;have f:=FitE.of hm;have n1:=f.name;have a1:=f.len;have z1:v.name.data.toList.length=v.name.size:=gV _;have hma:bI x=true:=by
  unfold aB at hm;simp only[yaq] at hm;exact hm.2
 rw[ru] at e;cases h1:s1.bad with
 | true=>
  rcases T1.no h1 with h | h
  ·cases h
  exact h _ _ (by omega) e.symm
 | false=>
  obtain⟨-,e1,g1⟩:=T1.yes h1;dsimp only at e1;rw[e1] at e;obtain⟨en,e⟩:=az (by decide) (by omega) g1 e;cases h2:s2.bad with
  | true=>
   rcases T2.no h2 with h | h
   ·rw[h1] at h;cases h
   exact h x [] ⟨hma,by omega⟩ e.symm
  | false=>
   obtain⟨-,e2,g2⟩:=T2.yes h2;rw[e2] at e;obtain⟨ea,e⟩:=az (by decide) (by omega) g2 e;have hx:=nP x xs (by omega) g2 ea;rcases h with (h | h) | h
   ·rw[h2] at h;cases h
   ·rw[<-e] at h;simp at h
   have hn:v.name=v0.name:=by
    rw[hv];refine mD ?_;rw[en]
   rw[<-hx,<-BN hn,hm] at h;cases h
theorem CO(hv:v0.name=⟨y.toArray⟩)(h2:s2.bad=false)(hl:s2.l=[]):eX v0 xs=b:=by
 obtain⟨h1,e2,-⟩:=T2.yes h2;obtain⟨-,e1,-⟩:=T1.yes h1;dsimp only at e1;rw[ru,hv,e1,e2,hl]
end
theorem kJ{α:Type}{body:α->List UInt8}{may may' good good':α->Prop}{s':RS}{y:α}(h:Took body may good s y s')(h1:∀z,may' z->may z)(h2:∀z,good z->good' z):Took body may' good' s y s':=
 ⟨fun hb=>by obtain⟨a,b,c⟩:=h.yes hb;exact⟨a,b,h2 _ c⟩,fun hb=>(h.no hb).imp id (fun k z r hz=>k z r (h1 z hz)),h.le⟩
def wZ (ok bad:Value)(b:List UInt8)(w:World)(e:Ending)(w':World):Prop:=Below w.heap.size w w' /\
 ((∃v x,e=.returned (.tuple #[EV.val v,ok])/\EAt w' v x/\TyX 106 w' v.ao v.ac/\aB v x=true/\eX v x=b)\/(e=.returned (.tuple #[zeroE.val,bad])/\uA b))
theorem zT{W W':World}{b:Nat}{r:EV}(h:W.heap[b]?=some r.box)(hs:W.heap.size<=W'.heap.size)(ho:∀k,k≠b->W'.heap[k]?=W.heap[k]?):KeepR W W':=by
 refine⟨hs,fun k c t fr ht hk=>?_⟩;have hne:k≠b:=fun e=>by
  subst e;rw[h] at hk;cases hk;rcases ht with h | h | h<;>exact absurd h (by decide)
 exact (ho k hne).trans hk
theorem Jt(b:List UInt8)(ao:Option Addr)(n cap:Nat)(w:World)(hr:Rd w 1 ao n cap (byV b))(hn:n<=100000000) :
  Calls Tryz.prog 231 #[.slice ao n cap] w (wZ (.int .i64 0) (.int .i64 4) b w):=by
 have hbn:b.length=n:=by have:=hr.1;rw[aV] at this;omega
 have hb0:=bN w zeroE.box;have k0:=aN w zeroE.box
 have hz0:(w.alloc zeroE.box).heap.size=w.heap.size+1:=by simp
 have hr0:=hr.later hb0;unfold zeroE EV.box EV.cells at hb0 k0 hz0 hr0;dsimp only at hb0 k0 hz0 hr0;clear hr;go_in;go_upto_region 1 with fail;generalize hg:w.alloc _=W0 at *;have k0f:W0.heap[w.heap.size]?=some zeroE.box:=k0;clear hg k0;go_wp2_with fail;refine (pV ao n cap b W0 hr0 (by omega)).mono ?_;rintro e W1 ⟨g,rfl,hr1,hb1⟩;have hg0:W0.heap.size<=g:=by obtain⟨_,_,h⟩:=hr1;exact h.le
 have T1:=bC ⟨b,false⟩ 1 (by decide);have htx:=jT W0.heap.size g ⟨b,false⟩ 1 W1 hr1 (by dsimp only;omega);generalize RS.bytes ⟨b,false⟩ 1=nm at *;obtain⟨y,s1⟩:=nm;dsimp only at T1 htx;go_wp2_with fail;refine htx.mono ?_;rintro e W2 ⟨rfl,hr2,hg2⟩;have l1:=T1.le;dsimp only at l1;have hb2:Below W0.heap.size W0 W2:=hb1.trans (below_of_grown hg2 hg0 (by obtain⟨_,_,h⟩:=hr1;exact h.lt));go_wp2_with fail;refine (EO W0.heap.size g s1 2 W2 (by decide) hr2 (by omega)).mono ?_;rintro e W3 ⟨a3,n3,c3,xs,s2,rfl,hrd3,hn3,hty3,hr3,hg3,T2'⟩;have T2:=kJ T2' (may':=fun ys=>bI ys=true/\(aI ys).length<=4194304) (good':=fun ys=>(aI ys).length<=4194304) (fun _ h=>h) (fun _ h=>h.2);have hb3:Below W0.heap.size W0 W3:=hb2.trans (below_of_grown hg3 hg0 (by obtain⟨_,_,h⟩:=hr2;exact h.lt));clear T2' htx hg2 hg3 hr1 hr2 hb1 hb2;go_upto_region 3 with (refine zNr rfl ?_;go_simp);generalize hg:W3.alloc _=W4;have e4:W3.alloc (EV.box ⟨⟨y.toArray⟩,a3,n3,c3⟩)=W4:=hg;have hb4':Below W3.heap.size W3 W4:=bE e4
 have q4:W4.heap[W3.heap.size]?=some (EV.box ⟨⟨y.toArray⟩,a3,n3,c3⟩):=aE e4
 have hr4:=hr3.later hb4';have hb4:=hb3.trans (hb4'.mono hb3.size);have hE:EAt W4 ⟨⟨y.toArray⟩,a3,n3,c3⟩ xs:=⟨hrd3.later hb4',by dsimp only;omega⟩
 have hT:TyX 106 W4 a3 c3:=hty3.kpr (.inr (.inr rfl)) (KeepR.of_below hb4');clear hg e4 hr3 hb3 hb4' hrd3 hty3;generalize W3.heap.size=ob at *;have hrz:W4.heap[w.heap.size]?=some zeroE.box:=(hb4.block _ (by omega)).trans k0f;have hbel:=hb0.trans (hb4.mono (by omega));go_wp2_with fail;refine (qB W0.heap.size g s2 W4 hr4).mono ?_;rintro e w9 ⟨rfl,rfl⟩;by_cases he:s2.bad=true\/0<s2.l.length
 ·have e4:s2.ends=4:=if_pos he;have hno:=ug T1 T2 (v0:=⟨⟨y.toArray⟩,a3,n3,c3⟩) rfl (.inl he);rw[e4];have f1:(W4.setRow w.heap.size zeroE.cells).heap[w.heap.size]?=some (.cells zeroE.cells 124):=aO hrz;have f2:=below_setRow hbel (yag _) zeroE.cells;go_wp2_with (refine zSr rfl hrz ?_;go_simp);exact yay (w:=W4.setRow w.heap.size zeroE.cells) (aj (i:=2) (j:=3) (t:=124) rfl rfl rfl (by kernel_rfl) (by kernel_rfl) f1) rfl ⟨f2,.inr ⟨rfl,hno⟩⟩
 have e4:s2.ends=0:=if_neg he;have hs1:s2.bad=false:=by cases h:s2.bad with
  | true=>exact absurd (.inl h) he
  | false=>rfl
 have hs2:s2.l=[]:=yat (by
  have:¬0<s2.l.length:=fun h=>he (.inr h);omega)
 rw[e4];have hdone:=CO T1 T2 (v0:=⟨⟨y.toArray⟩,a3,n3,c3⟩) rfl hs1 hs2;have HD:=hid hdone;have hme:=qi ⟨⟨y.toArray⟩,a3,n3,c3⟩ xs W4 hE;have HN:aB ⟨⟨y.toArray⟩,a3,n3,c3⟩ xs=false->uA b:=fun h=>ug T1 T2 (v0:=⟨⟨y.toArray⟩,a3,n3,c3⟩) rfl (.inr h);have HNo:=hid HN;clear hdone he HN T1 T2;unfold EV.val EV.cells at hme;go_wp2_with (refine zLr rfl q4 ?_;go_simp);refine hme.mono ?_;rintro e W5 ⟨rfl,hb5⟩;have hrz5:=hb5.q hrz;have q5:=hb5.q q4;have hbel5:=hbel.trans (hb5.mono hbel.size);have hE5:=hE.later hb5;have hT5:TyX 106 W5 a3 c3:=hT.kpr (.inr (.inr rfl)) (KeepR.of_below hb5);clear hme hE hT hrz q4 hbel hb5;cases hm:aB ⟨⟨y.toArray⟩,a3,n3,c3⟩ xs with
 | false=>
  have hno:=HNo.out hm;have f1:(W5.setRow w.heap.size zeroE.cells).heap[w.heap.size]?=some (.cells zeroE.cells 124):=aO hrz5;have f2:=below_setRow hbel5 (yag _) zeroE.cells;clear hm;go_wp2_with (refine zSr rfl hrz5 ?_;go_simp);exact yay (w:=W5.setRow w.heap.size zeroE.cells) (aj (i:=2) (j:=3) (t:=124) rfl rfl rfl (by kernel_rfl) (by kernel_rfl) f1) rfl ⟨f2,.inr ⟨rfl,hno⟩⟩
 | true=>
  have HM:=hid hm;have f1:(W5.setRow w.heap.size (EV.cells ⟨⟨y.toArray⟩,a3,n3,c3⟩)).heap[w.heap.size]?=some (.cells (EV.cells ⟨⟨y.toArray⟩,a3,n3,c3⟩) 124):=aO hrz5;have f2:=below_setRow hbel5 (yag _) (EV.cells ⟨⟨y.toArray⟩,a3,n3,c3⟩);have hkr:=zT hrz5 (below_setRow (yaj w.heap.size W5) (yag _) (EV.cells ⟨⟨y.toArray⟩,a3,n3,c3⟩)).size (fun k hk=>yba W5 w.heap.size k (EV.cells ⟨⟨y.toArray⟩,a3,n3,c3⟩) hk);have hEF:EAt (W5.setRow w.heap.size (EV.cells ⟨⟨y.toArray⟩,a3,n3,c3⟩)) ⟨⟨y.toArray⟩,a3,n3,c3⟩ xs:=⟨kW (.inr (.inr rfl)) hE5.a hT5 hkr,hE5.la⟩
  have hTF:TyX 106 (W5.setRow w.heap.size (EV.cells ⟨⟨y.toArray⟩,a3,n3,c3⟩)) a3 c3:=hT5.kpr (.inr (.inr rfl)) hkr;clear hm;go_wp2_with (first | (refine zLr rfl q5 ?_;go_simp) | (refine zSr rfl hrz5 ?_;go_simp));exact yay (w:=W5.setRow w.heap.size (EV.cells ⟨⟨y.toArray⟩,a3,n3,c3⟩)) (aj (i:=2) (j:=3) (t:=124) rfl rfl rfl (by kernel_rfl) (by kernel_rfl) f1) rfl ⟨f2,.inl ⟨_,xs,rfl,hEF,hTF,HM.out,HD.out⟩⟩
def dH (l:List EP):List UInt8:=l.flatMap fun p=>val 1 (eX p.1 p.2)
theorem iU(p:EP)(l:List EP):dH (p::l)=val 1 (eX p.1 p.2)++dH l:=rfl
theorem GM(l:List EP)(p:EP):dH (l++[p])=dH l++val 1 (eX p.1 p.2):=by simp[dH]
def dM (v:QV)(c:QC):List UInt8:=val 1 (au v.code.toNat)++(val 2 [if v.yes then 1 else 0]++(val 3 (dH c.ents)++(val 4 c.cursor++[])))
def aG:QV:=⟨0,false,none,0,0,none,0,0⟩
def lF (k:Int):QV:=⟨k,false,none,0,0,none,0,0⟩
def bz (v:QV)(c:QC):Bool:=
 if v.code=0 then !(decide (1000<v.en)||(c.ents.any fun u=>!aB u.1 u.2)||decide (4000<v.cn))&&decide ((dH c.ents).length<=4194304)
 else decide (0<v.code)&&decide (v.code<=14)&&aF v c (lF v.code) ⟨[],[]⟩
theorem uh:∀(l m:List EP),(∀p∈l,aB p.1 p.2=true)->(∀p∈m,aB p.1 p.2=true)->dH l=dH m->aP l m=true
 | [],[],_,_,_=>rfl
 | [],p::m,_,_,h=>by
  have:=congrArg List.length h;rw[iU,yab,ae] at this;have e0:(dH []).length=0:=rfl;omega
 | p::l,[],_,_,h=>by
  have:=congrArg List.length h;rw[iU,yab,ae] at this;have e0:(dH []).length=0:=rfl;omega
 | p::l,q::m,hl,hm,h=>by
  rw[iU,iU] at h;have l1:=jD (hl p (by simp));have l2:=jD (hm q (by simp));obtain⟨h1,h2⟩:=az (by decide) (by omega) (by omega) h;unfold aP;rw[Qm (hl p (by simp)) (hm q (by simp)) h1,yaX];exact uh l m (fun x hx=>hl x (by simp[hx])) (fun x hx=>hm x (by simp[hx])) h2
theorem KN(B g rb:Nat)(st:WS)(v:QV)(l:List EP)(k:Nat)(p:EP)(W:World)(hw:WrS B g st W)(hl:st.l.length<=100000000)(hrb:W.heap[rb]?=some v.box)(he:EnAt W v.eo v.en v.ec l)(hp:l[k]?=some p)(hm:aB p.1 p.2=true) :
  Calls Tryz.prog 177 #[.pointer (some ⟨g,0,none⟩),.int .i64 (k:Int),.pointer (some ⟨rb,0,none⟩)] W fun e w'=>(∃r,e=.returned r)/\WrS B g (st.put 1 (eX p.1 p.2)) w'/\Below B W w':=by
 have hkn:k<v.en:=by have:=he.len;have:=(yao.1 hp).1;omega
 obtain⟨b1,o1,hao,hl1,hc1⟩:=he.r.some (by have:=he.r.le;omega);obtain⟨v1,v2⟩:=nD l k p hp;have x0:=hc1 (k*2) _ v1;have x1:W.cell? ⟨b1,o1+k*2+1,none⟩=_:=hc1 (k*2+1) _ v2;obtain⟨c0,c1,c2,c3,-⟩:=bf hrb;rw[hao] at c2;have hE:=he.each p (yan hp);have hc:=DL p.1 p.2 W hE;have hB:=hw.le;unfold EV.val EV.cells at hc;have i0:(0:Int)<=(k:Int):=by omega
 have i1:(k:Int)<(v.en:Int):=by omega
 have HM:=hid hm;clear hm hc1 v1 v2 he hp hkn hao;go_in;go_wp2_with fail;refine hc.mono ?_;rintro e W1 ⟨lx,ax,cx,ex,rfl,hrx,hb1,hfr,hx1,-⟩;obtain⟨rfl,rfl⟩:=hx1 HM.out;have hln:=jD HM.out;have hw1:=hw.later hb1;clear hc x0 x1 c0 c1 c2 c3 hx1;go_wp2_with fail;refine (kV B g st 1 (eX p.1 p.2) ax _ cx W1 hw1 hl (by omega) hrx (fun h0 a ha u hu e=>?_)).mono ?_
 ·have h1:=hfr a ha;obtain⟨u0,hu0⟩:=hw;have hh:=hu0.at_;have h2:=hu.at_;rw[(hb1.q hh)] at h2;cases h2;have:=iP hu0.own a.block e.symm;omega
 rintro e W2 ⟨rfl,hw2,hb2,-⟩;go_wp2_with fail;refine yaL (yaJ rfl _ _ _) rfl ?_;exact⟨⟨_,rfl⟩,hw2,(hb1.mono hB).trans hb2⟩
end Msg
namespace Msg
open Go.RowKit Go.Lib Mem Utf Tlv
variable{W W' w:World}{v:QV}
structure QbAt (w:World)(v:QV)(W:World):Prop where
 o:W.heap[w.heap.size]?=some v.box
 bel:Below w.heap.size w W
theorem QbAt.step(h:QbAt w v W)(hb:Below W.heap.size W W'):QbAt w v W':=⟨(hb.q h.o),h.bel.trans (hb.mono h.bel.size)⟩
theorem QbAt.turn{B:Nat}(h:QbAt w v W)(hb:Below B W W')(hB:w.heap.size<B):QbAt w v W':=⟨(hb.block _ hB).trans h.o,h.bel.trans (hb.mono (by omega))⟩
def enE (l:List EP)(i:Nat):List UInt8:=val 1 (match l[i]? with | some p=>eX p.1 p.2 | none=>[])
theorem Fj(l:List EP):∀n,n<=l.length->bK (enE l) n=dH (l.take n)
 | 0,_=>by simp[bK,dH]
 | n+1,h=>by
  have hn:l[n]?=some l[n]:=yac (by omega);rw[ed,Fj l n (by omega),yaE,hn];simp only[ybu];rw[GM];simp[enE,hn]
theorem wG(v:QV)(c:QC)(w:World)(h:QAt w v c)(h0:0<=v.code)(h1:v.code<=255)(hn:v.en<=1000)(hall:∀p∈c.ents,aB p.1 p.2=true)(hlen:(dH c.ents).length<=4194304)(hcn:v.cn<=4000) :
  Calls Tryz.prog 146 #[v.val] w fun e w'=>∃ao cap,e=.returned (.tuple #[.slice ao (dM v c).length cap,.int .i64 0])/\Rd w' 1 ao (dM v c).length cap (byV (dM v c))/\Below w.heap.size w w'/\∀a,ao=some a->w.heap.size<=a.block:=by
 have hmo:=hmO
 have lx:=h.e.len;have lc:c.cursor.length=v.cn:=by have:=h.c.1;rw[aV] at this;omega
 obtain⟨cn,hcd⟩:∃n:Nat,v.code=(n:Int):=⟨v.code.toNat,by omega⟩
 have hcw:IntKind.wrap .u64 v.code=(cn:Int):=by rw[hcd,ybi];omega
 have hall2:bK (enE c.ents) v.en=dH c.ents:=by rw[Fj c.ents v.en (by omega),yak (by omega)]
 have hres:dM v c=val 1 (au cn)++(val 2 [if v.yes then 1 else 0]++(val 3 (dH c.ents)++(val 4 c.cursor++[]))):=by unfold dM;rw[show v.code.toNat=cn by omega]
 have HR:=hid hres;have HA:=hid hall2;have HL:=hid hlen;have LX:=hid lx;have LC:=hid lc;clear hres hall2 hlen lx lc hcd h0 h1;have hb0:=bN w v.box;have k0:=aN w v.box
 unfold QV.box QV.cells at hb0 k0;unfold QV.val QV.cells;go_in;go_upto_region 1 with fail;generalize hg:w.alloc _=W0 at *;have s0:QbAt w v W0.drew:=(⟨k0,hb0⟩:QbAt w v W0).step (yaj _ _).drew;clear hg k0 hb0;refine yaB (S:=QbAt w v) hmo ?_;change wpAnyH _ _ _ _ _ _ _ _ (World.drew W0);generalize World.drew W0=X0 at *;have zf0:=fun (w0:World) (h:QbAt w v w0)=>bf h.o;refine zp 1 (pp w.heap.size 0) rfl ?_;go_simp;refine zv 2 (.int .i64 v.code) rfl ?_;go_simp;refine zv 3 (.int .u64 (cn:Int)) rfl ?_;go_simp;refine zp 5 (pp w.heap.size 1) rfl ?_;go_simp;refine zv 6 (.bool v.yes) rfl ?_;go_simp;refine zp 8 (pp w.heap.size 2) rfl ?_;go_simp;refine zv 9 (.slice v.eo v.en v.ec) rfl ?_;go_simp;refine zv 10 (.int .i64 (v.en:Int)) rfl ?_;go_simp;refine zv 11 (.func (.func 177) #[] #[.pointer (some ⟨w.heap.size,0,none⟩)]) rfl ?_;go_simp;refine zp 13 (pp w.heap.size 3) rfl ?_;go_simp;refine zv 14 (.slice v.co v.cn v.cc) rfl ?_;go_simp;refine zH1 0 rfl (fun K hK=>?_);go_simp;have g0:WrS X0.heap.size X0.heap.size ⟨[],0⟩ (X0.alloc (.cells #[.slice none 0 0,.int .i64 0] 177)):=⟨_,aN _ _,yag _,yaC _ _ _ _⟩
 have s1:QbAt w v (X0.alloc (.cells #[.slice none 0 0,.int .i64 0] 177)):=s0.step (bN _ _);have hlt:w.heap.size<X0.heap.size:=lA s0.o;refine hK _ _ ⟨s1,?_⟩;clear hK K;refine zH1 4 rfl (fun K hK=>?_);go_simp;refine (qg X0.heap.size X0.heap.size ⟨[],0⟩ 1 cn _ g0 (by decide)).mono ?_;rintro e X2 ⟨rfl,g1,hb2,-⟩;have s2:=s1.turn hb2 hlt;go_simp;refine hK _ _ ⟨s2,?_⟩;clear hK K;refine zH1 7 rfl (fun K hK=>?_);go_simp;refine (Jr X0.heap.size X0.heap.size _ 2 v.yes _ g1 (by simp[WS.put,ae,ai])).mono ?_;rintro e X3 ⟨rfl,g2,hb3,-⟩;have s3:=s2.turn hb3 hlt;go_simp;refine hK _ _ ⟨s3,?_⟩;clear hK K;have hW:=uF X0.heap.size X0.heap.size _ 3 v.en 177 #[.pointer (some ⟨w.heap.size,0,none⟩)] (enE c.ents) X3 g2 rfl (by omega) (enters_of Tryz.func177 (by kernel_rfl) rfl)
  (fun i hi=>by
   obtain⟨p,hi2⟩:∃p,c.ents[i]?=some p:=⟨_,yac (by rw[LX.out];exact hi)⟩
   have hl:=jD (hall p (yan hi2));unfold enE;rw[hi2];exact⟨kD 1 _ (by decide) (by dsimp only;omega),by rw[ae];omega⟩)
  (by rw[HA.out];exact HL.out) (by simp[WS.put,ae,ai])
  (fun i W1 hi hb1 hwr=>by
   obtain⟨p,hi2⟩:∃p,c.ents[i]?=some p:=⟨_,yac (by rw[LX.out];exact hi)⟩
   have s4:=s3.step hb1;have hm:=mX (enE c.ents) (yaZ hi);rw[HA.out] at hm;have hL:=HL.out;refine (KN X3.heap.size X3.heap.size w.heap.size _ v c.ents i _ W1 hwr (by dsimp only;omega) s4.o (h.later s4.bel).e hi2 (hall p (yan hi2))).mono ?_;rintro e1 w1 ⟨q1,q2,q3⟩;refine⟨q1,?_,q3⟩;rw[ed];have e5:enE c.ents i=val 1 (eX p.1 p.2):=by unfold enE;rw[hi2]
   rw[e5];simpa [WS.put] using q2)
 rw[HA.out] at hW;refine zC 12 rfl hW ?_;rintro e X4 ⟨rfl,g3,hb4,-⟩;have s4:=s3.turn hb4 hlt;clear hW;refine⟨s4,?_⟩;go_simp;refine zH1 15 rfl (fun K hK=>?_);go_simp;refine (kV X0.heap.size X0.heap.size _ 4 c.cursor v.co _ v.cc _ g3 (by have:=HL.out;simp[WS.put,ae,ai];omega) (by omega) (h.later s4.bel).c (fun h0 a ha u hu e=>by have:=h.c.lt h0 a ha;have h9:=aU hu.own e.symm;have:=s0.bel.size;omega)).mono ?_;rintro e X5 ⟨rfl,g4,hb5,-⟩;have s5:=s4.turn hb5 hlt;go_simp;refine hK _ _ ⟨s5,?_⟩;clear hK K;refine zH1 16 rfl (fun K hK=>?_);go_simp;have g5:WrS X0.heap.size X0.heap.size ⟨dM v c,0⟩ X5:=by rw[HR.out];simpa [WS.put] using g4
 obtain⟨y,hy⟩:=g5;have hrl:(dM v c).length<=100000000:=by have:=HL.out;have:=LC.out;rw[HR.out];simp only[yab,ae,ai,yaF,ybj];omega
 refine (sD _ _ _ _ _ hy hrl).mono ?_;rintro e X6 ⟨z,rfl,hz6,hb6⟩;obtain⟨ao6,cap6,rfl,hr6⟩:=Rd.of_own hz6;have s6:=s5.step hb6;go_simp;refine hK _ _ ⟨s6,?_⟩;clear hK K;refine zv 17 (.slice ao6 (dM v c).length cap6) rfl ?_;go_simp;refine zv 18 (.int .i64 0) rfl ?_;go_simp;refine zp 19 (.slice ao6 (dM v c).length cap6) rfl (zp 20 (.int .i64 0) rfl ?_);go_simp;refine zd ?_;go_wp2_with fail;go_ret2;exact⟨ao6,cap6,rfl,hr6,s6.bel,fun a ha=>yae s5.bel.size (kR hz6 a ha)⟩
end Msg
namespace Msg
open Go.RowKit Go.Lib Mem Tlv
variable{c:QC}{v:QV}
theorem Dv(W:World)(k:Int):QAt W (lF k) ⟨[],[]⟩:=⟨⟨Rd.nil _ _,fun _ hp=>absurd hp yal⟩,Rd.nil _ _,yam _⟩
def mQ (c:QC):Prop:=(∀p∈c.ents,aB p.1 p.2=true)->(dH c.ents).length<=4194304
theorem xP(h:v.code=0)(hl:mQ c):bz v c=!(decide (1000<v.en)||(c.ents.any fun u=>!aB u.1 u.2)||decide (4000<v.cn)):=by
 unfold bz;rw[if_pos h];cases ha:(c.ents.any fun u=>!aB u.1 u.2) with
 | true=>simp
 | false=>
  have hall:∀p∈c.ents,aB p.1 p.2=true:=fun p hp=>by
   have:=yaS.1 ha p hp;simpa using this
  rw[yaa (hl hall),Bool.and_true]
theorem tH(v:QV)(c:QC)(w:World)(h:QAt w v c)(hlen:mQ c):Calls Tryz.prog 106 #[v.val] w (GivesB (bz v c) w):=by
 have hb0:=bN w v.box;have k0:=aN w v.box
 unfold QV.box QV.cells at hb0 k0;unfold QV.val QV.cells;by_cases hc0:v.code=0
 case neg=>
  have f1:(v.code==0)=false:=by simp[hc0]
  have g1:(v.code != 0)=true:=by simp[hc0]
  have HM:Hid (bz v c=(decide (0<v.code)&&decide (v.code<=14)&&aF v c (lF v.code) ⟨[],[]⟩)):=hid (by unfold bz;rw[if_neg hc0]);clear hc0;go_in;go_upto_region 1 with fail;generalize hg:w.alloc _=W0 at *;have q0:W0.heap[w.heap.size]?=some v.box:=k0;clear hg k0;obtain⟨c0,c1,c2,c3,-⟩:=bf q0;by_cases h1:0<v.code
  ·have f2:decide (0<v.code)=true:=yaa h1;have H1:=hid h1;clear h1;by_cases h2:v.code<=14
   ·have f3:decide (v.code<=14)=true:=yaa h2;have H2:=hid h2;clear h2;have hs:=xM v (lF v.code) c ⟨[],[]⟩ W0 (h.later hb0) (Dv _ _);unfold QV.val QV.cells lF at hs;dsimp only at hs;go_wp2_with fail;refine hs.mono ?_;rintro e W1 ⟨rfl,hb1⟩;go_wp2_with fail;go_ret;exact⟨by rw[HM.out,yaa H1.out,yaa H2.out];simp only[yaX];rfl,hb0.trans (hb1.mono hb0.size)⟩
   have f3:decide (v.code<=14)=false:=yad h2;have H2:=hid h2;clear h2;go_wp2_with fail;go_ret;exact⟨by rw[HM.out,yad (by have:=H2.out;omega:¬v.code<=14)];simp,hb0⟩
  have f2:decide (0<v.code)=false:=yad h1;have H1:=hid h1;clear h1;go_wp2_with fail;go_ret;exact⟨by rw[HM.out,yad (by have:=H1.out;omega:¬0<v.code)];simp,hb0⟩
 have f1:(v.code==0)=true:=by simp[hc0]
 have g1:(v.code != 0)=false:=by simp[hc0]
 have HM:Hid (bz v c=!(decide (1000<v.en)||(c.ents.any fun u=>!aB u.1 u.2)||decide (4000<v.cn))):=hid (xP hc0 hlen);have HC:=hid hc0;clear hc0;go_in;go_upto_region 1 with fail;generalize hg:w.alloc _=W0 at *;have q0:W0.heap[w.heap.size]?=some v.box:=k0;clear hg k0;obtain⟨c0,c1,c2,c3,-⟩:=bf q0;by_cases hn:1000<v.en
 case pos=>
  have f2:decide ((1000:Int)<(v.en:Int))=true:=yaa (by omega);have HN:=hid hn;clear hn;go_wp2_with fail;go_ret;exact⟨by rw[HM.out,yaa HN.out];simp,hb0⟩
 have f2:decide ((1000:Int)<(v.en:Int))=false:=yad (by omega);have HN:=hid hn;clear hn;go_wp2_with fail;refine (DF v.eo v.en v.ec c.ents W0 (h.later hb0).e).mono ?_;rintro e W1 ⟨rfl,hb1⟩;have q1:=hb1.q q0;have hbel:=hb0.trans (hb1.mono hb0.size);clear c0 c1 c2 c3;obtain⟨c0,c1,c2,c3,-⟩:=bf q1;cases ha:(c.ents.any fun u=>!aB u.1 u.2) with
 | true=>
  have HA:=hid ha;clear ha;go_wp2_with fail;go_ret;exact⟨by rw[HM.out,HA.out];simp,hbel⟩
 | false=>
  have HA:=hid ha;clear ha;by_cases hcn:4000<v.cn
  ·have f3:decide ((4000:Int)<(v.cn:Int))=true:=yaa (by omega);have HK:=hid hcn;clear hcn;go_wp2_with fail;go_ret;exact⟨by rw[HM.out,yaa HK.out];simp,hbel⟩
  have f3:decide ((4000:Int)<(v.cn:Int))=false:=yad (by omega);have HK:=hid hcn;have hrb:=wG v c W1 (h.later hbel) (by rw[HC.out];decide) (by rw[HC.out];decide) (by have:=HN.out;omega) (fun p hp=>by
   have:=yaS.1 HA.out p hp;simpa using this) (hlen (fun p hp=>by
   have:=yaS.1 HA.out p hp;simpa using this)) (by omega)
  unfold QV.val QV.cells at hrb;clear hcn;go_wp2_with (refine zLr rfl q1 ?_;go_simp);refine hrb.mono ?_;rintro e W2 ⟨a2,x2,rfl,-,hb2,-⟩;go_wp2_with fail;go_ret;exact⟨by rw[HM.out,HA.out,yad (by have:=HK.out;omega:¬4000<v.cn),yad (by have:=HN.out;omega:¬1000<v.en)];rfl,hbel.trans (hb2.mono hbel.size)⟩
structure FitQ (v:QV)(c:QC):Prop where
 c0:0<=v.code
 c14:v.code<=14
 en:v.en<=1000
 all:∀p∈c.ents,aB p.1 p.2=true
 len:(dH c.ents).length<=4194304
 cn:v.cn<=4000
theorem CQ:∀ {l:List EP},aP l []=true->l=[]
 | [],_=>rfl
 | _::_,h=>by simp[aP] at h
theorem FitQ.of{W:World}(h:QAt W v c)(hm:bz v c=true):FitQ v c:=by
 have lx:=h.e.len;have lc:c.cursor.length=v.cn:=by have:=h.c.1;rw[aV] at this;omega
 unfold bz at hm;by_cases h0:v.code=0
 ·rw[if_pos h0] at hm;simp only[yaq,ybz,yaU,ybT,yaG] at hm;obtain⟨⟨⟨h1,h2⟩,h3⟩,h4⟩:=hm;exact⟨by omega,by omega,by omega,fun p hp=>(by
   have:=yaS.1 h2 p hp;simpa using this),h4,by omega⟩
 rw[if_neg h0] at hm;simp only[yaq,yaG] at hm;obtain⟨⟨h1,h2⟩,h3⟩:=hm;unfold aF at h3;simp only[yaq,yaG] at h3;obtain⟨-,-,h4,h5⟩:=h3;have e1:=CQ h4;rw[e1] at lx;rw[h5] at lc;have l0:([]:List EP).length=0:=rfl;have l1:([]:List UInt8).length=0:=rfl;refine⟨by omega,by omega,by omega,fun p hp=>?_,?_,by omega⟩
 ·rw[e1] at hp;cases hp
 rw[e1];exact yam _
def OU (v:QV)(c:QC)(w:World)(e:Ending)(w':World):Prop:=∃(l:List UInt8) (ax:Option Addr) (cx:Nat) (ex:Int),e=.returned (.tuple #[.slice ax l.length cx,.int .i64 ex])/\Rd w' 1 ax l.length cx (byV l)/\Below w.heap.size w w'/\(∀a,ax=some a->w.heap.size<=a.block)/\(bz v c=true->l=dM v c/\ex=0)/\(bz v c=false->l=[]/\ex=2)
theorem nV:(dM v c).length=29+(dH c.ents).length+c.cursor.length:=by unfold dM;simp only[yab,ae,ai,yaF,ybj];omega
theorem BP(v:QV)(c:QC)(w:World)(h:QAt w v c)(hs:mQ c):Calls Tryz.prog 197 #[v.val] w (OU v c w):=by
 have hb0:=bN w v.box;have k0:=aN w v.box
 unfold QV.box QV.cells at hb0 k0;unfold QV.val QV.cells;go_in;go_upto_region 1 with fail;generalize hg:w.alloc _=W0 at *;have q0:W0.heap[w.heap.size]?=some v.box:=k0;have hm0:=tH v c W0 (h.later hb0) hs;unfold QV.val QV.cells at hm0;clear hg k0;obtain⟨c0,c1,c2,c3,-⟩:=bf q0;go_wp2_with fail;refine hm0.mono ?_;rintro e W1 ⟨rfl,hb1⟩;have q1:=hb1.q q0;have hbel:=hb0.trans (hb1.mono hb0.size);clear c0 c1 c2 c3 hm0;cases hm:bz v c with
 | false=>
  have HM:=hid hm;clear hm;go_wp2_with fail;go_ret2;exact⟨[],none,0,2,rfl,Rd.nil _ _,hbel,(fun a ha=>by cases ha),fun h=>(by rw[HM.out] at h;cases h),fun _=>⟨rfl,rfl⟩⟩
 | true=>
  have F:=FitQ.of h hm;have HM:=hid hm;have hr:=wG v c W1 (h.later hbel) F.c0 (by have:=F.c14;omega) F.en F.all F.len F.cn;unfold QV.val QV.cells at hr;clear hm F;go_wp2_with (refine zLr rfl q1 ?_;go_simp);refine hr.mono ?_;rintro e W2 ⟨ax,cx,rfl,hrd,hb2,hfr⟩;go_wp2_with fail;go_ret2;exact⟨_,ax,cx,0,rfl,hrd,hbel.trans (hb2.mono hbel.size),fun a ha=>yae hbel.size (hfr a ha),fun _=>⟨rfl,rfl⟩,fun h=>(by rw[HM.out] at h;cases h)⟩
