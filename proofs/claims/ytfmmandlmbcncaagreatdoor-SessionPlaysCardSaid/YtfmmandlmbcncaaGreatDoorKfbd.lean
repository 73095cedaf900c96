/-A part of the proof.-/
import Derived.Test.YtfmmandlmbcncaaGreatDoorKfba
set_option maxHeartbeats 40000000
set_option maxRecDepth 100000
set_option linter.all false
namespace Go.Proofs.YtfmmandlmbcncaaGreatDoor
namespace Msg
open Go.RowKit Go.Lib Mem Tlv
variable{m:MV}
theorem JK(m m':MV)(c c':MC)(w:World)(h:MAt w m c)(h':MAt w m' c'):Calls Tryz.prog 102 #[m.val,m'.val] w (GivesB (aH m c m' c') w):=by
 have hb0:Below w.heap.size w ((w.alloc m.box).alloc m'.box):=cu w _ _;obtain⟨k1,k2⟩:=dh w m.box m'.box;unfold MV.box MV.cells at hb0 k1 k2;unfold MV.val MV.cells;go_in;go_upto_region 1 with fail;generalize hg:World.alloc _ _=W0 at *;have q1:W0.heap[w.heap.size]?=some m.box:=k1;have q2:W0.heap[w.heap.size+1]?=some m'.box:=k2;clear hg k1 k2;have c0:=(McAt.of q1).c0;have d0:=(McAt.of q2).c0;have c1:=(McAt.of q1).c1;have d1:=(McAt.of q2).c1;have c2:=(McAt.of q1).c2;have d2:=(McAt.of q2).c2;have c3:=(McAt.of q1).c3;have d3:=(McAt.of q2).c3;have c4:=(McAt.of q1).c4;have d4:=(McAt.of q2).c4;have c5:=(McAt.of q1).c5;have d5:=(McAt.of q2).c5;have c6:=(McAt.of q1).c6;have d6:=(McAt.of q2).c6;have c7:=(McAt.of q1).c7;have d7:=(McAt.of q2).c7;have c8:=(McAt.of q1).c8;have d8:=(McAt.of q2).c8;have c9:=(McAt.of q1).c9;have d9:=(McAt.of q2).c9;have c10:=(McAt.of q1).c10;have d10:=(McAt.of q2).c10;have c11:=(McAt.of q1).c11;have d11:=(McAt.of q2).c11;have c12:=(McAt.of q1).c12;have d12:=(McAt.of q2).c12;have c13:=(McAt.of q1).c13;have d13:=(McAt.of q2).c13;have c14:=(McAt.of q1).c14;have d14:=(McAt.of q2).c14;by_cases e1:m.k=m'.k
 case neg=>
  have f1:(m.k==m'.k)=false:=by simp[e1]
  have Hs:Hid (aH m c m' c'=false):=hid (by unfold aH;rw[yad e1];simp);clear e1;go_wp2_with fail;go_ret;exact⟨by rw[Hs.out];rfl,hb0⟩
 have f1:(m.k==m'.k)=true:=by simp[e1]
 by_cases e2:m.vi=m'.vi
 case neg=>
  have f2:(m.vi==m'.vi)=false:=by simp[e2]
  have Hs:Hid (aH m c m' c'=false):=hid (by unfold aH;rw[yad e2];simp);clear e1 e2;go_wp2_with fail;go_ret;exact⟨by rw[Hs.out];rfl,hb0⟩
 have f2:(m.vi==m'.vi)=true:=by simp[e2]
 by_cases e3:m.no=m'.no
 case neg=>
  have f3:(m.no==m'.no)=false:=by simp[e3]
  have Hs:Hid (aH m c m' c'=false):=hid (by unfold aH;rw[yad e3];simp);clear e1 e2 e3;go_wp2_with fail;go_ret;exact⟨by rw[Hs.out];rfl,hb0⟩
 have f3:(m.no==m'.no)=true:=by simp[e3]
 by_cases e4:m.fr=m'.fr
 case neg=>
  have f4:(m.fr==m'.fr)=false:=by simp[e4]
  have Hs:Hid (aH m c m' c'=false):=hid (by unfold aH;rw[yad e4];simp);clear e1 e2 e3 e4;go_wp2_with fail;go_ret;exact⟨by rw[Hs.out];rfl,hb0⟩
 have f4:(m.fr==m'.fr)=true:=by simp[e4]
 by_cases e5:m.cl=m'.cl
 case neg=>
  have f5:(m.cl==m'.cl)=false:=by simp[e5]
  have Hs:Hid (aH m c m' c'=false):=hid (by unfold aH;rw[yad e5];simp);clear e1 e2 e3 e4 e5;go_wp2_with fail;go_ret;exact⟨by rw[Hs.out];rfl,hb0⟩
 have f5:(m.cl==m'.cl)=true:=by simp[e5]
 by_cases e6:m.nu=m'.nu
 case neg=>
  have f6:(m.nu==m'.nu)=false:=by simp[e6]
  have Hs:Hid (aH m c m' c'=false):=hid (by unfold aH;rw[yad e6];simp);clear e1 e2 e3 e4 e5 e6;go_wp2_with fail;go_ret;exact⟨by rw[Hs.out];rfl,hb0⟩
 have f6:(m.nu==m'.nu)=true:=by simp[e6]
 have E1:=hid e1;have E2:=hid e2;have E3:=hid e3;have E4:=hid e4;have E5:=hid e5;have E6:=hid e6;clear e1 e2 e3 e4 e5 e6;have hc:=vO m.rq m'.rq c.rq c'.rq W0 (h.later hb0).rq (h'.later hb0).rq;unfold RV.val RV.cells at hc;go_wp2_with fail;refine hc.mono ?_;rintro e W1 ⟨rfl,hb1⟩;have hbel1:=hb0.trans (hb1.mono hb0.size);have p1:=af q1 hb1;have p2:=af q2 hb1;clear hc c0 d0 c1 d1 c2 d2 c3 d3 c4 d4 c5 d5 c6 d6 c7 d7 c8 d8 c9 d9 c10 d10 c11 d11 c12 d12 c13 d13 c14 d14;have c15:=(McAt.of p1).c15;have d15:=(McAt.of p2).c15;have c16:=(McAt.of p1).c16;have d16:=(McAt.of p2).c16;have c17:=(McAt.of p1).c17;have d17:=(McAt.of p2).c17;have c18:=(McAt.of p1).c18;have d18:=(McAt.of p2).c18;cases hm1:bQ m.rq c.rq m'.rq c'.rq with
 | false=>
  have Hs:Hid (aH m c m' c'=false):=hid (by unfold aH;rw[hm1];simp);clear hm1;go_wp2_with fail;go_ret;exact⟨by rw[Hs.out];rfl,hbel1⟩
 | true=>
  have HM1:=hid hm1;clear hm1;have hc:=xM m.rs m'.rs c.rs c'.rs W1 (h.later hbel1).rs (h'.later hbel1).rs;unfold QV.val QV.cells at hc;go_wp2_with fail;refine hc.mono ?_;rintro e W2 ⟨rfl,hb2⟩;have hbel2:=hbel1.trans (hb2.mono hbel1.size);have p3:=af p1 hb2;have p4:=af p2 hb2;clear hc c15 d15 c16 d16 c17 d17 c18 d18;have c19:=(McAt.of p3).c19;have d19:=(McAt.of p4).c19;have c20:=(McAt.of p3).c20;have d20:=(McAt.of p4).c20;have c21:=(McAt.of p3).c21;have d21:=(McAt.of p4).c21;have c22:=(McAt.of p3).c22;have d22:=(McAt.of p4).c22;cases hm2:aF m.rs c.rs m'.rs c'.rs with
  | false=>
   have Hs:Hid (aH m c m' c'=false):=hid (by unfold aH;rw[hm2];simp);clear hm2;go_wp2_with fail;go_ret;exact⟨by rw[Hs.out];rfl,hbel2⟩
  | true=>
   have HM2:=hid hm2;clear hm2;by_cases e7:m.at_=m'.at_
   case neg=>
    have f7:(m.at_==m'.at_)=false:=by simp[e7]
    have Hs:Hid (aH m c m' c'=false):=hid (by unfold aH;rw[yad e7];simp);clear e7;go_wp2_with fail;go_ret;exact⟨by rw[Hs.out];rfl,hbel2⟩
   have f7:(m.at_==m'.at_)=true:=by simp[e7]
   by_cases e8:m.cm=m'.cm
   case neg=>
    have f8:(m.cm==m'.cm)=false:=by simp[e8]
    have Hs:Hid (aH m c m' c'=false):=hid (by unfold aH;rw[yad e8];simp);clear e7 e8;go_wp2_with fail;go_ret;exact⟨by rw[Hs.out];rfl,hbel2⟩
   have f8:(m.cm==m'.cm)=true:=by simp[e8]
   by_cases e9:m.bs=m'.bs
   case neg=>
    have f9:(m.bs==m'.bs)=false:=by simp[e9]
    have Hs:Hid (aH m c m' c'=false):=hid (by unfold aH;rw[yad e9];simp);clear e7 e8 e9;go_wp2_with fail;go_ret;exact⟨by rw[Hs.out];rfl,hbel2⟩
   have f9:(m.bs==m'.bs)=true:=by simp[e9]
   have E7:=hid e7;have E8:=hid e8;have E9:=hid e9;clear e7 e8 e9;have hc:=wz m.so m'.so m.sn m'.sn m.sc m'.sc c.snap c'.snap W2 (h.later hbel2).sn (h'.later hbel2).sn h.ls
   skip
   go_wp2_with fail;refine hc.mono ?_;rintro e W3 ⟨rfl,hb3⟩;have hbel3:=hbel2.trans (hb3.mono hbel2.size);have p5:=af p3 hb3;have p6:=af p4 hb3;clear hc c19 d19 c20 d20 c21 d21 c22 d22;have c23:=(McAt.of p5).c23;have d23:=(McAt.of p6).c23;cases hm3:decide (c.snap=c'.snap) with
   | false=>
    have Hs:Hid (aH m c m' c'=false):=hid (by unfold aH;rw[hm3];simp);clear hm3;go_wp2_with fail;go_ret;exact⟨by rw[Hs.out];rfl,hbel3⟩
   | true=>
    have HM3:=hid hm3;clear hm3;have hc:=Gl m.lo m'.lo m.ln m'.ln m.lc m'.lc c.log c'.log W3 (h.later hbel3).lg (h'.later hbel3).lg
    skip
    go_wp2_with fail;refine hc.mono ?_;rintro e W4 ⟨rfl,hb4⟩;have hbel4:=hbel3.trans (hb4.mono hbel3.size);have p7:=af p5 hb4;have p8:=af p6 hb4;clear hc c23 d23;have c24:=(McAt.of p7).c24;have d24:=(McAt.of p8).c24;have c25:=(McAt.of p7).c25;have d25:=(McAt.of p8).c25;have c26:=(McAt.of p7).c26;have d26:=(McAt.of p8).c26;cases hm4:bH c.log c'.log with
    | false=>
     have Hs:Hid (aH m c m' c'=false):=hid (by unfold aH;rw[hm4];simp);clear hm4;go_wp2_with fail;go_ret;exact⟨by rw[Hs.out];rfl,hbel4⟩
    | true=>
     have HM4:=hid hm4;clear hm4;by_cases e10:m.nc=m'.nc
     case neg=>
      have f10:(m.nc==m'.nc)=false:=by simp[e10]
      have Hs:Hid (aH m c m' c'=false):=hid (by unfold aH;rw[yad e10];simp);clear e10;go_wp2_with fail;go_ret;exact⟨by rw[Hs.out];rfl,hbel4⟩
     have f10:(m.nc==m'.nc)=true:=by simp[e10]
     by_cases e11:m.wh=m'.wh
     case neg=>
      have f11:(m.wh==m'.wh)=false:=by simp[e11]
      have Hs:Hid (aH m c m' c'=false):=hid (by unfold aH;rw[yad e11];simp);clear e10 e11;go_wp2_with fail;go_ret;exact⟨by rw[Hs.out];rfl,hbel4⟩
     have f11:(m.wh==m'.wh)=true:=by simp[e11]
     have E10:=hid e10;have E11:=hid e11;clear e10 e11;have hc:=LV m.ho m'.ho m.hn m'.hn m.hc m'.hc c.seen c'.seen W4 (h.later hbel4).se (h'.later hbel4).se h.lh;go_wp2_with fail;refine hc.mono ?_;rintro e W5 ⟨rfl,hb5⟩;have Hs:Hid (aH m c m' c'=decide (c.seen=c'.seen)):=hid (by unfold aH;rw[yaa E1.out,yaa E2.out,yaa E3.out,yaa E4.out,yaa E5.out,yaa E6.out,yaa E7.out,yaa E8.out,yaa E9.out,yaa E10.out,yaa E11.out,HM1.out,HM2.out,HM3.out,HM4.out];simp only[yaX]);go_wp2_with fail;go_ret;exact⟨by rw[Hs.out];rfl,hbel4.trans (hb5.mono hbel4.size)⟩
structure WlLoop (w:World)(m:MV)(b n t0 t1 t2 t3 t4 t5 t6 t7:Nat)(L:List FV)(k:Nat)(wr:World):Prop where
 bel:Below w.heap.size w wr
 msg:wr.heap[w.heap.size]?=some m.box
 bare:wr.heap[w.heap.size+1]?=some (jY ((L.take k).map FV.l) m).box
 row:Rd wr 4 (some ⟨b,0,none⟩) L.length n (fV L)
 all:AllAt t0 t1 t2 t3 t4 t5 t6 t7 wr
theorem Og(m:MV)(c:MC)(w:World)(h:MAt w m c)(hs:mQ c.rs):Calls Tryz.prog 60 #[m.val] w (GivesB (eu m c) w):=by
 have hb0:=bN w m.box;have k0:=aN w m.box
 have z0:(w.alloc m.box).heap.size=w.heap.size+1:=by simp
 unfold MV.box MV.cells at hb0 k0 z0;unfold MV.val MV.cells;go_in;go_upto_region 1 with fail;generalize hg:w.alloc _=W0 at *;have q0:W0.heap[w.heap.size]?=some m.box:=k0;have HZ:=hid z0;clear hg k0 z0;have c0:=(McAt.of q0).c0;go_upto_region 2 with (refine zNr rfl ?_;go_simp);generalize hg:W0.alloc _=W1;have z0:=HZ.out;have e1:W0.alloc (ay m.k).box=W1:=hg;have hb1':Below W0.heap.size W0 W1:=bE e1
 have p1:W1.heap[W0.heap.size]?=some (ay m.k).box:=aE e1
 have q1:=af q0 hb1';have hb1:=hb0.trans (hb1'.mono hb0.size);rw[z0] at p1;rw[z0];clear hg e1 hb1' q0 c0 z0 HZ;have c0:=(McAt.of q1).c0;have c25:=(McAt.of q1).c25;go_wp2_with fail;refine (yH m.k m.wh W1).mono ?_;rintro e W2 ⟨b,t0,t1,t2,t3,t4,t5,t6,t7,ln,n,rfl,hln,hrow,hall,hb2⟩;obtain⟨L,hL⟩:∃L,ofL m.k m.wh t0 t1 t2 t3 t4 t5 t6 t7=L:=⟨_,rfl⟩
 have hmem:∀f∈L,f∈allL t0 t1 t2 t3 t4 t5 t6 t7:=fun f hf=>Az (by rw[hL];exact hf);have hlet:L.map FV.l=lettersOf m.k m.wh:=by rw[<-hL];exact og _ _ _ _ _ _ _ _ _ _
 rw[hL] at hrow hln;subst hln;have HLet:=hid hlet;have s0:WlLoop w m b n t0 t1 t2 t3 t4 t5 t6 t7 L 0 W2:=⟨hb1.trans (hb2.mono hb1.size),af q1 hb2,af p1 hb2,hrow,hall⟩
 clear hL hlet hrow hall hb2 q1 p1 c0 c25 hb1;have hLn:L.length<=1000:=by
  have:=congrArg List.length HLet.out;rw[ybl] at this;have h2:(lettersOf m.k m.wh).length<=dF.length:=List.length_filter_le _ _;have h3:dF.length=15:=rfl;omega
 go_wp2_with fail;go_loopw [17] (fun p wr=>∃k:Nat,k<=L.length/\p=.int .i64 (k:Int)/\WlLoop w m b n t0 t1 t2 t3 t4 t5 t6 t7 L k wr) (fun p _=>L.length-(intOf p).toNat)
 case atStart=>exact⟨0,yam _,rfl,s0⟩
 case round=>
  obtain⟨k,hk,rfl,hW⟩:=hrel;clear s0;by_cases hkn:k<L.length
  ·obtain⟨f,hf⟩:∃f,L[k]?=some f:=⟨_,yac hkn⟩
   have hfm:=hmem f (yan hf);obtain⟨kf,kc,hK⟩:=NG f hfm;obtain⟨o1,o2,o3⟩:=vz _ _ _ _ _ _ _ _ f hfm;have hrg:=wU hW.row hf;have hn1:L.take (k+1)=L.take k++[f]:=by rw[yaE,hf];rfl
   have HN:=hid hn1;obtain⟨fl,fk,fp,ft⟩:=f;obtain⟨he,hen,hcl⟩:=hK;dsimp only at he hcl o1 o2 o3;subst he;have hone:(#[.int .i32 fl,.func (.func kf) #[] kc,fp,ft]:Array Value).all (·.oneCell')=true:=by simp[Value.oneCell'] at o2 o3 ⊢;exact⟨o2,o3⟩
   unfold FV.cells at hrg;dsimp only at hrg;have i0:(0:Int)<=(k:Int):=by omega
   have i1:(k:Int)<(L.length:Int):=by omega
   have hne:=AB hW.row (by omega) hW.bare;have hcap:=hW.row.le;have hlt:b<wr.heap.size:=(hW.row.2.2.2.2 (by omega) _ rfl).2.1;clear hn1 hf hfm;go_upto_region 6 with (first | (refine dB (ty:=171) hrg rfl rfl rfl (by kernel_rfl) (by kernel_rfl) ?_;go_simp) | (refine mr rfl rfl rfl rfl (by kernel_rfl) rfl hone ?_;go_simp));generalize hg:wr.alloc _=W3;have e3:wr.alloc (FV.box ⟨fl,.func (.func kf) #[] kc,fp,ft⟩)=W3:=hg;have hb3:=bE e3
   have k3:W3.heap[wr.heap.size]?=some (FV.box ⟨fl,.func (.func kf) #[] kc,fp,ft⟩):=aE e3
   obtain⟨d0,d1,d2,d3,-⟩:=qh k3;dsimp only at d0 d1 d2 d3;have p3:=af hW.bare hb3;have hcall:=hcl (w.heap.size+1) (w.heap.size+1) w.heap.size _ m W3 (hW.all.later hb3) p3 (af hW.msg hb3) (yag _);have hn2:decide ((b:Nat)=w.heap.size+1)=false:=yad hne;clear hg e3 hrg hone o1 o2 o3 hcl hn2;go_wp2_with fail;refine hcall.mono ?_;rintro e W4 ⟨rfl,h4,ho4⟩;have hW4:WlLoop w m b n t0 t1 t2 t3 t4 t5 t6 t7 L (k+1) W4:=by
    refine⟨(hW.bel.trans (hb3.mono hW.bel.size)).trans (ho4.bel.mono (ycG _)),?_,?_,?_,(hW.all.later hb3).othM p3 ho4⟩
    ·exact (ho4.oth _ (ybA.1 (af hW.msg hb3)).1 (by omega)).trans (af hW.msg hb3)
    ·rw[HN.out,List.map_append,List.map_singleton,IA];exact h4
    exact Si (hW.row.later hb3) ho4 (fun a ha=>by cases ha;exact hne)
   clear d0 d1 d2 d3 k3 p3 hcall h4 ho4 hb3 hW;go_wp2_with fail;go_roundw
   case rel=>exact⟨k+1,by omega,by go_num,hW4⟩
   case measure=>simp[intOf];omega
  obtain rfl:k=L.length:=by omega
  have hfull:L.take L.length=L:=ybG;have hbare:=hW.bare;rw[hfull,HLet.out] at hbare;have hbel:=hW.bel;have hmsg:=hW.msg;have hM:=h.later hbel;have hMk:=Rl hM (lettersOf m.k m.wh);obtain⟨mk,hmk⟩:∃x,jY (lettersOf m.k m.wh) m=x:=⟨_,rfl⟩
  obtain⟨ck,hck⟩:∃x,nJ (lettersOf m.k m.wh) c=x:=⟨_,rfl⟩
  rw[hmk] at hbare;rw[hmk,hck] at hMk;have HMk:=hid hmk;have HCk:=hid hck;clear hmk hck;have hlenL:L.length=(lettersOf m.k m.wh).length:=by rw[<-HLet.out,ybl]
  clear hfull hW hkn hk hmem;have c0:=(McAt.of hmsg).c0;have c3:=(McAt.of hmsg).c3;have c22:=(McAt.of hmsg).c22;have c23:=(McAt.of hmsg).c23;have c26:=(McAt.of hmsg).c26;obtain⟨Wb,hWb⟩:∃x,x=wr:=⟨wr,rfl⟩
  subst hWb;by_cases hls:lettersOf m.k m.wh=[]
  ·have f0:((L.length:Int)==0)=true:=by rw[hlenL,hls];rfl
   have HN:Hid (eu m c=false):=hid (by unfold eu;rw[yad (by simp[hls])];rfl);clear hls hlenL;go_wp2_with fail;go_ret;exact⟨by rw[HN.out];rfl,hbel⟩
  have f0:((L.length:Int)==0)=false:=by
   rw[yap];have:0<(lettersOf m.k m.wh).length:=ycj.2 hls;omega
  have HNe:=hid hls;have hsame:=JK m mk c ck Wb hM hMk;unfold MV.val MV.cells at hsame;unfold MV.box MV.cells at hbare hmsg;clear hls hlenL;go_wp2_with (first | (refine wpList_load_row (ty:=59) hmsg rfl rfl rfl (by kernel_rfl) (by kernel_rfl) ?_;go_simp) | (refine wpList_load_row (ty:=59) hbare rfl rfl rfl (by kernel_rfl) (by kernel_rfl) ?_;go_simp));refine hsame.mono ?_;rintro e W5 ⟨rfl,hb5⟩;have q5:W5.heap[w.heap.size]?=some m.box:=af hmsg hb5;have bel5:=hbel.trans (hb5.mono hbel.size);clear hsame c0 c3 c22 c23 c26 hbare hmsg hM hMk hbel hb5;have c0:=(McAt.of q5).c0;have c3:=(McAt.of q5).c3;have c22:=(McAt.of q5).c22;have c23:=(McAt.of q5).c23;have c26:=(McAt.of q5).c26;cases hsm:aH m c mk ck with
  | false=>
   have HN:Hid (eu m c=false):=hid (by unfold eu;rw[HMk.out,HCk.out,hsm];simp);clear hsm;go_wp2_with fail;go_ret;exact⟨by rw[HN.out];rfl,bel5⟩
  | true=>
   have HS:=hid hsm;clear hsm;by_cases h1:m.fr<0
   ·have f1:decide (m.fr<0)=true:=yaa h1;have HN:Hid (eu m c=false):=hid (by unfold eu;rw[yad (show ¬0<=m.fr by omega)];simp);clear h1;go_wp2_with fail;go_ret;exact⟨by rw[HN.out];rfl,bel5⟩
   have f1:decide (m.fr<0)=false:=yad h1;by_cases h2:7<=m.fr
   ·have f2:decide (7<=m.fr)=true:=yaa h2;have HN:Hid (eu m c=false):=hid (by unfold eu;rw[yad (show ¬m.fr<7 by omega)];simp);clear h1 h2;go_wp2_with fail;go_ret;exact⟨by rw[HN.out];rfl,bel5⟩
   have f2:decide (7<=m.fr)=false:=yad h2;by_cases h3:4096<m.ln
   ·have f3:decide ((4096:Int)<(m.ln:Int))=true:=yaa (by omega);have HN:Hid (eu m c=false):=hid (by unfold eu;rw[yad (show ¬m.ln<=4096 by omega)];simp);clear h1 h2 h3;go_wp2_with fail;go_ret;exact⟨by rw[HN.out];rfl,bel5⟩
   have f3:decide ((4096:Int)<(m.ln:Int))=false:=yad (by omega);by_cases h4:4194304<m.sn
   ·have f4:decide ((4194304:Int)<(m.sn:Int))=true:=yaa (by omega);have HN:Hid (eu m c=false):=hid (by unfold eu;rw[yad (show ¬m.sn<=4194304 by omega)];simp);clear h1 h2 h3 h4;go_wp2_with fail;go_ret;exact⟨by rw[HN.out];rfl,bel5⟩
   have f4:decide ((4194304:Int)<(m.sn:Int))=false:=yad (by omega);by_cases h5:7<m.hn
   ·have f5:decide ((7:Int)<(m.hn:Int))=true:=yaa (by omega);have HN:Hid (eu m c=false):=hid (by unfold eu;rw[yad (show ¬m.hn<=7 by omega)];simp);clear h1 h2 h3 h4 h5;go_wp2_with fail;go_ret;exact⟨by rw[HN.out];rfl,bel5⟩
   have f5:decide ((7:Int)<(m.hn:Int))=false:=yad (by omega);have HW:Hid (eu m c=(!(c.log.any fun u=>!aA u.1.op u.2)&&(if m.k=1\/m.k=3 then aA m.rq.op c.rq else if m.k=2 then bz m.rs c.rs else true))):=hid (by
    unfold eu;rw[yaa HNe.out,HMk.out,HCk.out,HS.out,yaa (show 0<=m.fr by omega),yaa (show m.fr<7 by omega),yaa (show m.ln<=4096 by omega),yaa (show m.sn<=4194304 by omega),yaa (show m.hn<=7 by omega)];simp only[yaX])
   clear h1 h2 h3 h4 h5;have hM5:=h.later bel5;go_wp2_with fail;refine (Eb m.lo m.ln m.lc c.log W5 hM5.lg).mono ?_;rintro e W6 ⟨rfl,hb6⟩;have q6:=af q5 hb6;have bel6:=bel5.trans (hb6.mono bel5.size);have hM6:=h.later bel6;clear c0 c3 c22 c23 c26 q5 hM5 hb6 bel5 f0 f1 f2 f3 f4 f5;cases ha:(c.log.any fun u=>!aA u.1.op u.2) with
   | true=>
    have HN:Hid (eu m c=false):=hid (by rw[HW.out,ha];rfl);clear ha;go_wp2_with fail;go_ret;exact⟨by rw[HN.out];rfl,bel6⟩
   | false=>
    have HW2:Hid (eu m c=(if m.k=1\/m.k=3 then aA m.rq.op c.rq else if m.k=2 then bz m.rs c.rs else true)):=hid (by rw[HW.out,ha];rfl);clear ha;have c0:=(McAt.of q6).c0;have hq:=(McAt.of q6).q;have hr:=(McAt.of q6).r;unfold RV.cells at hq;unfold QV.cells at hr;by_cases h13:m.k=1\/m.k=3
    ·have HW3:Hid (eu m c=aA m.rq.op c.rq):=hid (by rw[HW2.out,if_pos h13]);have hc:=tC m.rq c.rq (aA m.rq.op c.rq) _ W6 hM6.rq (jI W6 m.rq.op c.rq hM6.rq);unfold RV.val RV.cells at hc;rcases h13 with h13 | h13
     ·have f6:(m.k==1)=true:=by simp[h13]
      clear h13;go_wp2_with (refine dB (ty:=55) hq rfl rfl rfl (by kernel_rfl) (by kernel_rfl) ?_;go_simp);refine hc.mono ?_;rintro e W7 ⟨rfl,hb7⟩;go_wp2_with fail;go_ret;exact⟨by rw[HW3.out];rfl,bel6.trans (hb7.mono bel6.size)⟩
     have f6:(m.k==1)=false:=by simp[h13]
     have f7:(m.k==3)=true:=by simp[h13]
     clear h13;go_wp2_with (refine dB (ty:=55) hq rfl rfl rfl (by kernel_rfl) (by kernel_rfl) ?_;go_simp);refine hc.mono ?_;rintro e W7 ⟨rfl,hb7⟩;go_wp2_with fail;go_ret;exact⟨by rw[HW3.out];rfl,bel6.trans (hb7.mono bel6.size)⟩
    have f6:(m.k==1)=false:=by rw[yap];exact fun e=>h13 (.inl e)
    have f7:(m.k==3)=false:=by rw[yap];exact fun e=>h13 (.inr e)
    by_cases h2:m.k=2
    ·have f8:(m.k==2)=true:=by simp[h2]
     have HW3:Hid (eu m c=bz m.rs c.rs):=hid (by rw[HW2.out,if_neg h13,if_pos h2]);have hc:=tH m.rs c.rs W6 hM6.rs hs;unfold QV.val QV.cells at hc;clear h13 h2;go_wp2_with (refine dB (ty:=39) hr rfl rfl rfl (by kernel_rfl) (by kernel_rfl) ?_;go_simp);refine hc.mono ?_;rintro e W7 ⟨rfl,hb7⟩;go_wp2_with fail;go_ret;exact⟨by rw[HW3.out];rfl,bel6.trans (hb7.mono bel6.size)⟩
    have f8:(m.k==2)=false:=by simp[h2]
    have HW3:Hid (eu m c=true):=hid (by rw[HW2.out,if_neg h13,if_neg h2]);clear h13 h2;go_wp2_with fail;go_ret;exact⟨by rw[HW3.out];rfl,bel6⟩
def Qp (m:MV)(c:MC)(w:World)(e:Ending)(w':World):Prop:=∃(l:List UInt8) (ax:Option Addr) (cx:Nat) (ex:Int),e=.returned (.tuple #[.slice ax l.length cx,.int .i64 ex])/\Rd w' 1 ax l.length cx (byV l)/\Below w.heap.size w w'/\(∀a,ax=some a->w.heap.size<=a.block)/\(bY m c=true->l=dL m c/\ex=0)/\(bY m c=false->l=[]/\ex=2)
theorem MG(h:lettersOf m.k m.wh≠[]):1<=m.k/\m.k<=12:=by
 rcases kinds m.k m.wh with h0 | h0
 ·exact absurd h0 h
 omega
theorem wJ(m:MV)(c:MC)(w:World)(h:MAt w m c)(hu:U64M m c)(hf:FitsM m c):Calls Tryz.prog 27 #[m.val] w (Qp m c w):=by
 have hb0:=bN w m.box;have k0:=aN w m.box
 unfold MV.box MV.cells at hb0 k0;unfold MV.val MV.cells;go_in;go_upto_region 1 with fail;generalize hg:w.alloc _=W0 at *;have q0:W0.heap[w.heap.size]?=some m.box:=k0;have hm0:=Og m c W0 (h.later hb0) hf.rs;unfold MV.val MV.cells at hm0;unfold MV.box MV.cells at q0;clear hg k0;go_wp2_with (refine wpList_load_row (ty:=59) q0 rfl rfl rfl (by kernel_rfl) (by kernel_rfl) ?_;go_simp);refine hm0.mono ?_;rintro e W1 ⟨rfl,hb1⟩;have q1:=hb1.q q0;have hbel:=hb0.trans (hb1.mono hb0.size);clear hm0 q0;cases hm:eu m c with
 | false=>
  have HM:Hid (bY m c=false):=hid (by unfold bY;rw[hm];rfl);clear hm;go_wp2_with fail;go_ret2;exact⟨[],none,0,2,rfl,Rd.nil _ _,hbel,(fun a ha=>by cases ha),fun h=>(by rw[HM.out] at h;cases h),fun _=>⟨rfl,rfl⟩⟩
 | true=>
  have F:=WellP.of hm;obtain⟨hk1,hk2⟩:=MG F.ls;have HM:=hid hm;have hr:=Nh m c W1 (h.later hbel) hu (by omega) (by omega) (F.may hf);unfold MV.val MV.cells at hr;clear hm F;go_wp2_with (refine wpList_load_row (ty:=59) q1 rfl rfl rfl (by kernel_rfl) (by kernel_rfl) ?_;go_simp);refine hr.mono ?_;rintro e W2 ⟨ax,cx,rfl,hrd,hb2,hfr⟩;have hbel2:=hbel.trans (hb2.mono hbel.size);have hfr2:∀a,ax=some a->w.heap.size<=a.block:=fun a ha=>yae hbel.size (hfr a ha);clear hr hb2 hfr q1;by_cases hl:8388608<(dL m c).length
  ·have f1:decide ((8388608:Int)<((dL m c).length:Int))=true:=yaa (by omega);have HN:Hid (bY m c=false):=hid (by unfold bY;rw[yad (by omega)];simp);clear hl;go_wp2_with fail;go_ret2;exact⟨[],none,0,2,rfl,Rd.nil _ _,hbel2,(fun a ha=>by cases ha),fun h=>(by rw[HN.out] at h;cases h),fun _=>⟨rfl,rfl⟩⟩
  have f1:decide ((8388608:Int)<((dL m c).length:Int))=false:=yad (by omega);have HN:Hid (bY m c=true):=hid (by unfold bY;rw[HM.out,yaa (by omega)];rfl);clear hl;go_wp2_with fail;go_ret2;exact⟨_,ax,cx,0,rfl,hrd,hbel2,hfr2,fun _=>⟨rfl,rfl⟩,fun h=>(by rw[HN.out] at h;cases h)⟩
theorem Ib(m:MV)(c:MC)(w:World)(h:MAt w m c)(hu:U64M m c)(hf:FitsM m c):Calls Tryz.prog 31 #[m.val] w (GivesB (bY m c) w):=by
 have hb0:=bN w m.box;have k0:=aN w m.box
 unfold MV.box MV.cells at hb0 k0;unfold MV.val MV.cells;go_in;go_upto_region 1 with fail;generalize hg:w.alloc _=W0 at *;have hm0:=wJ m c W0 (h.later hb0) hu hf;unfold MV.val MV.cells at hm0;clear hg;go_wp2_with (refine wpList_load_row (ty:=59) k0 rfl rfl rfl (by kernel_rfl) (by kernel_rfl) ?_;go_simp);refine hm0.mono ?_;rintro e W1 ⟨l,ax,cx,ex,rfl,-,hb1,-,h1,h2⟩;have hbel:=hb0.trans (hb1.mono hb0.size);have he:(ex==0)=bY m c:=by
  cases hm:bY m c with
  | true=>rw[(h1 hm).2];rfl
  | false=>rw[(h2 hm).2];rfl
 clear hm0 k0 h1 h2 hb1;go_wp2_with fail;go_ret;exact⟨rfl,hbel⟩
theorem L6{c:MC}{ls:List Int}(hls:∀x∈ls,x∈dF)(hz:∀x∈dF,x∉ls->agree x m c (ay m.k) dO=true):aH m c (jY ls m) (nJ ls c)=true:=
 same_iff.2 ⟨(DD m ls (ay m.k)).symm,fun x hx=>by
  have h:=sZ m c ls hls x hx (ay m.k) dO;by_cases hm:x∈ls
  ·exact iR (h.1 hm)
  exact dU (hz x hx hm) (iR (h.2 hm))⟩
