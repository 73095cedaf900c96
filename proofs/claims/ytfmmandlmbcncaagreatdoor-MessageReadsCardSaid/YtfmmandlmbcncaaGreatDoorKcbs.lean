/-
  A part of the proof.
-/
import Derived.Test.YtfmmandlmbcncaaGreatDoorKcbr
import Derived.Test.YtfmmandlmbcncaaGreatDoorKcbl
set_option maxHeartbeats 40000000
set_option maxRecDepth 100000
namespace Go.Proofs.YtfmmandlmbcncaaGreatDoor.Msg
open Go.RowKit Go.Lib Mem Tlv
theorem pJ (m m':MV)(c c':MC)(w:World)(h:MAt w m c)(h':MAt w m' c'):Calls Tryz.prog 30 #[m.val,m'.val] w (aN (aG m c m' c') w):=by
 by_cases h6:m.k=m'.k/\m.vi=m'.vi/\m.no=m'.no/\m.fr=m'.fr/\m.cl=m'.cl/\m.nu=m'.nu
 case neg=>
  have e:aG m c m' c'=false:=by
   cases hh:aG m c m' c' with
   | false=>rfl
   | true=>
    unfold aG at hh;simp only[Bool.and_eq_true,decide_eq_true_eq] at hh;obtain⟨h1,h2,h3,h4,h5,h7,-⟩:=hh;exact absurd ⟨h1,h2,h3,h4,h5,h7⟩ h6
  rw[e];exact NU m m' w h6
 obtain⟨e1,e2,e3,e4,e5,e6⟩:=h6;by_cases hr:bQ m.rq c.rq m'.rq c'.rq=true/\aU m.rs c.rs m'.rs c'.rs=true/\m.at_=m'.at_/\m.cm=m'.cm/\m.bs=m'.bs/\c.snap=c'.snap/\m.ln=m'.ln/\m.nc=m'.nc/\m.wh=m'.wh/\m.hn=m'.hn
 case neg=>
  have e:aG m c m' c'=false:=by
   cases hh:aG m c m' c' with
   | false=>rfl
   | true=>
    unfold aG at hh;simp only[Bool.and_eq_true,decide_eq_true_eq] at hh;obtain⟨-,-,-,-,-,-,h7,h8,h9,h10,h11,h12,h13,h14,h15,h16⟩:=hh;have l1:=jl h13;have l2:=h.lg.len;have l3:=h'.lg.len;have s1:=congrArg List.length h16;have s2:=h.se.1;have s3:=h'.se.1;rw[gB] at s2 s3;exact absurd ⟨h7,h8,h9,h10,h11,h12,by omega,h14,h15,by omega⟩ hr
  rw[e];exact MO m m' c c' w h h' e1 e2 e3 e4 e5 e6 hr
 obtain⟨e7,e8,e9,e10,e11,e12,e13,e14,e15,e16⟩:=hr;have e:aG m c m' c'=(bu c.log c'.log&&decide (c.seen=c'.seen)):=by
  unfold aG;rw[e1,e2,e3,e4,e5,e6,e7,e8,e9,e10,e11,e12,e14,e15];simp only[decide_true,Bool.true_and]
 rw[e];exact N7 m m' c c' w h h' e1 e2 e3 e4 e5 e6 e7 e8 e9 e10 e11 e12 e13 e14 e15 e16
def MF (m:MV)(c:MC)(w:World)(e:Ending)(w':World):Prop:=∃(l:List UInt8) (ax:Option Addr) (cx:Nat) (ok:Bool),e=.returned (.tuple #[.slice ax l.length cx,.bool ok])/\Rd w' 1 ax l.length cx (byV l)/\Below w.heap.size w w'/\ok=bZ m c/\(ok=true->l=dO m c)
structure RbL (w:World)(m:MV)(c:MC)(T:Option Addr)(n tc:Nat)(k:Nat)(v:Value)(wr:World):Prop where
 q:wr.heap[w.heap.size]?=some m.box
 bel:Below w.heap.size w wr
 tags:Rd wr 1 T n tc (byV (eH m.k m.wh))
 own:wr.ownsRow (w.heap.size+1) 5 1 v (val 1 (aA (IntKind.wrap .u64 m.k).toNat)++aO ((lettersOf m.k m.wh).take k) m c).length (byV (val 1 (aA (IntKind.wrap .u64 m.k).toNat)++aO ((lettersOf m.k m.wh).take k) m c))
 ne:∀a,T=some a->0<tc->v.ownBlock≠some a.block
 all:∀x∈(lettersOf m.k m.wh).take k,eX x m c=true
theorem zN (htake:∀(B g:Nat) (s:RS) (W:World),RfS B g s W->B<=W.heap.size->s.l.length<=100000000->Calls Tryz.prog 54 #[.pointer (some ⟨g,0,none⟩)] W (vN B g s W))
  (m:MV) (c:MC) (w:World) (h:MAt w m c) (hu:U64M m c) (hf:FitsM m c) (hs:m.sn<=4194304) (hn:m.hn<=322639) (hl:m.ln<=1000000):Calls Tryz.prog 16 #[m.val] w (MF m c w):=by
 have hmo:Tryz.prog.follows .mixedOrders=true:=by kernel_rfl
 have hb0:Below w.heap.size w (w.alloc m.box):=(Below.refl _ _).alloc (Nat.le_refl _) _;have k0:(w.alloc m.box).heap[w.heap.size]?=some m.box:=by show (w.heap.push _)[w.heap.size]?=some _;exact Array.getElem?_push_size
 unfold MV.box MV.cells at hb0 k0;unfold MV.val MV.cells;go_in;go_upto_region 1 with fail;generalize hg:w.alloc _=W0 at *;have q0:W0.heap[w.heap.size]?=some m.box:=k0;clear hg k0;have c0:=(McAt.of q0).c0;have c25:=(McAt.of q0).c25;go_wp2_with fail;refine (rO m.k m.wh W0).mono ?_;rintro e W1 ⟨T,tc,rfl,hT,hb1,hty⟩;have q1:=ae q0 hb1;have bel1:=hb0.trans (hb1.mono hb0.size);clear c0 c25 q0 hb0 hb1;have c0:=(McAt.of q1).c0;have hw:0<=IntKind.wrap .u64 m.k/\IntKind.wrap .u64 m.k<18446744073709551616:=by rw[IntKind.wrap_u64];omega
 have hnum:=jg 1 (IntKind.wrap .u64 m.k) W1 hw.1 hw.2;have hz1:w.heap.size+1<=W1.heap.size:=(Array.getElem?_eq_some_iff.1 q1).1;clear hw;go_wp2_with fail;refine hnum.mono ?_;rintro e W2 ⟨v2,rfl,o2,hb2⟩;have hTlt:=hT.lt;have s0:RbL w m c T (eH m.k m.wh).length tc 0 v2 W2:=⟨ae q1 hb2,bel1.trans (hb2.mono bel1.size),hT.later hb2,by
  have e:val 1 (aA (IntKind.wrap .u64 m.k).toNat)++aO ((lettersOf m.k m.wh).take 0) m c=val 1 (aA (IntKind.wrap .u64 m.k).toNat):=by simp[aO]
  rw[e];exact Tlv.own_base o2 hz1,fun a ha h0 e=>by have:=(aY o2 e).1;have:=hTlt h0 a ha;omega,fun x hx=>by simp at hx⟩
 have hlen:(eH m.k m.wh).length=(lettersOf m.k m.wh).length:=by unfold eH;rw[List.length_map]
 have hl15:=lS m.k m.wh;have HLen:=hid hlen;have hN15:(eH m.k m.wh).length<=15:=by omega
 obtain⟨N,hN⟩:∃N,(eH m.k m.wh).length=N:=⟨_,rfl⟩
 rw[hN] at s0 hN15 ⊢;have HN:=hid hN;clear c0 hnum q1 bel1 o2 hb2 hT hTlt hty hlen hl15 hN hz1;go_wp2_with fail;go_loopw [5,6] (fun v p wr=>∃k:Nat,k<=N/\p=.int .i64 (k:Int)/\RbL w m c T N tc k v wr) (fun _ p _=>N-(intOf p).toNat)
 case atStart=>exact⟨0,Nat.zero_le _,rfl,s0⟩
 case round=>
  obtain⟨k,hk,rfl,s1⟩:=hrel;clear s0;by_cases hkn:k<N
  ·obtain⟨x,hx⟩:∃x,(lettersOf m.k m.wh)[k]?=some x:=⟨_,List.getElem?_eq_getElem (by rw[<-HLen.out,HN.out];exact hkn)⟩
   have hxm:=List.mem_of_getElem? hx;obtain⟨tb,to_,hT,htl,htc⟩:=s1.tags.some (by have:=s1.tags.le;omega);have htag:=htc k _ (D6 m.k m.wh k x hx);have hd:Below wr.heap.size wr wr.drew:=(Below.refl _ _).drew;have t0:wr.drew.heap[w.heap.size]?=some m.box/\wr.drew.cell? ⟨tb,to_+k,none⟩=some (.int .u8 ((jK x).toNat:Int)):=⟨ae s1.q hd,dI hd htag⟩
   have hfd:=FY x (jv x hxm) m c wr.drew ((h.later s1.bel).later hd) hu hf hs hn hl;unfold MV.val MV.cells at hfd;have HX:=hid hx;have HXM:=hid hxm;have HT:=hid hT;have HS:=hid s1;have i0:(0:Int)<=(k:Int):=by omega
   have i1:(k:Int)<(N:Int):=by omega
   have hcap:N<=tc:=s1.tags.le;rw[hT];clear hx hxm htc htag hT s1;go_upto_region 6 with fail;refine wp_region_held (S:=fun W=>W.heap[w.heap.size]?=some m.box/\W.cell? ⟨tb,to_+k,none⟩=some (.int .u8 ((jK x).toNat:Int))) hmo ?_;change wpAnyH _ _ _ _ _ _ _ _ (World.drew wr);have HD:=hid hd;generalize hX0:World.drew wr=X0 at *;have HX0:=hid hX0;clear hd hX0;refine zHa 0 (.agg #[.int .i64 m.k,.int .u64 m.vi,.int .u64 m.no,.int .i64 m.fr,.int .u64 m.cl,.int .u64 m.nu,.int .u64 m.rq.cl,.int .u64 m.rq.nu,.int .i64 m.rq.op.k,.string m.rq.op.name,.string m.rq.op.to,.slice m.rq.op.ao m.rq.op.an m.rq.op.ac,.slice m.rq.op.bo m.rq.op.bn m.rq.op.bc,.slice m.rq.op.co m.rq.op.cn m.rq.op.cc,.int .i64 m.rq.op.n,.int .i64 m.rs.code,.bool m.rs.yes,.slice m.rs.eo m.rs.en m.rs.ec,.slice m.rs.co m.rs.cn m.rs.cc,.int .u64 m.at_,.int .u64 m.cm,.int .u64 m.bs,.slice m.so m.sn m.sc,.slice m.lo m.ln m.lc,.int .u64 m.nc,.bool m.wh,.slice m.ho m.hn m.hc]) rfl (fun w2 h2=>gq (cs:=m.cells) h2.1 rfl rfl (by kernel_rfl) (by kernel_rfl)) t0 ?_;go_simp;refine zHp 1 (.slice (some ⟨tb,to_,none⟩) N tc) rfl t0 ?_;go_simp;refine zHp 2 (.int .i64 (k:Int)) rfl t0 ?_;go_simp;refine zHa 3 (.pointer (some ⟨tb,to_+k,none⟩)) rfl (by rintro w2 h2;go_simp) t0 ?_;go_simp;refine zHa 4 (.int .u8 ((jK x).toNat:Int)) rfl (by rintro w2 h2;have cc:=h2.2;go_simp) t0 ?_;go_simp;refine zH1 5 rfl (fun K hK=>?_);go_simp;refine hfd.mono ?_;rintro e X1 ⟨l,ax,cx,ok,rfl,r1,hb1,hok,hbl⟩;have t1:X1.heap[w.heap.size]?=some m.box/\X1.cell? ⟨tb,to_+k,none⟩=some (.int .u8 ((jK x).toNat:Int)):=⟨ae t0.1 hb1,dI hb1 t0.2⟩
   have HOK:=hid hok;have HBL:=hid hbl;clear hfd hok hbl;go_simp;refine hK _ _ ⟨t1,?_⟩;clear hK K;refine zHp 6 (.tuple #[.slice ax l.length cx,.bool ok]) rfl t1 ?_;go_simp;refine zHp 7 (.slice ax l.length cx) rfl t1 ?_;go_simp;refine zHp 8 (.bool ok) rfl t1 ?_;go_simp;refine zHp 9 (.slice ax l.length cx) rfl t1 ?_;go_simp;refine zHp 10 (.bool ok) rfl t1 ?_;go_simp;refine wpAnyH_done (by kernel_rfl) ?_ _;have hs1:=HS.out;have bX:Below wr.heap.size wr X1:=HD.out.trans (hb1.mono HD.out.size);have bel1:=hs1.bel.trans (bX.mono hs1.bel.size);cases ok with
   | false=>
    have HNo:=hid (Lu h hs HXM.out HOK.out.symm);go_wp2_with fail;go_ret2;exact⟨[],none,0,false,rfl,Rd.nil _ _,bel1,HNo.out.symm,fun e=>by cases e⟩
   | true=>
    have hfl:=HBL.out (by first | rfl | trivial);have hl9:l.length<=4194309:=by rw[hfl];exact yY h (uZ hf hs HOK.out.symm)
    have hsn:aO ((lettersOf m.k m.wh).take (k+1)) m c=aO ((lettersOf m.k m.wh).take k) m c++l:=by rw[List.take_add_one,HX.out,hfl];exact pK _ _ _ _
    have hpl:(val 1 (aA (IntKind.wrap .u64 m.k).toNat)++aO ((lettersOf m.k m.wh).take k) m c).length<=100000000:=by
     have h1:=mi h ((lettersOf m.k m.wh).take k) (fun y hy=>uZ hf hs (hs1.all y hy));have h2:((lettersOf m.k m.wh).take k).length<=15:=Nat.le_trans (List.length_take_le _ _) (by omega);have h3:=Nat.mul_le_mul_right 4194309 h2;rw[List.length_append,af,ah];omega
    obtain⟨P,hP⟩:∃P,val 1 (aA (IntKind.wrap .u64 m.k).toNat)++aO ((lettersOf m.k m.wh).take k) m c=P:=⟨_,rfl⟩
    have own1:=ag hs1.own bX;rw[hP] at own1 hpl;have HP:=hid hP;have HSN:=hid hsn;have z1:w.heap.size+1<=X1.heap.size:=(Array.getElem?_eq_some_iff.1 t1.1).1;have htg:=hs1.tags.later bX;have hne:=hs1.ne;have hall:=hs1.all;clear hfl hsn hP hs1 HS;go_wp2_with (at_builtin;refine qI _ rfl (.tmp 37) (.tmp 38) 34 rfl (w.heap.size+1) 5 (.int .u8 0) 1 1 byT _ _ (byV P) rfl own1 ax _ cx (byV l) rfl r1 (bK _) (by unfold maxLen;omega) (by omega) z1 ?_;intro ao4 cap4 X4 o4 hg4 hb4 hnn);have q4:X4.heap[w.heap.size]?=some m.box:=(hb4.block _ (Nat.lt_succ_self _)).trans t1.1;have bel4:=bel1.trans (hb4.mono (Nat.le_succ _));have tg4:Rd X4 1 T N tc (byV (eH m.k m.wh)):=IV htg hg4 (fun h0 a ha e=>hne a ha h0 e.symm);have ne4:∀a,T=some a->0<tc->(Value.slice ao4 (P.length+l.length) cap4).ownBlock≠some a.block:=fun a ha h0 e=>by
     rcases hnn _ e with h1 | h1
     ·exact hne a ha h0 h1
     have:=htg.lt h0 a ha;omega
    have hx2:=HX.out;go_roundw
    case rel=>
     refine⟨k+1,by omega,by go_num,⟨q4,bel4,HT.out▸tg4,?_,HT.out▸ne4,fun z hz=>?_⟩⟩
     ·rw[HSN.out,<-List.append_assoc,HP.out,List.length_append,dP];exact o4
     rw[List.take_add_one,hx2] at hz;rcases List.mem_append.1 hz with hz | hz
     ·exact hall z hz
     obtain rfl:z=x:=by simpa using hz
     exact HOK.out.symm
    case measure=>simp[intOf];omega
  have hkN:k=N:=by omega
  subst hkN;have hs1:=s1;have hfull:(lettersOf m.k m.wh).take k=lettersOf m.k m.wh:=List.take_of_length_le (by have:=HLen.out;have:=HN.out;omega);have own:=hs1.own;have hall:=hs1.all;have hbel:=hs1.bel;have hq:=hs1.q;rw[hfull] at own hall;have hpl:(val 1 (aA (IntKind.wrap .u64 m.k).toNat)++aO (lettersOf m.k m.wh) m c).length<=100000000:=by
   have h1:=mi h (lettersOf m.k m.wh) (fun y hy=>uZ hf hs (hall y hy));have h2:(lettersOf m.k m.wh).length<=15:=by have:=HLen.out;have:=HN.out;omega
   have h3:=Nat.mul_le_mul_right 4194309 h2;rw[List.length_append,af,ah];omega
  have hPm:lettersOf m.k m.wh≠[]->val 1 (aA (IntKind.wrap .u64 m.k).toNat)++aO (lettersOf m.k m.wh) m c=dO m c:=fun hne=>by
   have hk1:1<=m.k/\m.k<=12:=by
    rcases kinds m.k m.wh with h0 | h0
    ·exact absurd h0 hne
    omega
   have e:IntKind.wrap .u64 m.k=m.k:=by rw[IntKind.wrap_u64];omega
   rw[e];rfl
  obtain⟨P,hP⟩:∃P,val 1 (aA (IntKind.wrap .u64 m.k).toNat)++aO (lettersOf m.k m.wh) m c=P:=⟨_,rfl⟩
  rw[hP] at own hpl hPm;have HPM:=hid hPm;have HALL:=hid hall;obtain⟨ao,cap,rfl,hrd⟩:=Rd.of_own own;have hR:=nI (B:=wr.heap.size) hrd (Nat.le_refl _) (fun h0 a ha=>.inl (hrd.lt h0 a ha));have hbR:Below wr.heap.size wr (wr.alloc (.cells #[.slice ao P.length cap,.bool false] 119)):=(Below.refl _ _).alloc (Nat.le_refl _) _;have hzR:wr.heap.size<=(wr.alloc (.cells #[.slice ao P.length cap,.bool false] 119)).heap.size:=hbR.size;have htk:=htake wr.heap.size wr.heap.size ⟨P,false⟩ _ hR hzR hpl;have HF0:=hid hfull;have HGR:=hid hrd;have HQ:=hid hq;have HBL:=hid hbel;clear hs1 s1 hfull hall hP own hR hzR hPm hrd hq hbel;go_wp2_with fail;refine htk.mono ?_;rintro e W2 ⟨s',-,hXf,hans⟩;have hB2:Below wr.heap.size wr W2:=hbR.trans (lJ hXf hbR.size (fun j hj=>by rw[List.mem_singleton.1 hj];exact Nat.le_refl _));have q2:=ae HQ.out hB2;have bel2:=HBL.out.trans (hB2.mono HBL.out.size);have rdP:=HGR.out.later hB2;obtain⟨o,d,ok,rfl,hat,hsm⟩:∃(o:MV) (d:MC) (ok:Bool),e=.returned (.tuple #[o.val,.bool ok])/\MAt W2 o d/\(MayM w m c->P=dO m c->aG o d m c=aG m c (jX (lettersOf m.k m.wh) m) (mX (lettersOf m.k m.wh) c)):=by
   rcases hans with ⟨o,d,rfl,a1,a2,-,a4,a5,a6,-⟩ | ⟨rfl,-,hno⟩
   ·exact⟨o,d,true,rfl,a1,fun hM e=>II (by rw[<-e];exact a6) hM a1 a2 a4 a5⟩
   exact⟨aj 0,dK,false,rfl,jG _ _,fun hM e=>absurd (by rw[List.append_nil];exact e) (hno w m c [] rfl hM)⟩
  have HSM:=hid hsm;clear htk hbR hXf hans hB2 hsm;unfold MV.val MV.cells;go_upto_region 11 with (refine zNr rfl ?_;go_simp);generalize hg:W2.alloc _=W3;have e3:W2.alloc o.box=W3:=hg;have hb3:Below W2.heap.size W2 W3:=by rw[<-e3];exact (Below.refl _ _).alloc (Nat.le_refl _) _
  have q3o:W3.heap[W2.heap.size]?=some o.box:=by rw[<-e3];exact at_new _ _
  have q3m:=ae q2 hb3;have bel3:=bel2.trans (hb3.mono bel2.size);have rd3:=rdP.later hb3;have hat3:=hat.later hb3;have HRD:=hid rd3;have HBE:=hid bel3;have HAT:=hid hat3;clear hg e3 hb3 q2 bel2 rdP hat rd3 bel3 hat3;generalize W2.heap.size=yb at *;by_cases hn0:lettersOf m.k m.wh=[]
  ·have hk0:k=0:=by rw[<-HN.out,HLen.out,hn0];rfl
   have f0:((k:Int)==0)=true:=by rw[hk0];rfl
   have HNo:=hid (KP h hs hn0);clear hn0 hk0;go_wp2_with fail;go_ret2;exact⟨[],none,0,false,rfl,Rd.nil _ _,HBE.out,HNo.out.symm,fun e=>by cases e⟩
  have hk0:k≠0:=fun e=>hn0 (List.eq_nil_of_length_eq_zero (by rw[<-HLen.out,HN.out,e]));have f0:((k:Int)==0)=false:=by rw[beq_eq_false_iff_ne];omega
  have hM:=Dw h hu hf hs hn0 HALL.out;have hPe:=HPM.out hn0;have hmb:=O0 h hs hn0 HALL.out;rw[<-HSM.out hM hPe,<-hPe] at hmb;have HMB:=hid hmb;have HPE:=hid hPe;clear hn0 hk0 hM hPe hmb;by_cases hlong:8388608<P.length
  ·have f1:decide ((8388608:Int)<(P.length:Int))=true:=decide_eq_true (by omega);have HNo:Hid (bZ m c=false):=hid (by rw[HMB.out,decide_eq_false (by omega),Bool.and_false]);clear hlong;go_wp2_with fail;go_ret2;exact⟨[],none,0,false,rfl,Rd.nil _ _,HBE.out,HNo.out.symm,fun e=>by cases e⟩
  have f1:decide ((8388608:Int)<(P.length:Int))=false:=decide_eq_false (by omega);have HM2:Hid (bZ m c=aG o d m c):=hid (by rw[HMB.out,decide_eq_true (by omega),Bool.and_true]);have hsame:=pJ o m d c W3 HAT.out (h.later HBE.out);unfold MV.val MV.cells at hsame;clear hlong;go_wp2_with (first | (refine wpList_load_row (ty:=59) q3o rfl rfl rfl (by kernel_rfl) (by kernel_rfl) ?_;go_simp) | (refine wpList_load_row (ty:=59) q3m rfl rfl rfl (by kernel_rfl) (by kernel_rfl) ?_;go_simp));refine hsame.mono ?_;rintro e W4 ⟨rfl,hb4⟩;have HB4:=hid (HBE.out.trans (hb4.mono HBE.out.size));have HR4:=hid (HRD.out.later hb4);obtain⟨q,hq⟩:∃q,aG o d m c=q:=⟨_,rfl⟩
  rw[hq];have HQ2:=hid (HM2.out.trans hq);clear hsame hb4 hq q3o q3m;cases q with
  | false=>
   go_wp2_with fail;go_ret2;exact⟨[],none,0,false,rfl,Rd.nil _ _,HB4.out,HQ2.out.symm,fun e=>by cases e⟩
  | true=>
   go_wp2_with fail;go_ret2;exact⟨P,ao,cap,true,rfl,HR4.out,HB4.out,HQ2.out.symm,fun _=>HPE.out⟩
end Go.Proofs.YtfmmandlmbcncaaGreatDoor.Msg
