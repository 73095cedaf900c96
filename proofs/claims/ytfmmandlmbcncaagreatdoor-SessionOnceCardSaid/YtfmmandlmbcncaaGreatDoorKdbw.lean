/-
  A part of the proof.
-/
import Derived.Test.YtfmmandlmbcncaaGreatDoorKdbu
import Derived.Test.YtfmmandlmbcncaaGreatDoorKdbv
import Derived.Test.YtfmmandlmbcncaaGreatDoorKdbs
import Derived.Test.YtfmmandlmbcncaaGreatDoorKdbt
set_option maxHeartbeats 40000000
set_option maxRecDepth 100000
namespace Go.Proofs.YtfmmandlmbcncaaGreatDoor.Msg
open Go.RowKit Go.Lib Mem Tlv
def O7 (m:MV)(c:MC)(w:World)(e:Ending)(w':World):Prop:=∃(l:List UInt8) (ax:Option Addr) (cx:Nat) (ok:Bool),e=.returned (.tuple #[.slice ax l.length cx,.bool ok])/\Rd w' 1 ax l.length cx (byV l)/\Below w.heap.size w w'/\ok=bV m c/\(ok=true->l=dM m c)
structure RbL (w:World)(m:MV)(c:MC)(T:Option Addr)(n tc:Nat)(k:Nat)(v:Value)(wr:World):Prop where
 q:wr.heap[w.heap.size]?=some m.box
 bel:Below w.heap.size w wr
 tags:Rd wr 1 T n tc (byV (dZ m.k m.wh))
 own:wr.ownsRow (w.heap.size+1) 5 1 v (val 1 (az (IntKind.wrap .u64 m.k).toNat)++aJ ((lettersOf m.k m.wh).take k) m c).length (byV (val 1 (az (IntKind.wrap .u64 m.k).toNat)++aJ ((lettersOf m.k m.wh).take k) m c))
 ne:∀a,T=some a->0<tc->v.ownBlock≠some a.block
 all:∀x∈(lettersOf m.k m.wh).take k,lI x m c=true
theorem JE (x:Int)(hx:x∈[118,99,117,114])(m:MV)(c:MC)(w:World)(h:MAt w m c)(hu:U64M m c)(hf:FitsM m c):Calls Tryz.prog 53 #[m.val,.int .u8 ((jB x).toNat:Int)] w (pV x m c w):=by
 simp only[List.mem_cons,List.not_mem_nil,or_false] at hx;rcases hx with rfl|rfl|rfl|rfl
 ·exact Fq m c w hu
 ·exact J3 m c w hu
 ·exact Ej m c w hu
 exact FD m c w h hf
theorem Ob (m m':MV)(c c':MC)(w:World)(h:MAt w m c)(h':MAt w m' c')(hh:aG m c m' c'=true)(hl:m'.ln=0)(hn:m'.hn=0):Calls Tryz.prog 30 #[m.val,m'.val] w (aY true w):=by
 unfold aG at hh;simp only[Bool.and_eq_true,decide_eq_true_eq] at hh;obtain⟨e1,e2,e3,e4,e5,e6,h7,h8,h9,h10,h11,h12,h13,h14,h15,h16⟩:=hh;have l1:=kD h13;have l2:=h.lg.len;have l3:=h'.lg.len;have s1:=congrArg List.length h16;have s2:=h.se.1;have s3:=h'.se.1;rw[jl] at s2 s3;exact Oa m m' c c' w h h' e1 e2 e3 e4 e5 e6 h7 h8 h9 h10 h11 h12 (by omega) h14 h15 (by omega) (by omega) (by omega)
theorem Dc (m:MV)(c:MC)(w:World)(h:MAt w m c)(hu:U64M m c)(hf:FitsM m c)(hs:m.sn<=4194304)(hk2:m.k=2)(hwh:m.wh=false)(hln:m.ln=0)(hhn:m.hn=0)(hz:∀x∈dA,x∉lettersOf m.k m.wh->agree x m c (ay m.k) dI=true):Calls Tryz.prog 16 #[m.val] w (O7 m c w):=by
 have hmo:Tryz.prog.follows .mixedOrders=true:=by kernel_rfl
 have HK2:=hid hk2;have HL4:Hid (lettersOf m.k m.wh=[118,99,117,114]):=hid (by rw[hk2,hwh];rfl);have HLN:=hid hln;have HHN:=hid hhn;have HKEPT:Hid (aG m c (iQ (lettersOf m.k m.wh) m) (kH (lettersOf m.k m.wh) c)=true):=hid (by
  rw[<-zt (o:=m) (d:=c) iY rfl (fun x _=>jW x m c) hz];exact same_iff.2 ⟨rfl,fun x _=>jW x m c⟩)
 clear hk2 hwh hln hhn hz;have hb0:Below w.heap.size w (w.alloc m.box):=(Below.refl _ _).alloc (Nat.le_refl _) _;have k0:(w.alloc m.box).heap[w.heap.size]?=some m.box:=by show (w.heap.push _)[w.heap.size]?=some _;exact Array.getElem?_push_size
 unfold MV.box MV.cells at hb0 k0;unfold MV.val MV.cells;go_in;go_upto_region 1 with fail;generalize hg:w.alloc _=W0 at *;have q0:W0.heap[w.heap.size]?=some m.box:=k0;clear hg k0;have c0:=(McAt.of q0).c0;have c25:=(McAt.of q0).c25;go_wp2_with fail;refine (xH m.k m.wh W0).mono ?_;rintro e W1 ⟨T,tc,rfl,hT,hb1,hty⟩;have q1:=ag q0 hb1;have bel1:=hb0.trans (hb1.mono hb0.size);clear c0 c25 q0 hb0 hb1;have c0:=(McAt.of q1).c0;have hw:0<=IntKind.wrap .u64 m.k/\IntKind.wrap .u64 m.k<18446744073709551616:=by rw[IntKind.wrap_u64];omega
 have hnum:=qV 1 (IntKind.wrap .u64 m.k) W1 hw.1 hw.2;have hz1:w.heap.size+1<=W1.heap.size:=(Array.getElem?_eq_some_iff.1 q1).1;clear hw;go_wp2_with fail;refine hnum.mono ?_;rintro e W2 ⟨v2,rfl,o2,hb2⟩;have hTlt:=hT.lt;have s0:RbL w m c T (dZ m.k m.wh).length tc 0 v2 W2:=⟨ag q1 hb2,bel1.trans (hb2.mono bel1.size),hT.later hb2,by
  have e:val 1 (az (IntKind.wrap .u64 m.k).toNat)++aJ ((lettersOf m.k m.wh).take 0) m c=val 1 (az (IntKind.wrap .u64 m.k).toNat):=by simp[aJ]
  rw[e];exact Tlv.own_base o2 hz1,fun a ha h0 e=>by have:=(bz o2 e).1;have:=hTlt h0 a ha;omega,fun x hx=>by simp at hx⟩
 have hlen:(dZ m.k m.wh).length=(lettersOf m.k m.wh).length:=by unfold dZ;rw[List.length_map]
 have hl15:=kV m.k m.wh;have HLen:=hid hlen;have hN15:(dZ m.k m.wh).length<=15:=by omega
 obtain⟨N,hN⟩:∃N,(dZ m.k m.wh).length=N:=⟨_,rfl⟩
 rw[hN] at s0 hN15 ⊢;have HN:=hid hN;clear c0 hnum q1 bel1 o2 hb2 hT hTlt hty hlen hl15 hN hz1;go_wp2_with fail;go_loopw [5,6] (fun v p wr=>∃k:Nat,k<=N/\p=.int .i64 (k:Int)/\RbL w m c T N tc k v wr) (fun _ p _=>N-(intOf p).toNat)
 case atStart=>exact⟨0,Nat.zero_le _,rfl,s0⟩
 case round=>
  obtain⟨k,hk,rfl,s1⟩:=hrel;clear s0;by_cases hkn:k<N
  ·obtain⟨x,hx⟩:∃x,(lettersOf m.k m.wh)[k]?=some x:=⟨_,List.getElem?_eq_getElem (by rw[<-HLen.out,HN.out];exact hkn)⟩
   have hxm:=List.mem_of_getElem? hx;obtain⟨tb,to_,hT,htl,htc⟩:=s1.tags.some (by have:=s1.tags.le;omega);have htag:=htc k _ (Dl m.k m.wh k x hx);have hd:Below wr.heap.size wr wr.drew:=(Below.refl _ _).drew;have t0:wr.drew.heap[w.heap.size]?=some m.box/\wr.drew.cell? ⟨tb,to_+k,none⟩=some (.int .u8 ((jB x).toNat:Int)):=⟨ag s1.q hd,aU hd htag⟩
   have hfd:=JE x (by rw[HL4.out] at hxm;exact hxm) m c wr.drew ((h.later s1.bel).later hd) hu hf;unfold MV.val MV.cells at hfd;have HX:=hid hx;have HXM:=hid hxm;have HT:=hid hT;have HS:=hid s1;have i0:(0:Int)<=(k:Int):=by omega
   have i1:(k:Int)<(N:Int):=by omega
   have hcap:N<=tc:=s1.tags.le;rw[hT];clear hx hxm htc htag hT s1;go_upto_region 6 with fail;refine wp_region_held (S:=fun W=>W.heap[w.heap.size]?=some m.box/\W.cell? ⟨tb,to_+k,none⟩=some (.int .u8 ((jB x).toNat:Int))) hmo ?_;change wpAnyH _ _ _ _ _ _ _ _ (World.drew wr);have HD:=hid hd;generalize hX0:World.drew wr=X0 at *;have HX0:=hid hX0;clear hd hX0;refine zHa 0 (.agg #[.int .i64 m.k,.int .u64 m.vi,.int .u64 m.no,.int .i64 m.fr,.int .u64 m.cl,.int .u64 m.nu,.int .u64 m.rq.cl,.int .u64 m.rq.nu,.int .i64 m.rq.op.k,.string m.rq.op.name,.string m.rq.op.to,.slice m.rq.op.ao m.rq.op.an m.rq.op.ac,.slice m.rq.op.bo m.rq.op.bn m.rq.op.bc,.slice m.rq.op.co m.rq.op.cn m.rq.op.cc,.int .i64 m.rq.op.n,.int .i64 m.rs.code,.bool m.rs.yes,.slice m.rs.eo m.rs.en m.rs.ec,.slice m.rs.co m.rs.cn m.rs.cc,.int .u64 m.at_,.int .u64 m.cm,.int .u64 m.bs,.slice m.so m.sn m.sc,.slice m.lo m.ln m.lc,.int .u64 m.nc,.bool m.wh,.slice m.ho m.hn m.hc]) rfl (fun w2 h2=>kE (cs:=m.cells) h2.1 rfl rfl (by kernel_rfl) (by kernel_rfl)) t0 ?_;go_simp;refine zHp 1 (.slice (some ⟨tb,to_,none⟩) N tc) rfl t0 ?_;go_simp;refine zHp 2 (.int .i64 (k:Int)) rfl t0 ?_;go_simp;refine zHa 3 (.pointer (some ⟨tb,to_+k,none⟩)) rfl (by rintro w2 h2;go_simp) t0 ?_;go_simp;refine zHa 4 (.int .u8 ((jB x).toNat:Int)) rfl (by rintro w2 h2;have cc:=h2.2;go_simp) t0 ?_;go_simp;refine zH1 5 rfl (fun K hK=>?_);go_simp;refine hfd.mono ?_;rintro e X1 ⟨l,ax,cx,ok,rfl,r1,hb1,hok,hbl⟩;have t1:X1.heap[w.heap.size]?=some m.box/\X1.cell? ⟨tb,to_+k,none⟩=some (.int .u8 ((jB x).toNat:Int)):=⟨ag t0.1 hb1,aU hb1 t0.2⟩
   have HOK:=hid hok;have HBL:=hid hbl;clear hfd hok hbl;go_simp;refine hK _ _ ⟨t1,?_⟩;clear hK K;refine zHp 6 (.tuple #[.slice ax l.length cx,.bool ok]) rfl t1 ?_;go_simp;refine zHp 7 (.slice ax l.length cx) rfl t1 ?_;go_simp;refine zHp 8 (.bool ok) rfl t1 ?_;go_simp;refine zHp 9 (.slice ax l.length cx) rfl t1 ?_;go_simp;refine zHp 10 (.bool ok) rfl t1 ?_;go_simp;refine wpAnyH_done (by kernel_rfl) ?_ _;have hs1:=HS.out;have bX:Below wr.heap.size wr X1:=HD.out.trans (hb1.mono HD.out.size);have bel1:=hs1.bel.trans (bX.mono hs1.bel.size);cases ok with
   | false=>
    have HNo:=hid (O8 h hs HXM.out HOK.out.symm);go_wp2_with fail;go_ret2;exact⟨[],none,0,false,rfl,Rd.nil _ _,bel1,HNo.out.symm,fun e=>by cases e⟩
   | true=>
    have hfl:=HBL.out (by first | rfl | trivial);have hl9:l.length<=4194309:=by rw[hfl];exact zh h (ve hf hs HOK.out.symm)
    have hsn:aJ ((lettersOf m.k m.wh).take (k+1)) m c=aJ ((lettersOf m.k m.wh).take k) m c++l:=by rw[List.take_add_one,HX.out,hfl];exact og _ _ _ _
    have hpl:(val 1 (az (IntKind.wrap .u64 m.k).toNat)++aJ ((lettersOf m.k m.wh).take k) m c).length<=100000000:=by
     have h1:=lG h ((lettersOf m.k m.wh).take k) (fun y hy=>ve hf hs (hs1.all y hy));have h2:((lettersOf m.k m.wh).take k).length<=15:=Nat.le_trans (List.length_take_le _ _) (by omega);have h3:=Nat.mul_le_mul_right 4194309 h2;rw[List.length_append,ae,ah];omega
    obtain⟨P,hP⟩:∃P,val 1 (az (IntKind.wrap .u64 m.k).toNat)++aJ ((lettersOf m.k m.wh).take k) m c=P:=⟨_,rfl⟩
    have own1:=aF hs1.own bX;rw[hP] at own1 hpl;have HP:=hid hP;have HSN:=hid hsn;have z1:w.heap.size+1<=X1.heap.size:=(Array.getElem?_eq_some_iff.1 t1.1).1;have htg:=hs1.tags.later bX;have hne:=hs1.ne;have hall:=hs1.all;clear hfl hsn hP hs1 HS;go_wp2_with (at_builtin;refine pJ _ rfl (.tmp 37) (.tmp 38) 34 rfl (w.heap.size+1) 5 (.int .u8 0) 1 1 byT _ _ (byV P) rfl own1 ax _ cx (byV l) rfl r1 (eP _) (by unfold maxLen;omega) (by omega) z1 ?_;intro ao4 cap4 X4 o4 hg4 hb4 hnn);have q4:X4.heap[w.heap.size]?=some m.box:=(hb4.block _ (Nat.lt_succ_self _)).trans t1.1;have bel4:=bel1.trans (hb4.mono (Nat.le_succ _));have tg4:Rd X4 1 T N tc (byV (dZ m.k m.wh)):=zH htg hg4 (fun h0 a ha e=>hne a ha h0 e.symm);have ne4:∀a,T=some a->0<tc->(Value.slice ao4 (P.length+l.length) cap4).ownBlock≠some a.block:=fun a ha h0 e=>by
     rcases hnn _ e with h1 | h1
     ·exact hne a ha h0 h1
     have:=htg.lt h0 a ha;omega
    have hx2:=HX.out;go_roundw
    case rel=>
     refine⟨k+1,by omega,by go_num,⟨q4,bel4,HT.out▸tg4,?_,HT.out▸ne4,fun z hz=>?_⟩⟩
     ·rw[HSN.out,<-List.append_assoc,HP.out,List.length_append,iy];exact o4
     rw[List.take_add_one,hx2] at hz;rcases List.mem_append.1 hz with hz | hz
     ·exact hall z hz
     obtain rfl:z=x:=by simpa using hz
     exact HOK.out.symm
    case measure=>simp[intOf];omega
  have hkN:k=N:=by omega
  subst hkN;have hs1:=s1;have hfull:(lettersOf m.k m.wh).take k=lettersOf m.k m.wh:=List.take_of_length_le (by have:=HLen.out;have:=HN.out;omega);have own:=hs1.own;have hall:=hs1.all;have hbel:=hs1.bel;have hq:=hs1.q;rw[hfull] at own hall;have hpl:(val 1 (az (IntKind.wrap .u64 m.k).toNat)++aJ (lettersOf m.k m.wh) m c).length<=100000000:=by
   have h1:=lG h (lettersOf m.k m.wh) (fun y hy=>ve hf hs (hall y hy));have h2:(lettersOf m.k m.wh).length<=15:=by have:=HLen.out;have:=HN.out;omega
   have h3:=Nat.mul_le_mul_right 4194309 h2;rw[List.length_append,ae,ah];omega
  have hPm:lettersOf m.k m.wh≠[]->val 1 (az (IntKind.wrap .u64 m.k).toNat)++aJ (lettersOf m.k m.wh) m c=dM m c:=fun hne=>by
   have hk1:1<=m.k/\m.k<=12:=by
    rcases kinds m.k m.wh with h0 | h0
    ·exact absurd h0 hne
    omega
   have e:IntKind.wrap .u64 m.k=m.k:=by rw[IntKind.wrap_u64];omega
   rw[e];rfl
  obtain⟨P,hP⟩:∃P,val 1 (az (IntKind.wrap .u64 m.k).toNat)++aJ (lettersOf m.k m.wh) m c=P:=⟨_,rfl⟩
  have hP2:P=val 1 (az 2)++aJ (lettersOf m.k m.wh) m c:=by rw[<-hP,HK2.out];rfl
  rw[hP] at own hpl hPm;have HPM:=hid hPm;have HALL:=hid hall;obtain⟨ao,cap,rfl,hrd⟩:=Rd.of_own own;have hR:=wP (B:=wr.heap.size) hrd (Nat.le_refl _) (fun h0 a ha=>.inl (hrd.lt h0 a ha));have hbR:Below wr.heap.size wr (wr.alloc (.cells #[.slice ao P.length cap,.bool false] 119)):=(Below.refl _ _).alloc (Nat.le_refl _) _;have hzR:wr.heap.size<=(wr.alloc (.cells #[.slice ao P.length cap,.bool false] 119)).heap.size:=hbR.size;have htk:=O1 wr.heap.size wr.heap.size ⟨P,false⟩ _ hR hzR hpl rfl _ hP2;have HF0:=hid hfull;have HGR:=hid hrd;have HQ:=hid hq;have HBL:=hid hbel;clear hs1 s1 hfull hall hP own hR hzR hPm hrd hq hbel hP2;go_wp2_with fail;refine htk.mono ?_;rintro e W2 ⟨s',-,hXf,hans⟩;have hB2:Below wr.heap.size wr W2:=hbR.trans (qQ hXf hbR.size (fun j hj=>by rw[List.mem_singleton.1 hj];exact Nat.le_refl _));have q2:=ag HQ.out hB2;have bel2:=HBL.out.trans (hB2.mono HBL.out.size);have rdP:=HGR.out.later hB2;obtain⟨o,d,ok,rfl,hat,hsm⟩:∃(o:MV) (d:MC) (ok:Bool),e=.returned (.tuple #[o.val,.bool ok])/\MAt W2 o d/\(MayM w m c->P=dM m c->aG o d m c=aG m c (iQ (lettersOf m.k m.wh) m) (kH (lettersOf m.k m.wh) c)):=by
   rcases hans with ⟨o,d,rfl,a1,a2,-,a4,a5,a6,-⟩ | ⟨rfl,-,hno⟩
   ·exact⟨o,d,true,rfl,a1,fun hM e=>Ih (by rw[<-e];exact a6) hM a1 a2 a4 a5⟩
   exact⟨ay 0,dI,false,rfl,jh _ _,fun hM e=>absurd (by rw[List.append_nil];exact e) (hno w m c [] rfl hM)⟩
  have HSM:=hid hsm;clear htk hbR hXf hans hB2 hsm;unfold MV.val MV.cells;go_upto_region 11 with (refine zNr rfl ?_;go_simp);generalize hg:W2.alloc _=W3;have e3:W2.alloc o.box=W3:=hg;have hb3:Below W2.heap.size W2 W3:=by rw[<-e3];exact (Below.refl _ _).alloc (Nat.le_refl _) _
  have q3o:W3.heap[W2.heap.size]?=some o.box:=by rw[<-e3];exact at_new _ _
  have q3m:=ag q2 hb3;have bel3:=bel2.trans (hb3.mono bel2.size);have rd3:=rdP.later hb3;have hat3:=hat.later hb3;have HRD:=hid rd3;have HBE:=hid bel3;have HAT:=hid hat3;clear hg e3 hb3 q2 bel2 rdP hat rd3 bel3 hat3;generalize W2.heap.size=yb at *;have hn0:lettersOf m.k m.wh≠[]:=by rw[HL4.out];decide
  have hk0:k≠0:=fun e=>hn0 (List.eq_nil_of_length_eq_zero (by rw[<-HLen.out,HN.out,e]));have f0:((k:Int)==0)=false:=by rw[beq_eq_false_iff_ne];omega
  have hM:=Dz h hu hf hs hn0 HALL.out;have hPe:=HPM.out hn0;have hmb:=Ie h hs hn0 HALL.out;have HSS:Hid (aG o d m c=true):=hid ((HSM.out hM hPe).trans HKEPT.out);rw[<-HSM.out hM hPe,<-hPe] at hmb;have HMB:=hid hmb;have HPE:=hid hPe;clear hn0 hk0 hM hPe hmb;by_cases hlong:8388608<P.length
  ·have f1:decide ((8388608:Int)<(P.length:Int))=true:=decide_eq_true (by omega);have HNo:Hid (bV m c=false):=hid (by rw[HMB.out,decide_eq_false (by omega),Bool.and_false]);clear hlong;go_wp2_with fail;go_ret2;exact⟨[],none,0,false,rfl,Rd.nil _ _,HBE.out,HNo.out.symm,fun e=>by cases e⟩
  have f1:decide ((8388608:Int)<(P.length:Int))=false:=decide_eq_false (by omega);have HM2:Hid (bV m c=aG o d m c):=hid (by rw[HMB.out,decide_eq_true (by omega),Bool.and_true]);have hsame:=Ob o m d c W3 HAT.out (h.later HBE.out) HSS.out HLN.out HHN.out;unfold MV.val MV.cells at hsame;clear hlong;go_wp2_with (first | (refine wpList_load_row (ty:=59) q3o rfl rfl rfl (by kernel_rfl) (by kernel_rfl) ?_;go_simp) | (refine wpList_load_row (ty:=59) q3m rfl rfl rfl (by kernel_rfl) (by kernel_rfl) ?_;go_simp));refine hsame.mono ?_;rintro e W4 ⟨rfl,hb4⟩;have HB4:=hid (HBE.out.trans (hb4.mono HBE.out.size));have HR4:=hid (HRD.out.later hb4);have hq:=HSS.out;have HQ2:=hid (HM2.out.trans hq);clear hsame hb4 hq q3o q3m;go_wp2_with fail;go_ret2;exact⟨P,ao,cap,true,rfl,HR4.out,HB4.out,HQ2.out.symm,fun _=>HPE.out⟩
def uA (may:Bool)(p:PS):PS:=if may=true/\p.un=false then ⟨p.num+1,p.vi,p.la,p.dr,true,p.told⟩ else p
def rpM (y:AcV):MV:=⟨2,y.vi,0,0,y.cl,y.nu,⟨0,0,⟨0,⟨#[]⟩,⟨#[]⟩,none,0,0,none,0,0,none,0,0,0⟩⟩,y.rs,0,0,0,none,0,0,none,0,0,0,false,none,0,0⟩
def rpC (c:AcC):MC:=⟨⟨[],[],[]⟩,c.rs,[],[],[]⟩
def iO (d:List UInt8->Option (Int×Int×Int×Int))(cl:Int)(q:XP)(p:PS):PS×Bool:=
 if q.1.k=1 then (uA (aB q.1.op q.2.op) p,false)
 else if q.1.k=2 then lD d cl q.2.by_ p
 else if q.1.k=4/\bV (rpM q.1) (rpC q.2)=true then lD d cl (dM (rpM q.1) (rpC q.2)) p
 else (p,false)
def jM (d:List UInt8->Option (Int×Int×Int×Int))(cl:Int)(l:List XP)(p:PS):PS:=l.foldl (fun p q=>(iO d cl q p).1) p
theorem Ja (d:List UInt8->Option (Int×Int×Int×Int))(cl:Int)(l:List XP)(p:PS)(k:Nat)(q:XP)(h:l[k]?=some q):jM d cl (l.take (k+1)) p=(iO d cl q (jM d cl (l.take k) p)).1:=by
 obtain⟨hl,e⟩:=List.getElem?_eq_some_iff.1 h;unfold jM;rw[List.take_succ_eq_append_getElem hl,e,List.foldl_append];rfl
structure Step (K:Int)(p:PS)(r:PS×Bool):Prop where
 ok:r.1.Ok (K+1)
 up:r.2=true->p.la<r.1.la
 st:r.2=false->r.1.la=p.la
theorem PS.Ok.up {K:Int}{p:PS}(h:p.Ok K):p.Ok (K+1):=⟨⟨h.num.1,by have:=h.num.2;omega⟩,h.vi,h.la,⟨h.dr.1,by have:=h.dr.2;omega⟩,h.un,h.le,h.to0⟩
theorem KJ {K:Int}{p:PS}(h:p.Ok K)(may:Bool):Step K p (uA may p,false):=by
 unfold uA;split
 ·refine⟨⟨⟨?_,?_⟩,h.vi,h.la,⟨h.dr.1,?_⟩,fun _=>?_,?_,h.to0⟩,fun e=>(by cases e),fun _=>rfl⟩
  all_goals (have:=h.num;have:=h.dr;have:=h.le;dsimp only;omega)
 exact⟨h.up,fun e=>(by cases e),fun _=>rfl⟩
theorem BV {d:List UInt8->Option (Int×Int×Int×Int)}(hd:yM d){K:Int}{p:PS}(h:p.Ok K)(cl:Int)(b:List UInt8):Step K p (lD d cl b p):=by
 have hn:=h.num;have hr:=h.dr;have hl:=h.le;have hv:=h.vi;have drop:Step K p (⟨p.num,p.vi,p.la,p.dr+1,p.un,p.told⟩,false):=⟨⟨⟨hn.1,by dsimp only;omega⟩,hv,h.la,⟨by dsimp only;omega,by dsimp only;omega⟩,h.un,hl,h.to0⟩,fun e=>(by cases e),fun _=>rfl⟩
 unfold lD;cases hb:d b with
 | none=>exact drop
 | some x=>
  obtain⟨k,v,c,n⟩:=x;have hx:=(hd b).2.2 _ hb;dsimp only at hx ⊢;have hm:0<=max p.vi v/\max p.vi v<18446744073709551616:=by omega
  split
  ·split
   ·rename_i hu;have:=h.un hu.1;have hh:=hu.2;refine⟨⟨⟨hn.1,by dsimp only;omega⟩,hm,?_,⟨hr.1,by dsimp only;omega⟩,fun e=>(by cases e),?_,fun e=>(by cases e)⟩,fun _=>?_,fun e=>(by cases e)⟩
    all_goals (have:=h.la;dsimp only;omega)
   exact⟨⟨⟨hn.1,by dsimp only;omega⟩,hm,h.la,⟨hr.1,by dsimp only;omega⟩,h.un,hl,h.to0⟩,fun e=>(by cases e),fun _=>rfl⟩
  exact drop
theorem AQ {d:List UInt8->Option (Int×Int×Int×Int)}(hd:yM d){K:Int}{p:PS}(h:p.Ok K)(cl:Int)(q:XP):Step K p (iO d cl q p):=by
 unfold iO;split
 ·exact KJ h _
 split
 ·exact BV hd h cl _
 split
 ·exact BV hd h cl _
 exact⟨h.up,fun e=>(by cases e),fun _=>rfl⟩
theorem BJ {d:List UInt8->Option (Int×Int×Int×Int)}(hd:yM d)(cl:Int):∀(l:List XP) {K:Int} {p:PS},p.Ok K->(jM d cl l p).Ok (K+l.length)/\p.la<=(jM d cl l p).la
 | [],K,p,h=>⟨by simpa [jM] using h,Int.le_refl _⟩
 | q::l,K,p,h=>by
  have s:=AQ hd h cl q;obtain⟨h1,h2⟩:=BJ hd cl l s.ok;have e:jM d cl (q::l) p=jM d cl l (iO d cl q p).1:=rfl;rw[e];have hh:K+1+(l.length:Int)=K+((l.length+1:Nat):Int):=by omega
  rw[hh] at h1;refine⟨by rw[List.length_cons];exact h1,?_⟩
  cases hb:(iO d cl q p).2 with
  | true=>have:=s.up hb;omega
  | false=>have:=s.st hb;omega
theorem JL (B sb:Nat)(cl:Int)(p:PS)(K:Int)(uo to_:Option Addr)(v:OV)(c:OC)(w:World)(hS:SAt w B sb cl p uo to_)(hp:p.Ok K)(hK:K<=1000)(hc0:0<=cl)(hc1:cl<18446744073709551616)(ho:OpAt w v c) :
  Calls Tryz.prog 11 #[.pointer (some ⟨sb,0,none⟩),v.val] w fun e w'=>(∃a b x,e=.returned (.tuple #[a,b,x]))/\(∃uo' to',SAt w' B sb cl (uA (aB v c) p) uo' to')/\Oth B sb w w':=by
 have hlt:=(Array.getElem?_eq_some_iff.1 hS.box).1;have hle:=hS.le;cases hm:aB v c with
 | false=>
  refine (Ny v c (SV.mk cl 5 p.num uo p.vi p.la to_ p.dr) sb w hS.box ho (show (0:Int)<5 by decide) hm).mono ?_;rintro e w' ⟨rfl,hb⟩;exact⟨⟨_,_,_,rfl⟩,⟨uo,to_,by unfold uA;rw[if_neg (by rintro⟨h,-⟩;cases h)];exact hS.later hb⟩,(Oth.refl B sb w).later (by omega) hb⟩
 | true=>
  cases hu:p.un with
  | true=>
   obtain⟨rb,u,cc,rfl,-⟩:=hS.un1 hu;refine (zy v c (SV.mk cl 5 p.num (some ⟨rb,0,none⟩) p.vi p.la to_ p.dr) sb ⟨rb,0,none⟩ w hS.box ho (show (0:Int)<5 by decide) hm rfl).mono ?_;rintro e w' ⟨rfl,hb⟩;exact⟨⟨_,_,_,rfl⟩,⟨_,to_,by unfold uA;rw[if_neg (by rw[hu];rintro⟨-,h⟩;cases h)];exact hS.later hb⟩,(Oth.refl B sb w).later (by omega) hb⟩
  | false=>
   obtain rfl:=hS.un0 hu;refine (J6 B sb (SV.mk cl 5 p.num none p.vi p.la to_ p.dr) v c w hS.box hle ho hm rfl (show (0:Int)<5 by decide) (show (5:Int)<=7 by decide) hc0 hc1 hp.num.1 (by have:=hp.num.2;show p.num<4611686018427387904;omega) hp.vi.1 hp.vi.2).mono ?_;rintro e w' ⟨rb,u,l,ov,rfl,-,h1,h2,h3,h4,-,h6,-⟩;refine⟨⟨_,_,_,rfl⟩,⟨some ⟨rb,0,none⟩,to_,?_⟩,h6⟩;unfold uA;rw[if_pos ⟨rfl,hu⟩];exact⟨h1,hle,fun _=>⟨rb,u,c,rfl,h2,h4,by rw[(qK h3).1];exact hm⟩,fun e=>(by cases e),(hS.held hS.box h6).2,hS.to0⟩
theorem PZ {W:World}{q:XP}(h:ActAt W q)(hs:jK q.1=true):MAt W (rpM q.1) (rpC q.2)/\U64M (rpM q.1) (rpC q.2)/\FitsM (rpM q.1) (rpC q.2)/\OpAt W q.1.op q.2.op/\q.1.bn<=3000:=by
 unfold jK at hs;simp only[Bool.not_eq_true',Bool.or_eq_false_iff,decide_eq_false_iff_not] at hs;have z:(0:Int)<=0/\(0:Int)<18446744073709551616:=by decide
 have hl:=h.e.len;have hc:=h.q.1;rw[aS] at hc;refine⟨⟨(jh W 2).rq,⟨h.e,h.q,by show q.1.rs.cn<=1000000000;omega⟩,Rd.nil _ _,(jh W 2).lg,Rd.nil _ _,Nat.zero_le _,Nat.zero_le _⟩,
  ⟨h.vi,z,h.cl,h.nu,z,z,z,z,⟨z.1,z.2,z.1,z.2⟩,fun _ hp=>(by cases hp),fun _ hp=>(by cases hp)⟩,
  ⟨I4 (by show q.2.rs.ents.length<=40;omega),fun hm=>?_,fun _=>Nat.zero_le _⟩,⟨h.a,h.b,h.c,by omega,by omega,by omega⟩,by omega⟩
 show (dG q.1.rs q.2.rs).length<=4194304;have hm':bf q.1.rs q.2.rs=true:=hm;have hb:(dm q.2.rs.ents).length<=1017650:=by
  unfold bf at hm';by_cases h0:q.1.rs.code=0
  ·rw[if_pos h0] at hm';simp only[Bool.and_eq_true,Bool.not_eq_true',Bool.or_eq_false_iff,decide_eq_false_iff_not] at hm';have h1:=wJ q.2.rs.ents (fun p hp=>by simpa using List.any_eq_false.1 hm'.1.1.2 p hp);have h2:q.2.rs.ents.length<=10:=by omega
   have h3:=Nat.mul_le_mul_right 101765 h2;omega
  rw[if_neg h0] at hm';simp only[Bool.and_eq_true] at hm';have h1:=hm'.2;unfold aN at h1;simp only[Bool.and_eq_true] at h1;have h2:=h1.2.2.1;cases he:q.2.rs.ents with
  | nil=>decide
  | cons a l=>rw[he] at h2;cases h2
 rw[lT];omega
theorem ActAt.later {W W':World}{q:XP}(h:ActAt W q)(hb:Below W.heap.size W W'):ActAt W' q:=⟨h.a.later hb,h.b.later hb,h.c.later hb,h.y.later hb,h.e.later hb,h.q.later hb,h.vi,h.cl,h.nu⟩
end Go.Proofs.YtfmmandlmbcncaaGreatDoor.Msg
