/-
  A part of the proof.
-/
import Derived.Test.YtfmmandlmbcncaaGreatDoorKcbh
import Derived.Test.YtfmmandlmbcncaaGreatDoorKcbi
set_option maxHeartbeats 40000000
set_option maxRecDepth 100000
namespace Go.Proofs.YtfmmandlmbcncaaGreatDoor.Msg
open Go.RowKit Go.Lib Mem Tlv
def kU (l:List RP):List (List UInt8):=l.map fun p=>dN p.1 (opL p.1.op p.2)
theorem EJ (l:List RP)(k:Nat)(p:RP)(h:l[k]?=some p):kU (l.take (k+1))=kU (l.take k)++[dN p.1 (opL p.1.op p.2)]:=by
 rw[List.take_add_one,h];simp[kU]
theorem oL (l:List RP):aJ 1 (kU l)=ig l:=by simp[aJ,kU,ig,List.flatMap_map]
theorem CP {m:MV}{c:MC}{p:RP}(hp:p∈c.log)(hm:aF p.1.op p.2=false):eX 108 m c=false:=by
 have e:(c.log.any fun u=>!aF u.1.op u.2)=true:=List.any_eq_true.2 ⟨p,hp,by simp[hm]⟩;show ((!(c.log.any fun u=>!aF u.1.op u.2))&&decide (m.ln<=4096))=false;rw[e];rfl
theorem Ah {m:MV}{c:MC}(h:∀p∈c.log,aF p.1.op p.2=true):eX 108 m c=decide (m.ln<=4096):=by
 have e:(c.log.any fun u=>!aF u.1.op u.2)=false:=List.any_eq_false.2 (fun p hp=>by simp[h p hp]);show ((!(c.log.any fun u=>!aF u.1.op u.2))&&decide (m.ln<=4096))=_;rw[e];rfl
structure RlLoop (w:World)(m:MV)(c:MC)(k:Nat)(l:Value)(wr:World):Prop where
 q:wr.heap[w.heap.size]?=some m.box
 bel:Below w.heap.size w wr
 ex:∃xs:List El,wr.ownsRow (w.heap.size+1) 34 1 l k (lsV xs)/\elB xs=kU (c.log.take k)/\ElAt wr xs
 all:∀p∈c.log.take k,aF p.1.op p.2=true
theorem Eu (m:MV)(c:MC)(w:World)(h:MAt w m c)(hu:U64M m c)(hf:FitsM m c)(hn:m.ln<=1000000):Calls Tryz.prog 53 #[m.val,.int .u8 13] w (fZ 108 m c w):=by
 have lx:=h.lg.len;have LX:=hid lx;clear lx;have hb0:Below w.heap.size w (w.alloc m.box):=(Below.refl _ _).alloc (Nat.le_refl _) _;have k0:(w.alloc m.box).heap[w.heap.size]?=some m.box:=by show (w.heap.push _)[w.heap.size]?=some _;exact Array.getElem?_push_size
 unfold MV.box MV.cells at hb0 k0;unfold MV.val MV.cells;go_in;go_upto_region 1 with fail;generalize hg:w.alloc _=W0 at *;have q0:W0.heap[w.heap.size]?=some m.box:=k0;clear hg k0;have s0:RlLoop w m c 0 (.slice none 0 0) W0:=⟨q0,hb0,⟨[],World.ownsRow_nil _ _ _ _,rfl,fun x hx=>by cases hx⟩,fun p hp=>by cases hp⟩
 clear q0 hb0;go_wp2_with fail;go_loopw [8,9] (fun l p wr=>∃k:Nat,k<=m.ln/\p=.int .i64 (k:Int)/\RlLoop w m c k l wr) (fun _ p _=>m.ln-(intOf p).toNat)
 case atStart=>exact⟨0,Nat.zero_le _,rfl,s0⟩
 case round=>
  rename_i lv _ _ _;obtain⟨k,hk,rfl,s1⟩:=hrel;clear s0;obtain⟨xs,own,hel,hat⟩:=s1.ex;obtain⟨u4,k4,rfl,-⟩:=Rd.of_own own;have Hel:=hid hel;have Hall:=hid s1.all;have q:=s1.q;have bel:=s1.bel;have c23:=(McAt.of q).c23;clear hel s1;by_cases hkn:k<m.ln
  ·have hg:=(h.later bel).lg;obtain⟨b,o,hao,hlt,hc1⟩:=hg.r.some (by have:=hg.r.le;omega);obtain⟨p,hp⟩:∃p,c.log[k]?=some p:=⟨_,List.getElem?_eq_getElem (by rw[LX.out];exact hkn)⟩
   have hpm:=List.mem_of_getElem? hp;have hOp:=hg.each p hpm;have hx1:=hg.r;rw[hao] at hx1 c23;have hrg:=kZ hx1 hp;have hop:∀(j:Nat) (v:Value),p.1.op.cells[j]?=some v->wr.cell? ⟨b,o+k*9+2+j,none⟩=some v:=fun j v hv=>by
    have hj:j<7:=by
     have:=(Array.getElem?_eq_some_iff.1 hv).1;simpa [OV.cells] using this
    have:=hrg (2+j) v (by rcases (by omega:j=0\/j=1\/j=2\/j=3\/j=4\/j=5\/j=6) with rfl|rfl|rfl|rfl|rfl|rfl|rfl<;>exact hv);rw[show o+k*9+(2+j)=o+k*9+2+j by omega] at this;exact this
   have HPM:=hid hpm;have HP:=hid hp;have HA:=hid hao;have hUp:=hu.log p hpm;have i0:(0:Int)<=(k:Int):=by omega
   have i1:(k:Int)<(m.ln:Int):=by omega
   have hcap:m.ln<=m.lc:=hg.r.le;have hme:=rJ p.1.op p.2 wr hOp;unfold OV.val at hme;unfold OV.cells at hop;clear hg hx1 hc1 hpm hp hao;go_wp2_with (refine dn (ty:=36) hop rfl rfl rfl (by kernel_rfl) (by kernel_rfl) ?_;go_simp);refine hme.mono ?_;rintro e W1 ⟨rfl,hb1⟩;have q1:=ae q hb1;have bel1:=bel.trans (hb1.mono bel.size);clear hme hop c23 q;cases hm:aF p.1.op p.2 with
   | false=>
    have HN:Hid (eX 108 m c=false):=hid (CP HPM.out hm);clear hm;go_wp2_with fail;go_ret2;exact⟨[],none,0,false,rfl,Rd.nil _ _,bel1,HN.out.symm,fun e=>by cases e⟩
   | true=>
    have HM:=hid hm;have hr:=tu p.1 p.2 W1 (hOp.later hb1) hm hUp.c0 hUp.c1 hUp.n0 hUp.n1;rw[mQ hm] at hr;unfold RV.val RV.cells at hr;have c23:=(McAt.of q1).c23;rw[HA.out] at c23;have hrg1:=jk hrg hb1;unfold RV.cells at hrg1;clear hm hrg;go_wp2_with (refine dn (ty:=55) hrg1 rfl rfl rfl (by kernel_rfl) (by kernel_rfl) ?_;go_simp);refine hr.mono ?_;rintro e W2 ⟨v3,rfl,o3,hb2⟩;obtain⟨a3,k3,e3,r3⟩:=Rd.of_own o3;subst e3;have t3:=TyX.of_own o3;have q2:=ae q1 hb2;have bel2:=bel1.trans (hb2.mono bel1.size);have own2:=ag (ag own hb1) hb2;have hat2:=((hat.kpr (KeepR.of_below hb1)).kpr (KeepR.of_below hb2)).snoc (x:=⟨(1,dN p.1 (opL p.1.op p.2)),a3,k3⟩) r3 t3;have z2:w.heap.size+1<=W2.heap.size:=(Array.getElem?_eq_some_iff.1 q2).1;clear hr hrg1 c23 own hat o3 r3 t3 q1 hOp hb1 hb2;go_wp2_with (at_builtin;refine fM _ rfl (.tmp 82) (.tmp 89) 151 rfl (w.heap.size+1) 34 (.slice none 0 0) 1 24 lsT (by decide) _ k (lsV xs) rfl own2 1 [.slice a3 (dN p.1 (opL p.1.op p.2)).length k3] rfl rfl (one1 _ rfl) z2 (by omega) ?_;intro ao4 cap4 W4 o4 hg4 hb4 _);have hK:KeepR W2 W4:=(KeepR.of_below ((Below.refl _ _).alloc (Nat.le_refl _) _)).trans (oh hg4 (own2.alloc _) (fun t ht e=>by rcases ht with rfl|rfl|rfl<;>exact absurd e (by decide)));have hat4:=hat2.kpr hK;have q4:W4.heap[w.heap.size]?=some m.box:=(hb4.block _ (Nat.lt_succ_self _)).trans q2;have bel4:=bel2.trans (hb4.mono (Nat.le_succ _));have hp2:=HP.out;go_roundw
    case rel=>
     refine⟨k+1,by omega,by go_num,q4,bel4,⟨xs++[⟨(1,dN p.1 (opL p.1.op p.2)),a3,k3⟩],?_,?_,hat4⟩,fun z hz=>?_⟩
     ·rw[yz];exact o4
     ·rw[kY,EJ _ _ _ hp2,Hel.out]
     rw[List.take_add_one,hp2] at hz;rcases List.mem_append.1 hz with hz | hz
     ·exact Hall.out z hz
     obtain rfl:z=p:=by simpa using hz
     exact HM.out
    case measure=>simp[intOf];omega
  have hke:k=m.ln:=by omega
  have hfull:c.log.take k=c.log:=List.take_of_length_le (by rw[LX.out];omega);have hallE:∀p∈c.log,aF p.1.op p.2=true:=fun p hp=>Hall.out p (by rw[hfull];exact hp);have hlen:=hf.lg hallE;have htag:aJ 1 (elB xs)=ig c.log:=by rw[Hel.out,hfull,oL]
  obtain⟨a4,k4',e4,r4⟩:=Rd.of_own own;obtain⟨rfl,rfl⟩:u4=a4/\k4=k4':=by simpa using e4
  have hlst:=Ae 13 u4 _ k4 xs wr r4 (fun u hu=>(hat u hu).1) (by rw[htag];exact hlen);rw[htag] at hlst;have HE:Hid (eX 108 m c=decide (m.ln<=4096)):=hid (Ah hallE);obtain⟨Z,hZ⟩:∃Z,val 13 (ig c.log)=Z:=⟨_,rfl⟩
  rw[hZ] at hlst;have HZ:Hid (di 108 m c=Z):=hid hZ;subst hke;clear hfull hallE hlen htag hZ own hat r4 e4;go_wp2_with fail;refine hlst.mono ?_;rintro e W2 ⟨v2,rfl,o2,hb2⟩;obtain⟨a2,k2,e2,r2⟩:=Rd.of_own o2;subst e2;have bel2:=bel.trans (hb2.mono bel.size);clear hlst o2 hb2 c23 q;by_cases h4:m.ln<=4096
  ·have f1:decide ((m.ln:Int)<=4096)=true:=decide_eq_true (by omega);have HF:Hid (eX 108 m c=true):=hid (by rw[HE.out,decide_eq_true h4]);clear h4;go_wp2_with fail;go_ret2;exact⟨Z,a2,k2,true,rfl,r2,bel2,HF.out.symm,fun _=>HZ.out.symm⟩
  have f1:decide ((m.ln:Int)<=4096)=false:=decide_eq_false (by omega);have HF:Hid (eX 108 m c=false):=hid (by rw[HE.out,decide_eq_false h4]);clear h4;go_wp2_with fail;go_ret2;exact⟨Z,a2,k2,false,rfl,r2,bel2,HF.out.symm,fun e=>by cases e⟩
structure RnLoop (w:World)(m:MV)(c:MC)(k:Nat)(l:Value)(wr:World):Prop where
 q:wr.heap[w.heap.size]?=some m.box
 bel:Below w.heap.size w wr
 own:wr.ownsRow (w.heap.size+1) 5 1 l (cu (c.seen.take k)).length (byV (cu (c.seen.take k)))
theorem EM (m:MV)(c:MC)(w:World)(h:MAt w m c)(hu:U64M m c)(hn:m.hn<=322639):Calls Tryz.prog 53 #[m.val,.int .u8 16] w (fZ 101 m c w):=by
 have hmo:Tryz.prog.follows .mixedOrders=true:=by kernel_rfl
 have lx:c.seen.length=m.hn:=by have:=h.se.1;rw[gB] at this;omega
 have LX:=hid lx;clear lx;have hb0:Below w.heap.size w (w.alloc m.box):=(Below.refl _ _).alloc (Nat.le_refl _) _;have k0:(w.alloc m.box).heap[w.heap.size]?=some m.box:=by show (w.heap.push _)[w.heap.size]?=some _;exact Array.getElem?_push_size
 unfold MV.box MV.cells at hb0 k0;unfold MV.val MV.cells;go_in;go_upto_region 1 with fail;generalize hg:w.alloc _=W0 at *;have q0:W0.heap[w.heap.size]?=some m.box:=k0;clear hg k0;have s0:RnLoop w m c 0 (.slice none 0 0) W0:=⟨q0,hb0,World.ownsRow_nil _ _ _ _⟩
 clear q0 hb0;go_wp2_with fail;go_loopw [12,13] (fun l p wr=>∃k:Nat,k<=m.hn/\p=.int .i64 (k:Int)/\RnLoop w m c k l wr) (fun _ p _=>m.hn-(intOf p).toNat)
 case atStart=>exact⟨0,Nat.zero_le _,rfl,s0⟩
 case round=>
  rename_i lv _ _ _;obtain⟨k,hk,rfl,s1⟩:=hrel;clear s0;have own:=s1.own;obtain⟨u4,k4,rfl,r4⟩:=Rd.of_own own;have q:=s1.q;have bel:=s1.bel;have c26:=(McAt.of q).c26;clear s1;by_cases hkn:k<m.hn
  ·have hg:=(h.later bel).se;obtain⟨b,o,hao,hlt,hc1⟩:=hg.some (by have:=hg.le;omega);obtain⟨p,hp⟩:∃p,c.seen[k]?=some p:=⟨_,List.getElem?_eq_getElem (by rw[LX.out];exact hkn)⟩
   have hpm:=List.mem_of_getElem? hp;have hcell:=hc1 k _ (nU _ k p hp);rw[hao] at c26;have HP:=hid hp;have i0:(0:Int)<=(k:Int):=by omega
   have i1:(k:Int)<(m.hn:Int):=by omega
   have hcap:m.hn<=m.hc:=hg.le;have hnum:=iM 1 p wr (hu.seen p hpm);have hsn:cu (c.seen.take (k+1))=cu (c.seen.take k)++val 1 (aA p):=by rw[List.take_add_one,hp];exact wZ _ _
   have HS:=hid hsn;have hlen:(cu (c.seen.take k)).length<=4200000:=by rw[jB,List.length_take];omega
   have hvl:(val 1 (aA p)).length=13:=by rw[af,ah]
   clear hg hc1 hpm hp hao hsn r4;go_wp2_with fail;refine hnum.mono ?_;rintro e W2 ⟨v3,rfl,o3,hb2⟩;obtain⟨a3,k3,e3,r3⟩:=Rd.of_own o3;subst e3;have q2:=ae q hb2;have bel2:=bel.trans (hb2.mono bel.size);have own2:=ag own hb2;have z2:w.heap.size+1<=W2.heap.size:=(Array.getElem?_eq_some_iff.1 q2).1;clear hnum c26 hcell own o3 q hb2;go_wp2_with (at_builtin;refine fO _ rfl (.tmp 117) (.tmp 123) 34 rfl (w.heap.size+1) 5 (.int .u8 0) 1 1 byT _ _ (byV (cu (c.seen.take k))) rfl own2 a3 _ k3 (byV (val 1 (aA p))) rfl r3 (bK _) (by unfold maxLen;omega) (by omega) z2 ?_;intro ao4 cap4 W4 o4 hg4 hb4 _);have q4:W4.heap[w.heap.size]?=some m.box:=(hb4.block _ (Nat.lt_succ_self _)).trans q2;have bel4:=bel2.trans (hb4.mono (Nat.le_succ _));go_roundw
   case rel=>
    refine⟨k+1,by omega,by go_num,q4,bel4,?_⟩;rw[HS.out,List.length_append,dP];exact o4
   case measure=>simp[intOf];omega
  have hke:k=m.hn:=by omega
  have hfull:c.seen.take k=c.seen:=List.take_of_length_le (by rw[LX.out];omega);obtain⟨S,hS⟩:∃S,cu (c.seen.take k)=S:=⟨_,rfl⟩
  rw[hS] at r4 ⊢;have hSf:cu c.seen=S:=by rw[<-hS,hfull]
  have hlen:S.length<=4194400:=by rw[<-hSf,jB,LX.out];omega
  obtain⟨Z,hZ⟩:∃Z,val 16 S=Z:=⟨_,rfl⟩
  have HZ:Hid (di 101 m c=Z):=hid (by rw[<-hZ,<-hSf];rfl);have HE:Hid (eX 101 m c=decide ((m.hn:Int)<=7)):=hid (by show decide (m.hn<=7)=_;by_cases h7:m.hn<=7<;>simp[h7]<;>omega);clear hfull own hS hSf hke;go_upto_region 31 with fail;refine wp_region_held (S:=fun W=>W.heap[w.heap.size]?=some m.box) hmo ?_;change wpAnyH _ _ _ _ _ _ _ _ (World.drew wr);have hd:Below wr.heap.size wr wr.drew:=(Below.refl _ _).drew;have t0:=ae q hd;have hbel:=bel.trans (hd.mono bel.size);have hv:=DY 16 S u4 _ k4 wr.drew hlen (r4.later hd);rw[hZ] at hv;generalize World.drew wr=X0 at *;clear hd q c26 r4 hlen hZ;refine zHp 0 (.slice u4 S.length k4) rfl t0 ?_;go_simp;refine zHp 2 (.pointer (some ⟨w.heap.size,26,none⟩)) rfl t0 ?_;go_simp;refine zHa 3 (.slice m.ho m.hn m.hc) rfl (by rintro w2 h2;have cc:w2.cell? ⟨w.heap.size,26,none⟩=some (.slice m.ho m.hn m.hc):=(McAt.of h2).c26;go_simp) t0 ?_;go_simp;refine zHp 4 (.int .i64 (m.hn:Int)) rfl t0 ?_;go_simp;refine zHp 5 (.bool (decide ((m.hn:Int)<=7))) rfl t0 ?_;go_simp;refine zH1 1 rfl (fun K hK=>?_);go_simp;refine hv.mono ?_;rintro e X1 ⟨v2,rfl,o2,hb2⟩;obtain⟨a2,k2,e2,r2⟩:=Rd.of_own o2;subst e2;have t1:=ae t0 hb2;have hbel2:=hbel.trans (hb2.mono hbel.size);clear o2 hb2 hv;go_simp;refine hK _ _ ⟨t1,?_⟩;clear hK K;refine zHp 6 (.slice a2 Z.length k2) rfl t1 ?_;go_simp;refine zHp 7 (.bool (decide ((m.hn:Int)<=7))) rfl t1 ?_;go_simp;refine wpAnyH_done (by kernel_rfl) ?_ _;go_wp2_with fail;go_ret2;exact⟨Z,a2,k2,_,rfl,r2,hbel2,HE.out.symm,fun _=>HZ.out.symm⟩
theorem BU (t:UInt8)(b r:List UInt8)(ht:0<t.toNat)(hb:b.length<=4194304):RS.tagR ⟨val t b++r,false⟩=t:=by
 unfold RS.tagR;rw[if_neg (by
  rintro (h | h)
  ·cases h
  rw[wP t b r ht hb] at h;omega),xU t b r ht hb]
theorem ReadM.choose {s s':RS}{o:MV}{c:MC}(R:ReadM s 10 (lettersOf 10 false) 2 false o c s'):ReadM s 10 (lettersOf 10 (decide (s'.tagR=10))) 2 true o c s' where
 yes:=fun h=>by
  obtain⟨a,b,g⟩:=R.yes h;rw[zV] at b g ⊢;exact⟨a,b,g⟩
 go:=fun hb W m d r hM e=>by
  obtain⟨h1,h2,-,h4,h5⟩:=R.go hb W m d r hM e;have key:s'.tagR=10↔m.wh=true:=by
   have hs:s'=⟨s'.l,false⟩:=by rw[<-h4]
   rw[hs,h5,h1];cases hw:m.wh with
   | true=>
    have e1:aO ((lettersOf 10 true).drop 2) m d++r=val 10 (aA m.cm.toNat)++(aO [98,115,108,111,119,101] m d++r):=by
     rw[<-List.append_assoc];rfl
    rw[e1,BU _ _ _ (by decide) (by rw[ah];omega)];exact⟨fun _=>rfl,fun _=>rfl⟩
   | false=>
    have e1:aO ((lettersOf 10 false).drop 2) m d++r=val 14 (aA m.nc.toNat)++(aO [119,101] m d++r):=by
     rw[<-List.append_assoc];rfl
    rw[e1,BU _ _ _ (by decide) (by rw[ah];omega)];exact⟨fun h=>absurd h (by decide),fun h=>by cases h⟩
  have hch:decide (s'.tagR=10)=m.wh:=by
   cases hw:m.wh with
   | true=>exact decide_eq_true (key.2 hw)
   | false=>exact decide_eq_false (fun h=>by rw[key.1 h] at hw;cases hw)
  refine⟨h1,by rw[zV,h2,zV],fun _=>by rw[h1,hch],h4,h5⟩
 le:=R.le
theorem zH {s s':RS}{y:List UInt8}{o:MV}{c:MC}(T:Took (val 12) (fun z=>z.length<=4194304) (fun z=>z.length<=4194304) s y s')(hc:c.snap=y):StepX 115 s o c s' where
 yes:=fun h=>by
  obtain⟨a,b,g⟩:=T.yes h;refine⟨a,by show s.l=val 12 c.snap++s'.l;rw[hc];exact b,⟨fun e=>absurd e (by decide),fun e=>absurd e (by decide),fun e=>absurd e (by decide),fun _=>by rw[hc];exact g,fun e=>absurd e (by decide),fun e=>absurd e (by decide)⟩⟩
 go:=fun hb W m d r h1 h2 h3 e=>iU T (fun z r r' hz hg e=>(ay (by decide) hg hz e).2) hb (h3.g h1 |>.sn rfl) e
 le:=T.le
theorem xI {s s':RS}{y:Bool}{o:MV}{c:MC}(T:Took (fun b:Bool=>val 15 [if b then 1 else 0]) (fun _=>True) (fun _=>True) s y s')(ho:o.wh=y):StepX 119 s o c s' where
 yes:=fun h=>by
  obtain⟨a,b,g⟩:=T.yes h;refine⟨a,by show s.l=val 15 [if o.wh then 1 else 0]++s'.l;rw[ho];exact b,⟨fun e=>absurd e (by decide),fun e=>absurd e (by decide),fun e=>absurd e (by decide),fun e=>absurd e (by decide),fun e=>absurd e (by decide),fun e=>absurd e (by decide)⟩⟩
 go:=fun hb W m d r h1 h2 h3 e=>iU T (fun z r r' _ _ e=>(ay (by decide) (by simp) (by simp) e).2) hb trivial (z:=m.wh) e
 le:=T.le
theorem Bh {s s1:RS}{y:List UInt8}{ok:Bool}{o:MV}{c:MC}(T:Took (val 7) (fun z=>z.length<=4194304) (fun z=>z.length<=4194304) s y s1)
  (hok:ok=true->aF o.rq.op c.rq=true/\dN o.rq (opL o.rq.op c.rq)=y) (hno:ok=false->qm y):StepX 113 s o c ⟨s1.l,s1.bad||!ok⟩ where
 yes:=fun h=>by
  dsimp only at h;rw[Bool.or_eq_false_iff] at h;obtain⟨h1,h2⟩:=h;have h3:ok=true:=by simpa using h2
  obtain⟨g1,g2⟩:=hok h3;obtain⟨a,b,g⟩:=T.yes h1;exact⟨a,by show s.l=val 7 (dN o.rq (opL o.rq.op c.rq))++s1.l;rw[g2];exact b,⟨fun e=>absurd e (by decide),fun _=>g1,fun e=>absurd e (by decide),fun e=>absurd e (by decide),fun e=>absurd e (by decide),fun e=>absurd e (by decide)⟩⟩
 go:=fun hb W m d r h1 h2 h3 e=>by
  have hm:=h3.rq rfl;have hl:=iw h1.rq hm;have hz:(dN m.rq (opL m.rq.op d.rq)).length<=4194304:=by rw[iD];omega
  obtain⟨b1,b2⟩:=iU T (fun z r r' hz hg e=>(ay (by decide) hg hz e).2) hb hz e;obtain⟨-,e2,g⟩:=T.yes b1;have hy:=(ay (t:=7) (by decide) g hz (e2.symm.trans e)).1;refine⟨?_,b2⟩;cases hok2:ok with
  | true=>show (s1.bad||!true)=false;rw[b1];rfl
  | false=>exact absurd hy.symm (hno hok2 W m.rq d.rq h1.rq hm h2.rq)
 le:=T.le
theorem Ak {s s1:RS}{y:List UInt8}{ok:Bool}{o:MV}{c:MC}(T:Took (val 8) (fun z=>z.length<=4194304) (fun z=>z.length<=4194304) s y s1)
  (hok:ok=true->bz o.rs c.rs=true/\dV o.rs c.rs=y) (hno:ok=false->rZ y):StepX 114 s o c ⟨s1.l,s1.bad||!ok⟩ where
 yes:=fun h=>by
  dsimp only at h;rw[Bool.or_eq_false_iff] at h;obtain⟨h1,h2⟩:=h;have h3:ok=true:=by simpa using h2
  obtain⟨g1,g2⟩:=hok h3;obtain⟨a,b,g⟩:=T.yes h1;exact⟨a,by show s.l=val 8 (dV o.rs c.rs)++s1.l;rw[g2];exact b,⟨fun e=>absurd e (by decide),fun e=>absurd e (by decide),fun _=>⟨g1,by rw[g2];exact g⟩,fun e=>absurd e (by decide),fun e=>absurd e (by decide),fun e=>absurd e (by decide)⟩⟩
 go:=fun hb W m d r h1 h2 h3 e=>by
  obtain⟨hm,hz⟩:=h3.rs rfl;obtain⟨b1,b2⟩:=iU T (fun z r r' hz hg e=>(ay (by decide) hg hz e).2) hb hz e;obtain⟨-,e2,g⟩:=T.yes b1;have hy:=(ay (t:=8) (by decide) g hz (e2.symm.trans e)).1;refine⟨?_,b2⟩;cases hok2:ok with
  | true=>show (s1.bad||!true)=false;rw[b1];rfl
  | false=>exact absurd hy.symm (hno hok2 W m.rs d.rs h1.rs hm)
 le:=T.le
theorem Jo {s s1:RS}{L:List (List UInt8)}{ok:Bool}{o:MV}{c:MC}(T:Took (fun L=>val 13 (aJ 1 L)) (fun L=>(aJ 1 L).length<=4194304) (fun L=>(aJ 1 L).length<=4194304) s L s1)
  (hok:ok=true->(∀p∈c.log,aF p.1.op p.2=true)/\kU c.log=L) (hno:ok=false->∃y∈L,qm y):StepX 108 s o c ⟨s1.l,s1.bad||!ok⟩ where
 yes:=fun h=>by
  dsimp only at h;rw[Bool.or_eq_false_iff] at h;obtain⟨h1,h2⟩:=h;have h3:ok=true:=by simpa using h2
  obtain⟨g1,g2⟩:=hok h3;obtain⟨a,b,g⟩:=T.yes h1;have e:ig c.log=aJ 1 L:=by rw[<-g2,oL]
  exact⟨a,by show s.l=val 13 (ig c.log)++s1.l;rw[e];exact b,⟨fun e=>absurd e (by decide),fun e=>absurd e (by decide),fun e=>absurd e (by decide),fun e=>absurd e (by decide),fun _=>⟨g1,by rw[e];exact g⟩,fun e=>absurd e (by decide)⟩⟩
 go:=fun hb W m d r h1 h2 h3 e=>by
  obtain⟨hm,hz,-⟩:=h3.log rfl;have e':s.l=val 13 (aJ 1 (kU d.log))++r:=by rw[oL];exact e
  rw[<-oL] at hz;obtain⟨b1,b2⟩:=iU T (fun z r r' hz hg e=>(ay (by decide) hg hz e).2) hb hz e';obtain⟨-,e2,g⟩:=T.yes b1;have hy:=tV (by decide) g (ay (t:=13) (by decide) g hz (e2.symm.trans e')).1;refine⟨?_,b2⟩;cases hok2:ok with
  | true=>show (s1.bad||!true)=false;rw[b1];rfl
  | false=>
   obtain⟨y,hyL,hn⟩:=hno hok2;rw[hy] at hyL;obtain⟨p,hp,rfl⟩:=List.mem_map.1 hyL;exact absurd rfl (hn W p.1 p.2 (h1.lg.each p hp) (hm p hp) (h2.log p hp))
 le:=T.le
theorem step_seen {s s1:RS}{y:List UInt8}{ok:Bool}{o:MV}{c:MC}(T:Took (val 16) (fun z=>z.length<=4194304) (fun z=>z.length<=4194304) s y s1)
  (hok:ok=true->cu c.seen=y) (hno:ok=false->∀l:List Nat,(∀n∈l,n<18446744073709551616)->cu l≠y):StepX 101 s o c ⟨s1.l,s1.bad||!ok⟩ where
 yes:=fun h=>by
  dsimp only at h;rw[Bool.or_eq_false_iff] at h;obtain⟨h1,h2⟩:=h;have h3:ok=true:=by simpa using h2
  have g2:=hok h3;obtain⟨a,b,g⟩:=T.yes h1;exact⟨a,by show s.l=val 16 (cu c.seen)++s1.l;rw[g2];exact b,⟨fun e=>absurd e (by decide),fun e=>absurd e (by decide),fun e=>absurd e (by decide),fun e=>absurd e (by decide),fun e=>absurd e (by decide),fun _=>by rw[g2];exact g⟩⟩
 go:=fun hb W m d r h1 h2 h3 e=>by
  have hz:=(h3.g h1).seen rfl;obtain⟨b1,b2⟩:=iU T (fun z r r' hz hg e=>(ay (by decide) hg hz e).2) hb hz e;obtain⟨-,e2,g⟩:=T.yes b1;have hy:=(ay (t:=16) (by decide) g hz (e2.symm.trans e)).1;refine⟨?_,b2⟩;cases hok2:ok with
  | true=>show (s1.bad||!true)=false;rw[b1];rfl
  | false=>exact absurd hy.symm (hno hok2 d.seen h2.seen)
 le:=T.le
structure TookM (s:RS)(o:MV)(c:MC)(s':RS):Prop where
 yes:s'.bad=false->s.bad=false/\s.l=dO o c++s'.l/\(∀x∈lettersOf o.k o.wh,MayG x o c)/\0<=o.fr/\o.fr<7
 go:s.bad=false->∀(W:World) (m:MV) (d:MC) (r:List UInt8),MayM W m d->s.l=dO m d++r->s'.bad=false/\s'.l=r
 le:s'.l.length<=s.l.length
theorem jv {k:Int}{wh:Bool}:∀x∈lettersOf k wh,x∈dJ:=fun _ hx=>(List.mem_filter.1 hx).1
theorem DK {a b:Bool}(h:lettersOf 10 a=lettersOf 10 b):a=b:=by
 cases a<;>cases b<;>first | rfl | exact absurd h (by decide)
theorem JG (b:Bool):(119:Int)∈lettersOf 10 b:=by cases b<;>decide
theorem ReadM.done {W':World}{s s':RS}{ls:List Int}{whole:Bool}{o:MV}{c:MC}(R:ReadM s o.k ls ls.length true o c s')(hls:ls=lettersOf o.k whole)(hw:o.k≠10->whole=false/\o.wh=false)
  (hz:(102:Int)∉ls->o.fr=0) (hat:MAt W' o c) (hu:U64M o c) (hfr:0<=o.fr/\o.fr<18446744073709551616) :
  TookM s { o with fr:=o.fr % 7 } c ⟨s'.l,s'.bad||(decide (7<=o.fr)||(whole != o.wh))⟩ where
 yes:=fun h=>by
  dsimp only at h;rw[Bool.or_eq_false_iff,Bool.or_eq_false_iff] at h;obtain⟨h1,h2,h3⟩:=h;have h7:o.fr<7:=by have:=of_decide_eq_false h2;omega
  have h4:whole=o.wh:=by simpa using h3
  have e:({ o with fr:=o.fr % 7 }:MV)=o:=by rw[show o.fr % 7=o.fr by omega]
  rw[e];obtain⟨a,b,g⟩:=R.yes h1;rw[List.take_length] at b g;rw[hls,h4] at b g;refine⟨a,?_,g,hfr.1,h7⟩;unfold dO;rw[b];simp only[List.append_assoc]
 go:=fun hb W m d r hM e=>by
  obtain⟨h1,-,h3,h4,h5⟩:=R.go hb W m d r hM e;have hl:=h3 rfl;rw[hl,List.drop_length] at h5;obtain⟨-,b,g⟩:=R.yes h4;rw[List.take_length] at b g;have e2:aO ls o c++s'.l=aO ls m d++r:=by
   have h6:val 1 (aA o.k.toNat)++(aO ls o c++s'.l)=val 1 (aA o.k.toNat)++(aO ls m d++r):=by
    rw[<-b,e];unfold dO;rw[hl,h1];simp only[List.append_assoc]
   exact (ay (by decide) (by rw[ah];omega) (by rw[ah];omega) h6).2
  have hag:=(rQ hat hM.at_ hu hM.u ls _ _ (fun x hx=>jv x (hls▸hx)) g (fun x hx=>(hM.may x (hl▸hx)).g hM.at_) e2).1;have f7:o.fr<7:=by
   by_cases h:(102:Int)∈ls
   ·have h8:o.fr=m.fr:=of_decide_eq_true (hag 102 h);have:=(hM.may 102 (hl▸h)).fr rfl;omega
   rw[hz h];decide
  have hwh:whole=o.wh:=by
   by_cases h10:o.k=10
   ·have h8:o.wh=m.wh:=of_decide_eq_true (hag 119 (by rw[hls,h10];exact JG _));rw[h1,h10,hls,h10] at hl;rw[h8];exact (DK hl).symm
   obtain⟨a1,a2⟩:=hw h10;rw[a1,a2]
  refine⟨?_,by simpa [aO] using h5⟩;dsimp only;rw[h4,decide_eq_false (show ¬7<=o.fr by omega),hwh];simp
 le:=R.le
end Go.Proofs.YtfmmandlmbcncaaGreatDoor.Msg
