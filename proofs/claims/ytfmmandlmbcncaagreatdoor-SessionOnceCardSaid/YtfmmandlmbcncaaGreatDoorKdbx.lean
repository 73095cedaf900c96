/-
  A part of the proof.
-/
import Derived.Test.YtfmmandlmbcncaaGreatDoorKdbw
set_option maxHeartbeats 40000000
set_option maxRecDepth 100000
namespace Go.Proofs.YtfmmandlmbcncaaGreatDoor.Msg
open Go.RowKit Go.Lib Mem Tlv
def RowA (y:AcV)(b o:Nat)(W:World):Prop:=W.cell? ⟨b,o,none⟩=some (.int .i64 y.k)/\W.cell? ⟨b,o+1,none⟩=some (.int .i64 y.op.k)/\W.cell? ⟨b,o+2,none⟩=some (.string y.op.name)/\W.cell? ⟨b,o+3,none⟩=some (.string y.op.to)/\W.cell? ⟨b,o+4,none⟩=some (.slice y.op.ao y.op.an y.op.ac)/\W.cell? ⟨b,o+5,none⟩=some (.slice y.op.bo y.op.bn y.op.bc)/\W.cell? ⟨b,o+6,none⟩=some (.slice y.op.co y.op.cn y.op.cc)/\W.cell? ⟨b,o+7,none⟩=some (.int .i64 y.op.n)/\W.cell? ⟨b,o+8,none⟩=some (.slice y.bo y.bn y.bc)/\W.cell? ⟨b,o+9,none⟩=some (.int .u64 y.vi)/\W.cell? ⟨b,o+10,none⟩=some (.int .u64 y.cl)/\W.cell? ⟨b,o+11,none⟩=some (.int .u64 y.nu)/\W.cell? ⟨b,o+12,none⟩=some (.int .i64 y.rs.code)/\W.cell? ⟨b,o+13,none⟩=some (.bool y.rs.yes)/\W.cell? ⟨b,o+14,none⟩=some (.slice y.rs.eo y.rs.en y.rs.ec)/\W.cell? ⟨b,o+15,none⟩=some (.slice y.rs.co y.rs.cn y.rs.cc)
theorem RowA.later {y:AcV}{b o:Nat}{W W':World}(h:RowA y b o W)(hb:Below W.heap.size W W'):RowA y b o W':=by
 obtain⟨x0,x1,x2,x3,x4,x5,x6,x7,x8,x9,x10,x11,x12,x13,x14,x15⟩:=h;exact⟨aU hb x0,aU hb x1,aU hb x2,aU hb x3,aU hb x4,aU hb x5,aU hb x6,aU hb x7,aU hb x8,aU hb x9,aU hb x10,aU hb x11,aU hb x12,aU hb x13,aU hb x14,aU hb x15⟩
theorem OA {y:AcV}{c:AcC}:∀x∈dA,x∉lettersOf (rpM y).k (rpM y).wh->agree x (rpM y) (rpC c) (ay (rpM y).k) dI=true:=by
 intro x hx hn;have e:lettersOf (rpM y).k (rpM y).wh=[118,99,117,114]:=show lettersOf 2 false=_ from rfl
 rw[e] at hn;simp only[dA,List.mem_cons,List.not_mem_nil,or_false] at hx hn;rcases hx with rfl|rfl|rfl|rfl|rfl|rfl|rfl|rfl|rfl|rfl|rfl|rfl|rfl|rfl|rfl
 all_goals first | exact (hn (by decide)).elim | rfl
def Qm (d:List UInt8->Option (Int×Int×Int×Int))(cl:Int)(B sb:Nat)(q:XP)(P:PS)(wr:World)(v:Value)(wk:World):Prop:=
 ∃uo to_:Option Addr,v=.bool (iO d cl q P).2/\SAt wk B sb cl (iO d cl q P).1 uo to_/\Oth B sb wr wk
def jg (d:List UInt8->Option (Int×Int×Int×Int))(cl:Int)(B sb:Nat)(l:List XP)(p:PS)(w:World)(e:Ending)(w':World):Prop:=
 ∃(many:Nat) (uo to_:Option Addr),e=.returned (.tuple #[.int .u64 (jM d cl l p).la,.int .i64 (many:Int)])/\SAt w' B sb cl (jM d cl l p) uo to_/\Oth B sb w w'
theorem run_any (d:List UInt8->Option (Int×Int×Int×Int))(hd:yM d)(w0:World)(ao:Option Addr)(n cap:Nat)(l:List XP)(hA:ActsRd w0 ao n cap l)(hsm:∀q∈l,jK q.1=true)(hE:ErrG w0)(sb:Nat)(cl:Int)(p:PS)(K:Int)(uo to_:Option Addr)(w:World)
  (hS:SAt w w0.heap.size sb cl p uo to_) (hp:p.Ok K) (hK:K+(n:Int)<=900) (hc0:0<=cl) (hc1:cl<18446744073709551616) (hb:Below w0.heap.size w0 w) :
  Calls Tryz.prog 41 #[.pointer (some ⟨sb,0,none⟩),.slice ao n cap] w (jg d cl w0.heap.size sb l p w):=by
 have hmo:Tryz.prog.follows .mixedOrders=true:=by kernel_rfl
 have LA:=hid hA.len;have hcap:n<=9223372036854775807:=by have:=hp.num;omega
 have hl:=last_any w0.heap.size sb cl p K uo to_ w hS hp;have HLE:=hid (And.intro hS.le (Array.getElem?_eq_some_iff.1 hS.box).1);go_in;go_wp2_with fail;refine hl.mono ?_;rintro e W1 ⟨q1,rfl,hb1⟩;unfold QV.val QV.cells;go_upto_region 2 with (refine zNr rfl ?_;go_simp);generalize hg:W1.alloc _=W2;have hb2:Below W1.heap.size W1 W2:=by rw[<-hg];exact (Below.refl _ _).alloc (Nat.le_refl _) _
 have S2:=(hS.later hb1).later hb2;have o2:Oth w0.heap.size sb w W2:=(Oth.refl w0.heap.size sb w).later (by have:=HLE.out;omega) (hb1.trans (hb2.mono hb1.size));have HC:=hid (And.intro hc0 (And.intro hc1 hK));clear hl hg hb1 hb2 hS hc0 hc1 hK;go_wp2_with fail;go_loopw [6,9,10] (fun v6 v9 v10 wr=>∃(k many:Nat) (uo' to':Option Addr),k<=n/\many<=k/\v6=.int .u64 (jM d cl (l.take k) p).la/\v9=.int .i64 (many:Int)/\v10=.int .i64 (k:Int)/\SAt wr w0.heap.size sb cl (jM d cl (l.take k) p) uo' to'/\(jM d cl (l.take k) p).Ok (K+k)/\Oth w0.heap.size sb w wr) (fun _ _ v10 _=>n-(intOf v10).toNat)
 case atStart=>exact⟨0,0,uo,to_,Nat.zero_le _,Nat.zero_le _,rfl,rfl,rfl,S2,(by rw[List.take_zero];show p.Ok (K+((0:Nat):Int));simpa using hp),o2⟩
 case round=>
  clear S2 o2;obtain⟨k,many,uo',to',hk,hmk,rfl,rfl,rfl,hSr,hpr,hor⟩:=hrel;obtain⟨P,hP⟩:∃P,jM d cl (l.take k) p=P:=⟨_,rfl⟩
  rw[hP] at hSr hpr;have HP:=hid hP;rw[hP];clear hP;by_cases hkn:k<n
  ·obtain⟨b1,o1,rfl,hl1,hc1⟩:=hA.rd.some (by have:=hA.rd.le;omega);obtain⟨q,hu⟩:∃q,l[k]?=some q:=⟨_,List.getElem?_eq_getElem (by rw[LA.out];exact hkn)⟩
   obtain⟨y,hy⟩:∃y,y=q.1:=⟨_,rfl⟩
   have hbr:=hb.trans hor.bel;have hqm:=List.mem_of_getElem? hu;have R0:RowA y b1 (o1+k*16) wr:=AY l k q hu (W:=wr) (b:=b1) (o:=o1) (fun j x hj=>(hbr.cell (p:=⟨b1,o1+j,none⟩) hl1).trans (hc1 j x hj)) y hy;have hQ:=(hA.each q hqm).later hbr;obtain⟨mat,mu64,mfit,hop,hbn⟩:=PZ hQ (hsm q hqm);have hby:=hQ.y;rw[<-hy] at mat mu64 mfit hop hbn hby;have HNX:=hid (Ja d cl l p k q hu);have HST:=hid (AQ hd hpr cl q);have HER:=hid (hE.below hbr);have HPR:=hid hpr;have HOR:=hid hor;have HSR:=hid hSr;have HM:=hid (And.intro mat (And.intro mu64 (And.intro mfit (And.intro hop (And.intro hbn hby)))));have HY:=hid hy;have hK9:K+(k:Int)<=1000:=by have:=HC.out;omega
   have i0:(0:Int)<=(k:Int):=by omega
   have i1:(k:Int)<(n:Int):=by omega
   have HR0:=hid R0;obtain⟨x0,-⟩:=R0;clear hl1 hc1 hu hy hbr hqm hQ hpr hor hSr mat mu64 mfit hop hbn hby
   go_upto_block 2 with fail
   go_cut [11] from 23 to 117 (fun v wk=>Qm d cl w0.heap.size sb q P wr v wk)
   case first=>
    clear x0;by_cases k1:y.k=1
    ·have f1:(y.k==1)=true:=by rw[k1];rfl
     have HACT:Hid (iO d cl q P=(uA (aB y.op q.2.op) P,false)):=hid (by unfold iO;rw[<-HY.out,if_pos k1]);have hc:=JL w0.heap.size sb cl P (K+k) uo' to' y.op q.2.op wr HSR.out HPR.out hK9 HC.out.1 HC.out.2.1 HM.out.2.2.2.1;unfold OV.val at hc;obtain⟨-,x1,x2,x3,x4,x5,x6,x7,-⟩:=HR0.out;clear k1;go_wp2_with fail;refine hc.mono ?_;rintro e w1 ⟨⟨_,_,_,rfl⟩,⟨u2,t2,hS2⟩,ho2⟩;clear hc x1 x2 x3 x4 x5 x6 x7;go_wp2_with fail;go_meet
     case rel=>exact⟨u2,t2,by rw[HACT.out],by rw[HACT.out];exact hS2,ho2⟩
    have f1:(y.k==1)=false:=by rw[beq_eq_false_iff_ne];exact k1
    by_cases k2:y.k=2
    ·have f2:(y.k==2)=true:=by rw[k2];rfl
     have HACT:Hid (iO d cl q P=lD d cl q.2.by_ P):=hid (by unfold iO;rw[<-HY.out,if_neg k1,if_pos k2]);have hc:=take_any d hd w0.heap.size sb cl P (K+k) uo' to' q.2.by_ y.bo y.bn y.bc wr HSR.out HPR.out hK9 HM.out.2.2.2.2.2 (by have:=HM.out.2.2.2.2.1;omega) HER.out;obtain⟨-,-,-,-,-,-,-,-,x8,-⟩:=HR0.out;clear k1 k2;go_wp2_with fail;refine hc.mono ?_;rintro e w1 ⟨q2,u2,t2,rfl,hS2,ho2⟩;clear hc x8;unfold QV.val QV.cells;go_wp2_with fail;go_meet
     case rel=>exact⟨u2,t2,by rw[HACT.out],by rw[HACT.out];exact hS2,ho2⟩
    have f2:(y.k==2)=false:=by rw[beq_eq_false_iff_ne];exact k2
    by_cases k3:y.k=3
    ·have f3:(y.k==3)=true:=by rw[k3];rfl
     have HACT:Hid (iO d cl q P=(P,false)):=hid (by unfold iO;rw[<-HY.out,if_neg k1,if_neg k2,if_neg (by omega)]);have hc:=KA w0.heap.size sb cl P (K+k) uo' to' wr HSR.out HPR.out HC.out.1 HC.out.2.1 hK9;clear k1 k2 k3;go_wp2_with fail;refine hc.mono ?_;rintro e w1 ⟨⟨v,rfl⟩,hb1⟩;have hS2:=HSR.out.later hb1;have ho2:=(Oth.refl w0.heap.size sb wr).later (by have:=(Array.getElem?_eq_some_iff.1 HSR.out.box).1;have:=HSR.out.le;omega) hb1;clear hc;go_wp2_with fail;go_meet
     case rel=>exact⟨uo',to',by rw[HACT.out],by rw[HACT.out];exact hS2,ho2⟩
    have f3:(y.k==3)=false:=by rw[beq_eq_false_iff_ne];exact k3
    by_cases k4:y.k=4
    ·have f4:(y.k==4)=true:=by rw[k4];rfl
     have HK4:=hid (And.intro k1 (And.intro k2 k4));clear k1 k2 k3 k4;go_upto_region 15 with fail;have R1:RowA y b1 (o1+k*16) wr.drew:=HR0.out.later (Below.refl _ _).drew;have bD:Below wr.heap.size wr wr.drew:=(Below.refl _ _).drew;have hMD:=HM.out.1.later bD;refine wp_region_held (S:=RowA y b1 (o1+k*16)) hmo ?_;change wpAnyH _ _ _ _ _ _ _ _ (World.drew wr);generalize World.drew wr=V0 at *;refine zHp 0 (.slice (some ⟨b1,o1,none⟩) n cap) rfl R1 ?_;go_simp;refine zHp 1 (.int .i64 (k:Int)) rfl R1 ?_;go_simp;refine zHa 2 (.pointer (some ⟨b1,o1+k*16,none⟩)) rfl (by rintro w2 h2;obtain⟨x0,x1,x2,x3,x4,x5,x6,x7,x8,x9,x10,x11,x12,x13,x14,x15⟩:=h2;go_simp) R1 ?_;go_simp;refine zHa 3 (.pointer (some ⟨b1,o1+k*16+9,none⟩)) rfl (by rintro w2 h2;obtain⟨x0,x1,x2,x3,x4,x5,x6,x7,x8,x9,x10,x11,x12,x13,x14,x15⟩:=h2;kernel_rfl) R1 ?_;go_simp;refine zHa 4 (.int .u64 y.vi) rfl (by rintro w2 h2;obtain⟨x0,x1,x2,x3,x4,x5,x6,x7,x8,x9,x10,x11,x12,x13,x14,x15⟩:=h2;go_simp) R1 ?_;go_simp;refine zHp 5 (.slice (some ⟨b1,o1,none⟩) n cap) rfl R1 ?_;go_simp;refine zHp 6 (.int .i64 (k:Int)) rfl R1 ?_;go_simp;refine zHa 7 (.pointer (some ⟨b1,o1+k*16,none⟩)) rfl (by rintro w2 h2;obtain⟨x0,x1,x2,x3,x4,x5,x6,x7,x8,x9,x10,x11,x12,x13,x14,x15⟩:=h2;go_simp) R1 ?_;go_simp;refine zHa 8 (.pointer (some ⟨b1,o1+k*16+10,none⟩)) rfl (by rintro w2 h2;obtain⟨x0,x1,x2,x3,x4,x5,x6,x7,x8,x9,x10,x11,x12,x13,x14,x15⟩:=h2;kernel_rfl) R1 ?_;go_simp;refine zHa 9 (.int .u64 y.cl) rfl (by rintro w2 h2;obtain⟨x0,x1,x2,x3,x4,x5,x6,x7,x8,x9,x10,x11,x12,x13,x14,x15⟩:=h2;go_simp) R1 ?_;go_simp;refine zHp 10 (.slice (some ⟨b1,o1,none⟩) n cap) rfl R1 ?_;go_simp;refine zHp 11 (.int .i64 (k:Int)) rfl R1 ?_;go_simp;refine zHa 12 (.pointer (some ⟨b1,o1+k*16,none⟩)) rfl (by rintro w2 h2;obtain⟨x0,x1,x2,x3,x4,x5,x6,x7,x8,x9,x10,x11,x12,x13,x14,x15⟩:=h2;go_simp) R1 ?_;go_simp;refine zHa 13 (.pointer (some ⟨b1,o1+k*16+11,none⟩)) rfl (by rintro w2 h2;obtain⟨x0,x1,x2,x3,x4,x5,x6,x7,x8,x9,x10,x11,x12,x13,x14,x15⟩:=h2;kernel_rfl) R1 ?_;go_simp;refine zHa 14 (.int .u64 y.nu) rfl (by rintro w2 h2;obtain⟨x0,x1,x2,x3,x4,x5,x6,x7,x8,x9,x10,x11,x12,x13,x14,x15⟩:=h2;go_simp) R1 ?_;go_simp;refine zHp 15 (.slice (some ⟨b1,o1,none⟩) n cap) rfl R1 ?_;go_simp;refine zHp 16 (.int .i64 (k:Int)) rfl R1 ?_;go_simp;refine zHa 17 (.pointer (some ⟨b1,o1+k*16,none⟩)) rfl (by rintro w2 h2;obtain⟨x0,x1,x2,x3,x4,x5,x6,x7,x8,x9,x10,x11,x12,x13,x14,x15⟩:=h2;go_simp) R1 ?_;go_simp;refine zHa 18 (.pointer (some ⟨b1,o1+k*16+12,none⟩)) rfl (by rintro w2 h2;obtain⟨x0,x1,x2,x3,x4,x5,x6,x7,x8,x9,x10,x11,x12,x13,x14,x15⟩:=h2;kernel_rfl) R1 ?_;go_simp;refine zHa 19 (.agg #[.int .i64 y.rs.code,.bool y.rs.yes,.slice y.rs.eo y.rs.en y.rs.ec,.slice y.rs.co y.rs.cn y.rs.cc]) rfl (by rintro w2 h2;obtain⟨x0,x1,x2,x3,x4,x5,x6,x7,x8,x9,x10,x11,x12,x13,x14,x15⟩:=h2;go_simp) R1 ?_;go_simp;refine zHa 20 (.agg #[.int .i64 2,.int .u64 y.vi,.int .u64 0,.int .i64 0,.int .u64 y.cl,.int .u64 y.nu,.int .u64 0,.int .u64 0,.int .i64 0,.string ⟨#[]⟩,.string ⟨#[]⟩,.slice none 0 0,.slice none 0 0,.slice none 0 0,.int .i64 0,.int .i64 y.rs.code,.bool y.rs.yes,.slice y.rs.eo y.rs.en y.rs.ec,.slice y.rs.co y.rs.cn y.rs.cc,.int .u64 0,.int .u64 0,.int .u64 0,.slice none 0 0,.slice none 0 0,.int .u64 0,.bool false,.slice none 0 0]) rfl (by rintro w2 h2;obtain⟨x0,x1,x2,x3,x4,x5,x6,x7,x8,x9,x10,x11,x12,x13,x14,x15⟩:=h2;go_simp) R1 ?_;go_simp;refine zH1 21 rfl (fun K hK=>?_);go_simp;have hc:=Dc (rpM y) (rpC q.2) _ hMD HM.out.2.1 HM.out.2.2.1 (Nat.zero_le _) rfl rfl rfl rfl OA;rw[show (rpM y).val=.agg #[.int .i64 2,.int .u64 y.vi,.int .u64 0,.int .i64 0,.int .u64 y.cl,.int .u64 y.nu,.int .u64 0,.int .u64 0,.int .i64 0,.string ⟨#[]⟩,.string ⟨#[]⟩,.slice none 0 0,.slice none 0 0,.slice none 0 0,.int .i64 0,.int .i64 y.rs.code,.bool y.rs.yes,.slice y.rs.eo y.rs.en y.rs.ec,.slice y.rs.co y.rs.cn y.rs.cc,.int .u64 0,.int .u64 0,.int .u64 0,.slice none 0 0,.slice none 0 0,.int .u64 0,.bool false,.slice none 0 0] from rfl] at hc;refine hc.mono ?_;rintro e X1 ⟨lb,ax,cx,ok,rfl,rd1,hb1,hok,hbl⟩;have R2:=R1.later hb1;have b1':=bD.trans (hb1.mono bD.size);have HOK:=hid (And.intro hok hbl);clear hc hb1 hok hbl;go_simp;refine hK _ _ ⟨R2,?_⟩;clear hK K;refine zHp 22 (.tuple #[.slice ax lb.length cx,.bool ok]) rfl R2 ?_;go_simp;refine zHa 23 (.slice ax lb.length cx) rfl (by rintro w2 h2;obtain⟨x0,x1,x2,x3,x4,x5,x6,x7,x8,x9,x10,x11,x12,x13,x14,x15⟩:=h2;kernel_rfl) R2 ?_;go_simp;refine zHa 24 (.bool ok) rfl (by rintro w2 h2;obtain⟨x0,x1,x2,x3,x4,x5,x6,x7,x8,x9,x10,x11,x12,x13,x14,x15⟩:=h2;kernel_rfl) R2 ?_;go_simp;refine zHp 25 (.slice ax lb.length cx) rfl R2 ?_;go_simp;refine zHp 26 (.bool ok) rfl R2 ?_;go_simp;refine wpAnyH_done (by kernel_rfl) ?_ _;have HB1:=hid b1';have HRD:=hid rd1;clear R1 R2 b1' rd1 bD hMD;cases ok with
     | false=>
      have HACT:Hid (iO d cl q P=(P,false)):=hid (by unfold iO;rw[<-HY.out,if_neg HK4.out.1,if_neg HK4.out.2.1,if_neg (by rintro⟨-,h⟩;have:=HOK.out.1;rw[h] at this;cases this)]);have hS2:=HSR.out.later HB1.out;have ho2:=(Oth.refl w0.heap.size sb wr).later (by have:=(Array.getElem?_eq_some_iff.1 HSR.out.box).1;have:=HSR.out.le;omega) HB1.out;go_wp2_with fail;go_meet
      case rel=>exact⟨uo',to',by rw[HACT.out],by rw[HACT.out];exact hS2,ho2⟩
     | true=>
      have HACT:Hid (iO d cl q P=lD d cl (dM (rpM q.1) (rpC q.2)) P):=hid (by unfold iO;rw[<-HY.out,if_neg HK4.out.1,if_neg HK4.out.2.1,if_pos ⟨HK4.out.2.2,HOK.out.1.symm⟩]);have hln:lb.length<=8388608:=by
       have h1:bV (rpM y) (rpC q.2)=true:=HOK.out.1.symm;unfold bV at h1;rw[Bool.and_eq_true] at h1;rw[HOK.out.2 (by first | rfl | trivial)];exact of_decide_eq_true h1.2
      have hc:=take_any d hd w0.heap.size sb cl P (K+k) uo' to' lb ax lb.length cx X1 (HSR.out.later HB1.out) HPR.out hK9 HRD.out hln (HER.out.below HB1.out);have ho1:=(Oth.refl w0.heap.size sb wr).later (by have:=(Array.getElem?_eq_some_iff.1 HSR.out.box).1;have:=HSR.out.le;omega) HB1.out;have HO1:=hid ho1;clear hln ho1;go_wp2_with fail;refine hc.mono ?_;rintro e w1 ⟨q2,u2,t2,rfl,hS2,ho2⟩;rw[HOK.out.2 (by first | rfl | trivial),HY.out] at hS2 ⊢;have ho3:Oth w0.heap.size sb wr w1:=⟨HO1.out.bel.trans ho2.bel,fun k hk hne=>(ho2.oth k (Nat.lt_of_lt_of_le hk HB1.out.size) hne).trans (HO1.out.oth k hk hne)⟩
      clear hc ho2;unfold QV.val QV.cells;go_wp2_with fail;go_meet
      case rel=>exact⟨u2,t2,by rw[HACT.out],by rw[HACT.out];exact hS2,ho3⟩
    have f4:(y.k==4)=false:=by rw[beq_eq_false_iff_ne];exact k4
    have HACT:Hid (iO d cl q P=(P,false)):=hid (by unfold iO;rw[<-HY.out,if_neg k1,if_neg k2,if_neg (by omega)]);clear k1 k2 k3 k4;go_wp2_with fail;go_meet
    case rel=>exact⟨uo',to',by rw[HACT.out],by rw[HACT.out];exact HSR.out,Oth.refl _ _ _⟩
   case rest=>
    obtain⟨u2,t2,rfl,hS2,ho2⟩:=hcut;clear x0;obtain⟨r,hr⟩:∃r,iO d cl q P=r:=⟨_,rfl⟩
    have hst:=HST.out;have hnx:=HNX.out;rw[HP.out] at hnx;rw[hr] at hS2 hst hnx;rw[hr];obtain⟨P',is⟩:=r;dsimp only at hS2 hst hnx ⊢;have HNX:=hid hnx;have HST:=hid hst;have hl:=last_any w0.heap.size sb cl P' (K+k+1) u2 t2 wc hS2 hst.ok;have ho:=HOR.out;have ho3:Oth w0.heap.size sb w wc:=⟨ho.bel.trans ho2.bel,fun k hk hne=>(ho2.oth k (Nat.lt_of_lt_of_le hk ho.bel.size) hne).trans (ho.oth k hk hne)⟩
    clear hr hst hnx ho ho2;go_wp2_with fail;refine hl.mono ?_;rintro e W3 ⟨q3,rfl,hb3⟩;unfold QV.val QV.cells;go_upto_region 19 with (refine zNr rfl ?_;go_simp);generalize hg:W3.alloc _=W4;have hb4:Below W3.heap.size W3 W4:=by rw[<-hg];exact (Below.refl _ _).alloc (Nat.le_refl _) _
    have hS4:=(hS2.later hb3).later hb4;have ho4:=ho3.later (by have:=(Array.getElem?_eq_some_iff.1 hS2.box).1;have:=hS2.le;omega) (hb3.trans (hb4.mono hb3.size));have HF:=hid (And.intro hS4 ho4);clear hg hb3 hb4 hS2 ho3 hl hS4 ho4;cases is with
    | true=>
     have g1:decide (P'.la<=P.la)=false:=decide_eq_false (by have h:P.la<P'.la:=HST.out.up rfl;omega);have hw:IntKind.i64.wrap ((many:Int)+1)=(many:Int)+1:=by rw[IntKind.wrap_i64];have h9:=HC.out.2.2;have h8:=hp.num;omega
     go_wp2_with fail;go_roundw
     case rel=>exact⟨k+1,many+1,u2,t2,by omega,by omega,by rw[HNX.out],by go_num,by go_num,by rw[HNX.out];exact HF.out.1,by rw[HNX.out];have h:=HST.out.ok;rw[show K+(k:Int)+1=K+((k+1:Nat):Int) by omega] at h;exact h,HF.out.2⟩
     case measure=>simp[intOf];omega
    | false=>
     have g1:(P'.la != P.la)=false:=by have h:P'.la=P.la:=HST.out.st rfl;rw[h];simp
     go_wp2_with fail;go_roundw
     case rel=>exact⟨k+1,many,u2,t2,by omega,by omega,by rw[HNX.out],rfl,by go_num,by rw[HNX.out];exact HF.out.1,by rw[HNX.out];have h:=HST.out.ok;rw[show K+(k:Int)+1=K+((k+1:Nat):Int) by omega] at h;exact h,HF.out.2⟩
     case measure=>simp[intOf];omega
  have hkn2:k=n:=by omega
  have hfull:l.take k=l:=List.take_of_length_le (by rw[LA.out];omega);have hPe:=HP.out;rw[hfull] at hPe;have HF:Hid (jg d cl w0.heap.size sb l p w (.returned (.tuple #[.int .u64 P.la,.int .i64 (many:Int)])) wr):=hid ⟨many,uo',to',by rw[hPe],by rw[hPe];exact hSr,hor⟩;subst hkn2;clear hSr hpr hor hPe hfull;go_wp2_with fail;go_ret2;exact HF.out
def jw:OV:=⟨6,⟨#[97]⟩,⟨#[]⟩,none,0,0,none,0,0,none,0,0,0⟩
def pM:OC:=⟨[],[],[]⟩
theorem Be:bg ⟨#[97]⟩=true:=by
 unfold bg;rw[decide_eq_true (by decide),decide_eq_true (by decide)];rfl
theorem Cc:bg ⟨#[]⟩=true:=by
 unfold bg;rw[decide_eq_true (by decide),decide_eq_true (by decide)];rfl
theorem vX:aB jw pM=true:=by
 have h1:fieldsOf jw.k=[110]:=rfl;have h2:bK jw pM (eF [110] jw) (jC [110] pM)=true:=by
  unfold bK;exact decide_eq_true (by decide)
 unfold aB dV;rw[h1,h2,show bg jw.name=true from Be,show bg jw.to=true from Cc];rfl
theorem wO (W:World):OpAt W jw pM:=⟨Rd.nil _ _,Rd.nil _ _,Rd.nil _ _,by decide,by decide,by decide⟩
theorem mi (w:World):Calls Tryz.prog 9 #[] w (aY true w):=by
 have hnew:=new_any 1 3 w;go_in;go_wp2_with fail;refine hnew.mono ?_;rintro e w1 he;unfold oq at he;rw[if_pos (by decide)] at he;obtain⟨rfl,e1⟩:=he;have hb1:Below w.heap.size w w1:=by rw[e1];exact (Below.refl _ _).alloc (Nat.le_refl _) _
 have k1:w1.heap[w.heap.size]?=some (BP 1 3).box:=by rw[e1];show (w.heap.push _)[w.heap.size]?=some _;exact Array.getElem?_push_size
 clear e1 hnew;go_upto_region 3 with (refine zNr rfl ?_;go_simp);generalize hg:w1.alloc _=w2;have hb2:Below w1.heap.size w1 w2:=by rw[<-hg];exact (Below.refl _ _).alloc (Nat.le_refl _) _
 have q2:w2.heap[w1.heap.size]?=some jw.box:=by rw[<-hg];show (w1.heap.push _)[w1.heap.size]?=some _;exact Array.getElem?_push_size
 have hlt1:=(Array.getElem?_eq_some_iff.1 k1).1;have k2:=(hb2.block _ hlt1).trans k1;have hB2:=hb1.trans (hb2.mono hb1.size);clear hg k1 hb2;have hask:=J6 w.heap.size w.heap.size (BP 1 3) jw pM w2 k2 (Nat.le_refl _) (wO _) vX rfl (by decide) (by decide) (by decide) (by decide) (by decide) (by decide) (by decide) (by decide);go_wp2_with (refine zLr rfl q2 ?_;go_simp);refine hask.mono ?_;rintro e w3 ⟨rb,u,l,ov,rfl,hl,k3,-,-,-,-,hoth,-⟩;have q3:=(hoth.oth _ (Array.getElem?_eq_some_iff.1 q2).1 (by omega)).trans q2;have hB3:=hB2.trans hoth.bel;have hst:=zy jw pM _ w.heap.size ⟨rb,0,none⟩ w3 k3 (wO _) (show (0:Int)<3 by decide) vX rfl;clear hask;go_wp2_with (refine zLr rfl q3 ?_;go_simp);refine hst.mono ?_;rintro e w4 ⟨rfl,hb4⟩;have hB4:=hB3.trans (hb4.mono hB3.size);clear hst;dsimp only[BP];go_wp2_with fail;go_ret;exact⟨rfl,hB4⟩
def mV:PS:=⟨0,0,0,0,false,false⟩
theorem qB:mV.Ok 0:=⟨by decide,by decide,by decide,by decide,fun h=>(by cases h),by decide,fun _=>rfl⟩
theorem Bo (cl:Int)(B:Nat)(w:World)(hB:B<=w.heap.size):SAt (w.alloc (BP cl 5).box) B w.heap.size cl mV none none:=
 ⟨at_new _ _,hB,fun h=>(by cases h),fun _=>rfl,fun h=>(by cases h),fun _=>rfl⟩
theorem tu {l:List XP}{most:Int}(h:pF l most=true):(∀q∈l,jK q.1=true)/\(l.length:Int)<=most:=by
 unfold pF at h;rw[Bool.and_eq_true] at h;exact⟨fun q hq=>List.all_eq_true.1 h.1 q hq,of_decide_eq_true h.2⟩
theorem ActsRd.later {W W':World}{ao:Option Addr}{n cap:Nat}{l:List XP}(h:ActsRd W ao n cap l)(hb:Below W.heap.size W W'):ActsRd W' ao n cap l:=⟨h.rd.later hb,fun q hq=>(h.each q hq).later hb⟩
theorem PO (a:Addr)(w:World):Sem.run Tryz.prog (binOp BinOp.eql 26 (.pointer (some a)) (.pointer none)) w=.ok (.bool false) w:=by kernel_rfl
theorem xy (cl:Int)(hc0:0<=cl)(hc1:cl<18446744073709551616)(a1:Option Addr)(n1 k1:Nat)(l1:List XP)(a2:Option Addr)(n2 k2:Nat)(l2:List XP)(a3:Option Addr)(n3 k3:Nat)(l3:List XP)(w:World)
  (hA1:ActsRd w a1 n1 k1 l1) (hA2:ActsRd w a2 n2 k2 l2) (hA3:ActsRd w a3 n3 k3 l3) (hE:ErrG w) :
  Calls Tryz.prog 7 #[.int .u64 cl,.slice a1 n1 k1,.slice a2 n2 k2,.slice a3 n3 k3] w (aY true w):=by
 obtain⟨d,hd⟩:=Oy;go_in;go_wp2_with fail;refine (yK a1 n1 k1 l1 20 w hA1).mono ?_;rintro e w1 ⟨rfl,hb1⟩;cases hf1:pF l1 20
 case false=>
  go_wp2_with fail;refine (mi _).mono ?_;rintro e wk ⟨rfl,hbk⟩;go_wp2_with fail;go_ret;exact⟨rfl,(hb1).trans (hbk.mono (hb1).size)⟩
 go_wp2_with fail;refine (yK a2 n2 k2 l2 20 w1 (hA2.later hb1)).mono ?_;rintro e w2 ⟨rfl,hb2'⟩;have hb2:=hb1.trans (hb2'.mono hb1.size);clear hb2' hb1;cases hf2:pF l2 20
 case false=>
  go_wp2_with fail;refine (mi _).mono ?_;rintro e wk ⟨rfl,hbk⟩;go_wp2_with fail;go_ret;exact⟨rfl,(hb2).trans (hbk.mono (hb2).size)⟩
 go_wp2_with fail;refine (yK a3 n3 k3 l3 20 w2 (hA3.later hb2)).mono ?_;rintro e w3 ⟨rfl,hb3'⟩;have hb3:=hb2.trans (hb3'.mono hb2.size);clear hb3' hb2;cases hf3:pF l3 20
 case false=>
  go_wp2_with fail;refine (mi _).mono ?_;rintro e wk ⟨rfl,hbk⟩;go_wp2_with fail;go_ret;exact⟨rfl,(hb3).trans (hbk.mono (hb3).size)⟩
 have HF1:=hid (tu hf1);have HF2:=hid (tu hf2);have HF3:=hid (tu hf3);have L1:=hid hA1.len;have L2:=hid hA2.len;have L3:=hid hA3.len;have m1:(0:Int)+(n1:Int)<=900:=by have:=HF1.out.2;have:=L1.out;omega
 have m2:(20:Int)+(n2:Int)<=900:=by have:=HF2.out.2;have:=L2.out;omega
 have m3:(20:Int)+(n3:Int)<=900:=by have:=HF3.out.2;have:=L3.out;omega
 have H1:=BJ hd cl l1 qB;obtain⟨P1,hP1⟩:∃P,jM d cl l1 mV=P:=⟨_,rfl⟩
 rw[hP1] at H1;have o1:P1.Ok 20:=by
  have h:=H1.1;have:=HF1.out.2;exact⟨⟨h.num.1,by have:=h.num.2;omega⟩,h.vi,h.la,⟨h.dr.1,by have:=h.dr.2;omega⟩,h.un,h.le,h.to0⟩
 have H2:=BJ hd cl l2 o1;obtain⟨P2,hP2⟩:∃P,jM d cl l2 P1=P:=⟨_,rfl⟩
 rw[hP2] at H2;obtain⟨P3,hP3⟩:∃P,jM d cl l3 P1=P:=⟨_,rfl⟩
 have G1:decide (P2.la<P1.la)=false:=decide_eq_false (by have:=H2.2;omega);have HP1:=hid hP1;have HP2:=hid hP2;have HP3:=hid hP3;have M:=hid (And.intro m1 (And.intro m2 m3));have HO1:=hid o1;have HA:=hid (And.intro hA1 (And.intro hA2 hA3));have HE:=hid hE;have HC:=hid (And.intro hc0 hc1);clear hf1 hf2 hf3 hP1 hP2 hP3 m1 m2 m3 o1 H1 H2 hA1 hA2 hA3 hE hc0 hc1;have hnew:=new_any cl 5 w3;go_wp2_with fail;refine hnew.mono ?_;rintro e w4 he;unfold oq at he;rw[if_pos (by decide)] at he;obtain⟨rfl,e1⟩:=he;have hbn:Below w3.heap.size w3 w4:=by rw[e1];exact (Below.refl _ _).alloc (Nat.le_refl _) _
 have S:SAt w4 w.heap.size w3.heap.size cl mV none none:=by rw[e1];exact Bo cl w.heap.size w3 hb3.size
 have hb4:=hb3.trans (hbn.mono hb3.size);obtain⟨bs,e2⟩:∃z,w3.heap.size=z:=⟨_,rfl⟩
 rw[e2] at S ⊢;clear hnew e1 hbn e2 hb3;have pe:=PO ⟨bs,0,none⟩;have hr:=run_any d hd w a1 n1 k1 l1 HA.out.1 HF1.out.1 HE.out bs cl mV _ _ _ w4 S qB M.out.1 HC.out.1 HC.out.2 hb4;unfold jg at hr;rw[HP1.out] at hr;go_wp2_with fail;refine hr.mono ?_;rintro e w5 ⟨c4,u4,t4,rfl,S',ho⟩;have hb5:=hb4.trans ho.bel;have q4:decide ((c4:Int)<0)=false:=decide_eq_false (by omega);clear hr ho S hb4;have S:=S';clear S';go_wp2_with fail;refine (Iq w.heap.size bs cl P1 _ _ w5 S).mono ?_;rintro e w6 ⟨bo,rfl,hob,O,hbc⟩;have hbs:=(Array.getElem?_eq_some_iff.1 S.box).1;have nbsbo:bs≠bo:=by omega
 replace S:=S.later hbc;have hb6:=hb5.trans (hbc.mono hb5.size);clear hbc hbs hob hb5;have hr:=run_any d hd w a2 n2 k2 l2 HA.out.2.1 HF2.out.1 HE.out bs cl P1 _ _ _ w6 S HO1.out M.out.2.1 HC.out.1 HC.out.2 hb6;unfold jg at hr;rw[HP2.out] at hr;go_wp2_with fail;refine hr.mono ?_;rintro e w7 ⟨c6,u6,t6,rfl,S',ho⟩;replace O:=O.oth S.box ho nbsbo.symm;have hb7:=hb6.trans ho.bel;have q6:decide ((c6:Int)<0)=false:=decide_eq_false (by omega);clear hr ho S hb6;have S:=S';clear S';have hr:=run_any d hd w a3 n3 k3 l3 HA.out.2.2 HF3.out.1 HE.out bo cl P1 _ _ _ w7 O HO1.out M.out.2.2 HC.out.1 HC.out.2 hb7;unfold jg at hr;rw[HP3.out] at hr;go_wp2_with fail;refine hr.mono ?_;rintro e w8 ⟨c7,u7,t7,rfl,O',ho⟩;replace S:=S.oth O.box ho nbsbo;have hb8:=hb7.trans ho.bel;have q7:decide ((c7:Int)<0)=false:=decide_eq_false (by omega);clear hr ho O hb7;have O:=O';clear O';have hnew:=new_any cl 5 w8;go_wp2_with fail;refine hnew.mono ?_;rintro e w9 he;unfold oq at he;rw[if_pos (by decide)] at he;obtain⟨rfl,e1⟩:=he;have hbn:Below w8.heap.size w8 w9:=by rw[e1];exact (Below.refl _ _).alloc (Nat.le_refl _) _
 have X:SAt w9 w.heap.size w8.heap.size cl mV none none:=by rw[e1];exact Bo cl w.heap.size w8 hb8.size
 have hbs:=(Array.getElem?_eq_some_iff.1 S.box).1;replace S:=S.later hbn;have hbo:=(Array.getElem?_eq_some_iff.1 O.box).1;replace O:=O.later hbn;have hb9:=hb8.trans (hbn.mono hb8.size);obtain⟨bx,e2⟩:∃z,w8.heap.size=z:=⟨_,rfl⟩
 rw[e2] at X ⊢;rw[e2] at hbs;rw[e2] at hbo;have nbsbx:bs≠bx:=by omega
 have nbobx:bo≠bx:=by omega
 clear hnew e1 hbn e2 hb8 hbs hbo;have hr:=run_any d hd w a1 n1 k1 l1 HA.out.1 HF1.out.1 HE.out bx cl mV _ _ _ w9 X qB M.out.1 HC.out.1 HC.out.2 hb9;unfold jg at hr;rw[HP1.out] at hr;go_wp2_with fail;refine hr.mono ?_;rintro e w10 ⟨c9,u9,t9,rfl,X',ho⟩;replace S:=S.oth X.box ho nbsbx;replace O:=O.oth X.box ho nbobx;have hb10:=hb9.trans ho.bel;have q9:decide ((c9:Int)<0)=false:=decide_eq_false (by omega);clear hr ho X hb9;have X:=X';clear X';have hr:=run_any d hd w a2 n2 k2 l2 HA.out.2.1 HF2.out.1 HE.out bx cl P1 _ _ _ w10 X HO1.out M.out.2.1 HC.out.1 HC.out.2 hb10;unfold jg at hr;rw[HP2.out] at hr;go_wp2_with fail;refine hr.mono ?_;rintro e w11 ⟨c10,u10,t10,rfl,X',ho⟩;replace S:=S.oth X.box ho nbsbx;replace O:=O.oth X.box ho nbobx;have hb11:=hb10.trans ho.bel;have q10:decide ((c10:Int)<0)=false:=decide_eq_false (by omega);clear hr ho X hb10;have X:=X';clear X';have hnew:=new_any cl 5 w11;go_wp2_with fail;refine hnew.mono ?_;rintro e w12 he;unfold oq at he;rw[if_pos (by decide)] at he;obtain⟨rfl,e1⟩:=he;have hbn:Below w11.heap.size w11 w12:=by rw[e1];exact (Below.refl _ _).alloc (Nat.le_refl _) _
 have Y:SAt w12 w.heap.size w11.heap.size cl mV none none:=by rw[e1];exact Bo cl w.heap.size w11 hb11.size
 have hbs:=(Array.getElem?_eq_some_iff.1 S.box).1;replace S:=S.later hbn;have hbo:=(Array.getElem?_eq_some_iff.1 O.box).1;replace O:=O.later hbn;have hbx:=(Array.getElem?_eq_some_iff.1 X.box).1;replace X:=X.later hbn;have hb12:=hb11.trans (hbn.mono hb11.size);obtain⟨by_,e2⟩:∃z,w11.heap.size=z:=⟨_,rfl⟩
 rw[e2] at Y ⊢;rw[e2] at hbs;rw[e2] at hbo;rw[e2] at hbx;have nbsby_:bs≠by_:=by omega
 have nboby_:bo≠by_:=by omega
 have nbxby_:bx≠by_:=by omega
 clear hnew e1 hbn e2 hb11 hbs hbo hbx;have hr:=run_any d hd w a1 n1 k1 l1 HA.out.1 HF1.out.1 HE.out by_ cl mV _ _ _ w12 Y qB M.out.1 HC.out.1 HC.out.2 hb12;unfold jg at hr;rw[HP1.out] at hr;go_wp2_with fail;refine hr.mono ?_;rintro e w13 ⟨c12,u12,t12,rfl,Y',ho⟩;replace S:=S.oth Y.box ho nbsby_;replace O:=O.oth Y.box ho nboby_;replace X:=X.oth Y.box ho nbxby_;have hb13:=hb12.trans ho.bel;have q12:decide ((c12:Int)<0)=false:=decide_eq_false (by omega);clear hr ho Y hb12;have Y:=Y';clear Y';have hr:=run_any d hd w a3 n3 k3 l3 HA.out.2.2 HF3.out.1 HE.out by_ cl P1 _ _ _ w13 Y HO1.out M.out.2.2 HC.out.1 HC.out.2 hb13;unfold jg at hr;rw[HP3.out] at hr;go_wp2_with fail;refine hr.mono ?_;rintro e w14 ⟨c13,u13,t13,rfl,Y',ho⟩;replace S:=S.oth Y.box ho nbsby_;replace O:=O.oth Y.box ho nboby_;replace X:=X.oth Y.box ho nbxby_;have hb14:=hb13.trans ho.bel;have q13:decide ((c13:Int)<0)=false:=decide_eq_false (by omega);clear hr ho Y hb13;have Y:=Y';clear Y';have znumP2:(P2.num==P2.num)=true:=by simp
 have zviP2:(P2.vi==P2.vi)=true:=by simp
 have zdrP2:(P2.dr==P2.dr)=true:=by simp
 have znumP3:(P3.num==P3.num)=true:=by simp
 have zviP3:(P3.vi==P3.vi)=true:=by simp
 have zdrP3:(P3.dr==P3.dr)=true:=by simp
 go_wp2_with fail;refine (qx _ bs w14 S.box).mono ?_;rintro e y1 ⟨rfl,rfl⟩;go_wp2_with fail;refine (qx _ bx y1 X.box).mono ?_;rintro e y2 ⟨rfl,rfl⟩;go_wp2_with fail;refine (rQ _ bs y2 S.box).mono ?_;rintro e y3 ⟨rfl,rfl⟩;go_wp2_with fail;refine (rQ _ bx y3 X.box).mono ?_;rintro e y4 ⟨rfl,rfl⟩;go_wp2_with fail;refine (lZ _ bs y4 S.box).mono ?_;rintro e y5 ⟨rfl,rfl⟩;go_wp2_with fail;refine (lZ _ bx y5 X.box).mono ?_;rintro e y6 ⟨rfl,rfl⟩;go_wp2_with fail;refine (qx _ bo y6 O.box).mono ?_;rintro e y7 ⟨rfl,rfl⟩;go_wp2_with fail;refine (qx _ by_ y7 Y.box).mono ?_;rintro e y8 ⟨rfl,rfl⟩;go_wp2_with fail;refine (rQ _ bo y8 O.box).mono ?_;rintro e y9 ⟨rfl,rfl⟩;go_wp2_with fail;refine (rQ _ by_ y9 Y.box).mono ?_;rintro e y10 ⟨rfl,rfl⟩;go_wp2_with fail;refine (lZ _ bo y10 O.box).mono ?_;rintro e y11 ⟨rfl,rfl⟩;go_wp2_with fail;refine (lZ _ by_ y11 Y.box).mono ?_;rintro e y12 ⟨rfl,rfl⟩;go_wp2_with fail;refine (mi _).mono ?_;rintro e wk ⟨rfl,hbk⟩;go_wp2_with fail;go_ret;exact⟨rfl,(hb14).trans (hbk.mono (hb14).size)⟩
open Go.ChangeShapes Go.WideShapes Go.Deep
theorem Aw {α:Type}:∀(Ts:List (List α)) (j:Nat) (x:α),Ts.flatten[j]?=some x->∃(i:Nat) (T:List α) (r:Nat),Ts[i]?=some T/\T[r]?=some x/\j=(Ts.take i).flatten.length+r
 | [],j,x,h=>by simp at h
 | T::Ts,j,x,h=>by
  rw[List.flatten_cons] at h;by_cases hj:j<T.length
  ·rw[List.getElem?_append_left hj] at h;exact⟨0,T,j,rfl,h,by simp⟩
  rw[List.getElem?_append_right (by omega)] at h;obtain⟨i,T',r,h1,h2,h3⟩:=Aw Ts _ x h;exact⟨i+1,T',r,by simpa using h1,h2,by rw[List.take_succ_cons,List.flatten_cons,List.length_append];omega⟩
section
variable {H:Type} {enc:TypeId×Value->H} {P:Program} {W:World}
theorem D8 {t:TypeId}{fs:Array Field}(Ts:List (List TypeId))(ht:P.underlying t=some (.struct fs))(hlen:fs.size=Ts.length)
  (hB:(List.range Ts.length).all (fun i=>match fs[i]?,Ts[i]? with | some f,some T=>f.offset==(Ts.take i).flatten.length&&P.cellsOf f.type==T.length | _,_=>false)=true) (hC:P.cellsOf t=Ts.flatten.length)
  (hL:∀(i:Nat) (f:Field) (T:List TypeId),fs[i]?=some f->Ts[i]?=some T->T=[f.type]\/∀(fuel:Nat) (cs:List Value) (x:DataW H×List MemPlace),DataW.trod enc P W 0 (fun _=>true) true fuel f.type cs=some x->Leaves enc P W T cs)
  {fuel:Nat} {cs:List Value} {x:DataW H×List MemPlace} (h:DataW.trod enc P W 0 (fun _=>true) true fuel t cs=some x):Leaves enc P W Ts.flatten cs:=by
 obtain⟨ys,n',hn',hy,hl,hyl,hf⟩:=DataW.trod_struct ht h;refine⟨by rw[hl,hC],fun j τ hτ=>?_⟩;obtain⟨i,T,r,h1,h2,rfl⟩:=Aw Ts j τ hτ;have hi:i<Ts.length:=(List.getElem?_eq_some_iff.1 h1).1;have hr:r<T.length:=(List.getElem?_eq_some_iff.1 h2).1;obtain⟨f,hfi⟩:∃f,fs[i]?=some f:=⟨_,Array.getElem?_eq_getElem (by omega)⟩
 have hb:=List.all_eq_true.1 hB i (List.mem_range.2 hi);rw[hfi,h1] at hb;simp only[Bool.and_eq_true,beq_iff_eq] at hb;obtain⟨ho,hk⟩:=hb;have hg:=hf i f hfi;have hyi:ys[i]?=some (ys[i]'(by omega)):=List.getElem?_eq_getElem (by omega);rw[hyi] at hg;have hjlt:(Ts.take i).flatten.length+r<cs.length:=by rw[hl,hC];exact (List.getElem?_eq_some_iff.1 hτ).1
 have key:Leaves enc P W T ((cs.drop f.offset).take (P.cellsOf f.type)):=by
  rcases hL i f T hfi h1 with rfl | hh
  ·have hr0:r=0:=by simpa using hr
   have hk1:P.cellsOf f.type=1:=hk;have ht1:(cs.drop f.offset).take (P.cellsOf f.type)=[cs[f.offset]'(by rw[ho];omega)]:=by rw[hk1];exact Bd (by rw[ho];omega)
   rw[ht1] at hg ⊢;refine⟨rfl,fun j τ' hj=>?_⟩
   match j,hj with
   | 0,hj=>cases Option.some.inj hj;exact⟨_,n',_,rfl,hg⟩
  exact hh _ _ _ hg
 obtain⟨v,n,y,hv,hy2⟩:=key.2 r τ h2;refine⟨v,n,y,?_,hy2⟩;rw[List.getElem?_take] at hv;split at hv
 ·rw[List.getElem?_drop,ho] at hv;exact hv
 cases hv
end
section
variable {H:Type} {enc:TypeId×Value->H} {W:World}
theorem xe {ts:List TypeId}{cs:List Value}(h:Leaves enc Tryz.prog W ts cs)(o n:Nat):Leaves enc Tryz.prog W ((ts.drop o).take n) ((cs.drop o).take n):=by
 refine⟨by rw[List.length_take,List.length_take,List.length_drop,List.length_drop,h.1],fun j τ hj=>?_⟩;rw[List.getElem?_take] at hj;split at hj
 ·rename_i hjn;rw[List.getElem?_drop] at hj;obtain⟨v,n',y,hv,hy⟩:=h.2 _ τ hj;refine⟨v,n',y,?_,hy⟩;rw[List.getElem?_take,if_pos hjn,List.getElem?_drop];exact hv
 cases hj
theorem Jd {cs l:List Value}{o n:Nat}(h:l=(cs.drop o).take n)(k:Nat)(hk:k<n):l[k]?=cs[o+k]?:=by
 rw[h,List.getElem?_take,if_pos hk,List.getElem?_drop]
end
end Go.Proofs.YtfmmandlmbcncaaGreatDoor.Msg
namespace Go.Proofs.YtfmmandlmbcncaaGreatDoor.Msg
open Go.RowKit Go.Lib Mem Tlv
open Go.ChangeShapes Go.WideShapes Go.Deep
def xP:List (List TypeId):=[[3],Ko,[34],[22],[22],[22],[27,4,37,34]]
section
variable {H:Type} {enc:TypeId×Value->H} {W:World}
theorem D9 (fuel:Nat)(cs:List Value)(x:DataW H×List MemPlace)(h:DataW.trod enc Tryz.prog W 0 (fun _=>true) true fuel 43 cs=some x):Leaves enc Tryz.prog W xP.flatten cs:=by
 refine D8 xP Tryz.underlying43 (by kernel_rfl) (by kernel_rfl) (by kernel_rfl) (fun i f T hf hT=>?_) h
 match i,hf,hT with
 | 0,hf,hT=>cases Option.some.inj hf;cases Option.some.inj hT;exact .inl rfl
 | 1,hf,hT=>cases Option.some.inj hf;cases Option.some.inj hT;exact .inr Il
 | 2,hf,hT=>cases Option.some.inj hf;cases Option.some.inj hT;exact .inl rfl
 | 3,hf,hT=>cases Option.some.inj hf;cases Option.some.inj hT;exact .inl rfl
 | 4,hf,hT=>cases Option.some.inj hf;cases Option.some.inj hT;exact .inl rfl
 | 5,hf,hT=>cases Option.some.inj hf;cases Option.some.inj hT;exact .inl rfl
 | 6,hf,hT=>cases Option.some.inj hf;cases Option.some.inj hT;exact .inr Fv
 | i+7,hf,hT=>have:=(List.getElem?_eq_some_iff.1 hT).1;simp[xP] at this;omega
theorem Lu (cs:List Value)(h:Leaves enc Tryz.prog W xP.flatten cs):∃p:XP,ActAt W p/\p.1.cells.toList=cs:=by
 obtain⟨v0,n0,y0,c0,d0⟩:=h.2 0 3 rfl;obtain⟨v8,n8,y8,c8,d8⟩:=h.2 8 34 rfl;obtain⟨v9,n9,y9,c9,d9⟩:=h.2 9 22 rfl;obtain⟨v10,n10,y10,c10,d10⟩:=h.2 10 22 rfl;obtain⟨v11,n11,y11,c11,d11⟩:=h.2 11 22 rfl;obtain⟨z0,e0,-,-⟩:=DataW.trod_int (k:=.i64) Tryz.underlying3 d0;obtain rfl:=List.head_eq_of_cons_eq e0;obtain⟨z9,e9,-,w9⟩:=DataW.trod_int (k:=.u64) Tryz.underlying22 d9;obtain rfl:=List.head_eq_of_cons_eq e9;obtain⟨z10,e10,-,w10⟩:=DataW.trod_int (k:=.u64) Tryz.underlying22 d10;obtain rfl:=List.head_eq_of_cons_eq e10;obtain⟨z11,e11,-,w11⟩:=DataW.trod_int (k:=.u64) Tryz.underlying22 d11;obtain rfl:=List.head_eq_of_cons_eq e11;obtain⟨so,sn,sc,zs,rfl,hs,hsz⟩:=yg (e:=5) (k:=.u8) Tryz.underlying34 Tryz.underlying5 (by kernel_rfl) d8;obtain⟨sb,hsb⟩:=wE zs (fun z h=>wf_u8 (hsz z h));rw[hsb] at hs;obtain⟨o,oc,ho,hoc⟩:=PG 0 (xe h 1 7) (fun j=>by rw[Nat.zero_add];rfl);obtain⟨q,qc,hq,hqc⟩:=LZ 0 (xe h 12 4) (fun j=>by rw[Nat.zero_add];rfl);refine⟨(⟨z0,o,so,sn,sc,z9,z10,z11,q⟩,⟨oc,sb,qc⟩),⟨ho.a,ho.b,ho.c,hs,⟨hq.e,fun p hp=>⟨hq.a p hp,by have h1:=(hq.a p hp).2.1;have h2:=(hq.a p hp).2.2.1;unfold maxLen at h2;omega⟩⟩,hq.c,wf_u64 w9,wf_u64 w10,wf_u64 w11⟩,?_⟩;have hlen:cs.length=16:=h.1;have O:∀k (u:Value),k<7->(opE o)[k]?=some u->some u=cs[1+k]?:=fun k u hk hu=>by
  have:=hoc k u hu;rw[Nat.zero_add] at this;exact this.symm.trans (Jd rfl k hk)
 have R:∀k (u:Value),k<4->q.cells.toList[k]?=some u->some u=cs[12+k]?:=fun k u hk hu=>by
  have:=hqc k u hu;rw[Nat.zero_add] at this;exact this.symm.trans (Jd rfl k hk)
 refine List.ext_getElem? (fun j=>?_)
 match j with
 | 0=>exact c0.symm
 | 1=>exact O 0 _ (by decide) rfl
 | 2=>exact O 1 _ (by decide) rfl
 | 3=>exact O 2 _ (by decide) rfl
 | 4=>exact O 3 _ (by decide) rfl
 | 5=>exact O 4 _ (by decide) rfl
 | 6=>exact O 5 _ (by decide) rfl
 | 7=>exact O 6 _ (by decide) rfl
 | 8=>exact c8.symm
 | 9=>exact c9.symm
 | 10=>exact c10.symm
 | 11=>exact c11.symm
 | 12=>exact R 0 _ (by decide) rfl
 | 13=>exact R 1 _ (by decide) rfl
 | 14=>exact R 2 _ (by decide) rfl
 | 15=>exact R 3 _ (by decide) rfl
 | j+16=>rw[List.getElem?_eq_none (by simp[AcV.cells]),List.getElem?_eq_none (by omega)]
theorem qN {ao:Option Addr}{n cap:Nat}{d:DataW H}{ps:List MemPlace}(h:DataW.Trod enc Tryz.prog W 0 (fun _=>true) true 23 (.slice ao n cap) d ps):∃l:List XP,ActsRd W ao n cap l:=by
 obtain⟨fuel,hf⟩:=h;obtain⟨ao',n',cap',ys,e,hl,hg,hr⟩:=oO (fun p:XP=>p.1.cells.toList) (fun p=>ActAt W p) 16 (fun _=>rfl) (by decide) (ts:=xP.flatten) Tryz.underlying23 (by kernel_rfl) D9 Lu hf;cases e;exact⟨ys,hr,hg⟩
end
end Go.Proofs.YtfmmandlmbcncaaGreatDoor.Msg
