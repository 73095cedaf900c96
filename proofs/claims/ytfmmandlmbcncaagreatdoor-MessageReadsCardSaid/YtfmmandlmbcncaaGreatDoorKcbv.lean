/-
  A part of the proof.
-/
import Derived.Test.YtfmmandlmbcncaaGreatDoorKcbt
import Derived.Test.YtfmmandlmbcncaaGreatDoorKcbu
import Derived.Test.YtfmmandlmbcncaaGreatDoorKcbq
import Derived.Test.YtfmmandlmbcncaaGreatDoorKcbs
set_option maxHeartbeats 40000000
set_option maxRecDepth 100000
namespace Go.Proofs.YtfmmandlmbcncaaGreatDoor.Msg
open Go.RowKit Go.Lib Mem Tlv
theorem OZ:wJ (.int .u8 12) 115 (fun _=>True):=by
 intro K J Q' B g ob nb rb w T l8 tc o c s V0 _ h hl;intros;rename_i h2 hQP hJ;conv=>arg 2;whnf
 have T3:=bi s 12 (by decide);have hl3:=fC s 12;have hby:=fK B g s 12 V0 h.rf hl;unfold gm at hby;generalize RS.bytes s 12=y at *;obtain⟨y,s3⟩:=y;dsimp only at T3 hby hl3;have HT:=hid T3;have H:=hid h;clear T3 h;go_wp2_with fail;refine hby.mono ?_;rintro e W1 ⟨hR1,hg1,a1,k1,rfl,hrd1,hty1⟩;have h1:=H.out.grown hg1 hR1;clear hby hR1 hg1 H;have hX:BelX W1.heap.size [ob] W1 (W1.setCell ⟨ob,22,none⟩ (.slice a1 y.length k1)):=(BelX.refl _ _ _).set _ _ _ (.inl (by simp));have hk:=h1.keep hX;have hq1:(W1.setCell ⟨ob,22,none⟩ (.slice a1 y.length k1)).heap[ob]?=some (gz (aI 115 o { o with so:=a1,sn:=y.length,sc:=k1 })).box:=(at_set h1.q).trans (by kernel_rfl);have aX:=h1.at_.kpn h1.ty hk;have yX:=h1.ty.kpn hk;have rX:=jw hrd1 hty1 hk.kb;have tX:=TyB.kpb hty1 hk.kb;have h2':TkM B g ob nb rb w T l8 tc (aI 115 o { o with so:=a1,sn:=y.length,sc:=k1 }) (dh 115 c { c with snap:=y }) s3 (W1.setCell ⟨ob,22,none⟩ (.slice a1 y.length k1)):=
  h1.box hX hq1 rfl rfl ⟨aX.rq,aX.rs,rX,aX.lg,aX.se,(show y.length<=1000000000 by omega),aX.lh⟩ ⟨h1.u.vi,h1.u.no,h1.u.cl,h1.u.nu,h1.u.at_,h1.u.cm,h1.u.bs,h1.u.nc,h1.u.rq,h1.u.log,h1.u.seen⟩ ⟨yX.rq,yX.rs,tX,yX.lo,yX.log,yX.ho⟩ ⟨h1.ft.rs,h1.ft.rl,h1.ft.lg,(show y.length<=4194304 by omega),h1.ft.hn,h1.ft.ln⟩
 have hS:StepX 115 s (aI 115 o { o with so:=a1,sn:=y.length,sc:=k1 }) (dh 115 c { c with snap:=y }) s3:=zH HT.out rfl;have HS:=hid hS;have H2:=hid h2';have cB:=(McAt.of h1.q).c22;have zf:=bV h1.q 22;clear hX hk hq1 aX yX rX tX hrd1 hty1 HT hS h2' h1;go_wp2_with fail;refine Met.intro ?_;apply hJ;exact⟨_,_,_,H2.out,HS.out⟩
theorem OW:wJ (.int .u8 15) 119 (fun _=>True):=by
 intro K J Q' B g ob nb rb w T l8 tc o c s V0 _ h hl;intros;rename_i h2 hQP hJ;conv=>arg 2;whnf
 have T3:=qg s 15 (by decide);have hby:=xq B g s 15 V0 h.rf hl;generalize RS.flag s 15=y at *;obtain⟨y,s3⟩:=y;dsimp only at T3 hby;have HT:=hid T3;have H:=hid h;clear T3 h;go_wp2_with fail;refine hby.mono ?_;rintro e W1 ⟨rfl,hR1,hg1⟩;have h1:=H.out.grown hg1 hR1;clear hby hR1 hg1 H;have hX:BelX W1.heap.size [ob] W1 (W1.setCell ⟨ob,25,none⟩ (.bool y)):=(BelX.refl _ _ _).set _ _ _ (.inl (by simp));have hk:=h1.keep hX;have hq1:(W1.setCell ⟨ob,25,none⟩ (.bool y)).heap[ob]?=some (gz (aI 119 o { o with wh:=y })).box:=(at_set h1.q).trans (by kernel_rfl);have aX:=h1.at_.kpn h1.ty hk;have yX:=h1.ty.kpn hk;have h2':TkM B g ob nb rb w T l8 tc (aI 119 o { o with wh:=y }) (dh 119 c c) s3 (W1.setCell ⟨ob,25,none⟩ (.bool y)):=
  h1.box hX hq1 rfl rfl ⟨aX.rq,aX.rs,aX.sn,aX.lg,aX.se,aX.ls,aX.lh⟩ ⟨h1.u.vi,h1.u.no,h1.u.cl,h1.u.nu,h1.u.at_,h1.u.cm,h1.u.bs,h1.u.nc,h1.u.rq,h1.u.log,h1.u.seen⟩ ⟨yX.rq,yX.rs,yX.sn,yX.lo,yX.log,yX.ho⟩ ⟨h1.ft.rs,h1.ft.rl,h1.ft.lg,h1.ft.sn,h1.ft.hn,h1.ft.ln⟩
 have hS:StepX 119 s (aI 119 o { o with wh:=y }) (dh 119 c c) s3:=xI HT.out rfl;have HS:=hid hS;have H2:=hid h2';have cB:=(McAt.of h1.q).c25;have zf:=bV h1.q 25;clear hX hk hq1 aX yX HT hS h2' h1;go_wp2_with fail;refine Met.intro ?_;apply hJ;exact⟨_,_,_,H2.out,HS.out⟩
theorem IU {s s1:RS}{n:Nat}(T:Took (fun n:Nat=>val 1 (aA n)) (fun n=>n<18446744073709551616) (fun n=>n<18446744073709551616) s n s1)(h:s1.bad=true\/¬(1<=n/\n<=12)) :
  (∀(n:Nat) (r:List UInt8),s.bad=false->1<=n->n<=12->s.l≠val 1 (aA n)++r)/\∀(W0:World) (m:MV) (d:MC) (r:List UInt8),s.bad=false->MayM W0 m d->s.l≠dO m d++r:=by
 have key:∀(k:Nat) (r:List UInt8),s.bad=false->1<=k->k<=12->s.l≠val 1 (aA k)++r:=by
  intro k r hb h1 h2 e;obtain⟨g1,-⟩:=iU T (fun z r r' _ _ e=>(ay (by decide) (by rw[ah];omega) (by rw[ah];omega) e).2) hb (z:=k) (by omega) e;rcases h with h | h
  ·rw[g1] at h;cases h
  obtain⟨-,e2,g⟩:=T.yes g1;have e3:=iF g (by omega) (ay (t:=1) (by decide) (by rw[ah];omega) (by rw[ah];omega) (e2.symm.trans e)).1;omega
 refine⟨key,fun W0 m d r hb hM e=>?_⟩;have hk:=hM.k;unfold dO at e;rw[List.append_assoc] at e;exact key m.k.toNat _ hb (by omega) (by omega) e
theorem KG (k:Int)(wh:Bool):(eH k wh).length=(lettersOf k wh).length:=by unfold eH;rw[List.length_map]
theorem Oh {wh:Bool}{j:Nat}{x:Int}(hx:(lettersOf 10 wh)[j]?=some x)(hj:j≠1):((jK x).toNat:Int)≠4:=by
 cases wh
 ·match j,hx with
  | 0,h=>cases h;decide
  | 1,h=>exact absurd rfl hj
  | 2,h=>cases h;decide
  | 3,h=>cases h;decide
  | 4,h=>cases h;decide
  | j+5,h=>cases h
 match j,hx with
 | 0,h=>cases h;decide
 | 1,h=>exact absurd rfl hj
 | 2,h=>cases h;decide
 | 3,h=>cases h;decide
 | 4,h=>cases h;decide
 | 5,h=>cases h;decide
 | 6,h=>cases h;decide
 | 7,h=>cases h;decide
 | 8,h=>cases h;decide
 | j+9,h=>cases h
theorem zt (B g:Nat)(s:RS)(w:World)(hr:RfS B g s w)(hB:B<=w.heap.size)(hl:s.l.length<=100000000):Calls Tryz.prog 54 #[.pointer (some ⟨g,0,none⟩)] w (vN B g s w):=by
 have hmo:Tryz.prog.follows .mixedOrders=true:=by kernel_rfl
 have hgw:=hr.lt;have hBg:=hr.le;have hb0:Below w.heap.size w (w.alloc (aj 0).box):=(Below.refl _ _).alloc (Nat.le_refl _) _;have k0:(w.alloc (aj 0).box).heap[w.heap.size]?=some (aj 0).box:=at_new _ _;have hz0:(w.alloc (aj 0).box).heap.size=w.heap.size+1:=by simp
 have hr0:=hr.later hb0;unfold aj bM bG zeroV MV.box MV.cells at hb0 k0 hz0 hr0;dsimp only at hb0 k0 hz0 hr0;go_in;go_upto_region 1 with fail;generalize hg:w.alloc _=W0 at *;have k0f:W0.heap[w.heap.size]?=some (aj 0).box:=k0;clear hg k0;have HZ0:=hid hz0;clear hz0;go_upto_region 2 with (refine zNr rfl ?_;go_simp);generalize hg:W0.alloc _=W1;have e1:W0.alloc (aj 0).box=W1:=hg;have hb1:Below W0.heap.size W0 W1:=by rw[<-e1];exact (Below.refl _ _).alloc (Nat.le_refl _) _
 have q1:W1.heap[W0.heap.size]?=some (aj 0).box:=by rw[<-e1];exact at_new _ _
 have hR1:=hr0.later hb1;have rz1:=ae k0f hb1;have X1:BelX w.heap.size [g] w W1:=(BelX.of_below hb0 [g]).trans ((BelX.of_below hb1 [g]).mono hb0.size (fun _ hk _=>hk));have hwo:w.heap.size<=W0.heap.size:=hb0.size;have hro:w.heap.size≠W0.heap.size:=by have:=HZ0.out;omega
 clear hg e1 hr0 k0f hb0 hb1 HZ0;obtain⟨ob,hob⟩:∃ob,W0.heap.size=ob:=⟨_,rfl⟩
 rw[hob] at q1 hwo hro;have HOB:=hid hob;rw[hob];obtain⟨rb,hrb⟩:∃rb,w.heap.size=rb:=⟨_,rfl⟩
 rw[hrb] at rz1 hro;rw[hrb];have HRB:=hid hrb;clear hob hrb;have T1:=iC s 1 (by decide);have hnum:=jD B g s 1 W1 hR1 hl;generalize RS.num s 1=nm at *;obtain⟨n,s1⟩:=nm;dsimp only at T1 hnum;have HT1:=hid T1;clear T1;go_wp2_with fail;refine hnum.mono ?_;rintro e W2 ⟨rfl,hR2,hg2⟩;have hgo:g≠ob:=by omega
 have hgr:g≠rb:=by have:=HRB.out;omega
 have q2:W2.heap[ob]?=some (aj 0).box:=(hg2.block _ (Array.getElem?_eq_some_iff.1 q1).1 (fun e=>hgo (Option.some.inj e).symm)).trans q1;have rz2:W2.heap[rb]?=some (aj 0).box:=(hg2.block _ (Array.getElem?_eq_some_iff.1 rz1).1 (fun e=>hgr (Option.some.inj e).symm)).trans rz1;have X2:BelX w.heap.size [g] w W2:=X1.trans ((BelX.of_grown hg2).mono X1.size (fun _ hk _=>hk));clear hnum hR1 hg2 q1 rz1 X1;by_cases hbad:s1.bad=true\/¬(1<=n/\n<=12)
 ·have HN:=hid (IU HT1.out hbad);have hfin:vN B g s w (.returned (.tuple #[(aj 0).val,.bool false])) (W2.setRow rb (aj 0).cells):=by
   have hX:BelX W2.heap.size [rb] W2 (W2.setRow rb (aj 0).cells):=wF (BelX.refl _ _ _) rb _ (by simp);exact⟨s1,hR2.belX hX (by simpa using hgr) (fun k hk=>by rw[List.mem_singleton.1 hk,<-HRB.out];exact hB) (fun k hk=>by rw[List.mem_singleton.1 hk];exact⟨_,rz2,TkM.not_u8 bD⟩),
    X2.trans (hX.mono X2.size (fun k hk hlt=>by have:=List.mem_singleton.1 hk;have:=HRB.out;omega)),.inr ⟨rfl,HN.out⟩⟩
  have f1:(W2.setRow rb (aj 0).cells).heap[rb]?=some (.cells (aj 0).cells 59):=bf rz2;have HF:=hid hfin;have cB:=hR2.cell1;obtain⟨l1,bad⟩:=s1;dsimp only at hbad cB;clear hfin HN X2 hR2;cases bad with
  | true=>
   clear hbad;go_wp2_with (first | (refine zLr rfl q2 ?_;go_simp) | (refine zSr rfl rz2 ?_;go_simp));exact bodyPost_ret (w:=W2.setRow rb (aj 0).cells) (az (i:=2) (j:=3) (t:=59) rfl rfl rfl (by kernel_rfl) (by kernel_rfl) f1) rfl HF.out
  | false=>
   by_cases h1:n<1
   ·have f2:decide ((n:Int)<1)=true:=decide_eq_true (by omega);clear hbad h1;go_wp2_with (first | (refine zLr rfl q2 ?_;go_simp) | (refine zSr rfl rz2 ?_;go_simp));exact bodyPost_ret (w:=W2.setRow rb (aj 0).cells) (az (i:=2) (j:=3) (t:=59) rfl rfl rfl (by kernel_rfl) (by kernel_rfl) f1) rfl HF.out
   have f2:decide ((n:Int)<1)=false:=decide_eq_false (by omega);have f3:decide ((12:Int)<(n:Int))=true:=decide_eq_true (by
    rcases hbad with h | h
    ·cases h
    omega)
   clear hbad h1;go_wp2_with (first | (refine zLr rfl q2 ?_;go_simp) | (refine zSr rfl rz2 ?_;go_simp));exact bodyPost_ret (w:=W2.setRow rb (aj 0).cells) (az (i:=2) (j:=3) (t:=59) rfl rfl rfl (by kernel_rfl) (by kernel_rfl) f1) rfl HF.out
 simp only[not_or,Bool.not_eq_true,Decidable.not_not] at hbad;obtain⟨hb1,hn1,hn2⟩:=hbad;have R0:=ReadM.first (o:=aj n) (c:=dK) (jV HT1.out (fun _ (h:_<=12)=>by omega) (fun _ h=>h)) ⟨hn1,hn2⟩;have HR0:=hid R0;have HKD:Hid (∃r,s.l=val 1 (aA n)++r):=hid ⟨s1.l,(HT1.out.yes hb1).2.1⟩;have cB:=hR2.cell1;rw[hb1] at cB;have f1:decide ((n:Int)<1)=false:=decide_eq_false (by omega);have f2:decide ((12:Int)<(n:Int))=false:=decide_eq_false (by omega);have hw1:IntKind.i64.wrap (n:Int)=(n:Int):=fP _ (by omega) (by omega);have hls1:s1.l.length<=100000000:=by have:=HT1.out.le;omega
 have c0:=(McAt.of q2).c0;have zf0:=bV q2 0;clear R0 hb1;go_upto_region 6 with fail;have q3:(W2.setCell ⟨ob,0,none⟩ (.int .i64 (n:Int))).heap[ob]?=some (aj n).box:=(at_set q2).trans (by kernel_rfl);have rz3:=ai (i:=0) (x:=.int .i64 (n:Int)) rz2 hro;have hX3:BelX W2.heap.size [ob] W2 (W2.setCell ⟨ob,0,none⟩ (.int .i64 (n:Int))):=(BelX.refl _ _ _).set _ _ _ (.inl (by simp));have hBo:B<=ob:=by omega
 have hR3:=hR2.belX hX3 (by simpa using hgo) (fun k hk=>by rw[List.mem_singleton.1 hk];exact hBo) (fun k hk=>by rw[List.mem_singleton.1 hk];exact⟨_,q2,TkM.not_u8 bD⟩);have X3:=X2.trans (hX3.mono X2.size (fun k hk hlt=>by have:=List.mem_singleton.1 hk;omega));generalize World.setCell W2 _ _=W3 at *;clear c0 zf0 q2 rz2 hX3 hR2 X2 cB f1 f2 hw1;go_upto_region 7 with fail;generalize hg:W3.alloc _=W4;have e4:W3.alloc (.cells (bT 0 0 0 0 0 0 0 0 0 0 0 0 0 0 0) 154)=W4:=hg;have hb4:Below W3.heap.size W3 W4:=by rw[<-e4];exact (Below.refl _ _).alloc (Nat.le_refl _) _
 have na4:W4.heap[W3.heap.size]?=some (.cells (bT 0 0 0 0 0 0 0 0 0 0 0 0 0 0 0) 154):=by rw[<-e4];exact at_new _ _
 have q4:=ae q3 hb4;have rz4:=ae rz3 hb4;have hR4:=hR3.later hb4;have X4:BelX w.heap.size [g] w W4:=X3.trans ((BelX.of_below hb4 [g]).mono X3.size (fun _ hk _=>hk));have hwn:w.heap.size<=W3.heap.size:=X3.size;clear hg e4 hb4 q3 rz3 hR3 X3;generalize W3.heap.size=nb at *;have c0:=(McAt.of q4).c0;go_wp2_with fail;refine (rO (n:Int) false W4).mono ?_;rintro e W5 ⟨T,tc,rfl,hT,hb5,hty⟩;have q5:=ae q4 hb5;have rz5:=ae rz4 hb5;have hR5:=hR4.later hb5;have na5:=(hb5.block _ (Array.getElem?_eq_some_iff.1 na4).1).trans na4;have X5:BelX w.heap.size [g] w W5:=X4.trans ((BelX.of_below hb5 [g]).mono X4.size (fun _ hk _=>hk));have z00:(0:Int)<=0/\(0:Int)<18446744073709551616:=by decide
 have hTk:TkM B g ob nb rb w T (eH n false) tc (aj n) dK s1 W5:=
  ⟨hR5,X5,q5,na5,jG W5 n,⟨z00,z00,z00,z00,z00,z00,z00,z00,⟨z00.1,z00.2,z00.1,z00.2⟩,fun _ hp=>(by cases hp),fun _ hp=>(by cases hp)⟩,
   ⟨⟨fun h=>absurd h (Nat.lt_irrefl 0),fun h=>absurd h (Nat.lt_irrefl 0),fun h=>absurd h (Nat.lt_irrefl 0)⟩,⟨fun h=>absurd h (Nat.lt_irrefl 0),fun _ hp=>(by cases hp),fun h=>absurd h (Nat.lt_irrefl 0)⟩,fun h=>absurd h (Nat.lt_irrefl 0),fun h=>absurd h (Nat.lt_irrefl 0),fun _ hp=>(by cases hp),fun h=>absurd h (Nat.lt_irrefl 0)⟩,
   z00,hT,hty,rz5,hgw,hBg,hwo,hwn,Nat.le_of_eq HRB.out,hro,P5 _⟩
 have hI0:TkI B g ob nb rb s w n false T tc 0 W5:=⟨⟨by omega,by omega⟩,(fun h=>by cases h),_,_,_,hTk,rfl,(by
   have h1:=HR0.out;have e:decide (((n:Nat):Int)≠10\/2<=0)=decide (n≠10):=by
    by_cases e:n=10
    ·rw[decide_eq_false (by omega),decide_eq_false (by omega)]
    rw[decide_eq_true (by omega),decide_eq_true (by omega)]
   rw[e];exact h1),(fun h=>by cases h),(fun x hx _=>nN _ _ _),⟨fun _=>⟨rfl,rfl,rfl⟩,fun _=>⟨rfl,rfl,rfl⟩⟩⟩
 have hls:∀s':RS,s'.l.length<=s.l.length->s'.l.length<=100000000:=fun s' h=>by omega
 have HLS:=hid hls;clear c0 q4 rz4 hR4 na4 X4 hb5 hT hty q5 rz5 hR5 na5 X5 hTk hls z00 HR0 hls1;go_wp2_with fail;go_loopw [7,8,9] (fun v7 v8 v9 wr=>∃(j:Nat) (wh:Bool) (T:Option Addr) (tc:Nat),j<=(eH n wh).length/\v7=.bool wh/\v8=.slice T (eH n wh).length tc/\v9=.int .i64 (j:Int)/\TkI B g ob nb rb s w n wh T tc j wr) (fun _ _ v9 _=>20-(intOf v9).toNat)
 case atStart=>exact⟨0,false,T,tc,Nat.zero_le _,rfl,rfl,rfl,hI0⟩
 case round=>
  obtain⟨j,wh,T,tc,hj,rfl,rfl,rfl,hI⟩:=hrel;obtain⟨o,c,s',hM,ho,hR,hwj,hz,hns⟩:=hI.ex;have hl15:=lS (n:Int) wh;have HTL:=hid (KG (n:Int) wh);have HR:=hid hR;have HZ:=hid hz;have HNS:=hid hns;have HWJ:=hid hwj;have HK:=hid hI.k;have HW:=hid hI.hw;have HO:=hid ho;clear hI0 hI hR hz hns hwj ho;by_cases hjn:j<(eH n wh).length
  ·obtain⟨x,hx⟩:∃x,(lettersOf n wh)[j]?=some x:=⟨_,List.getElem?_eq_getElem (by rw[<-HTL.out];exact hjn)⟩
   obtain⟨tb,to_,hT,htl,htc⟩:=hM.tags.some (by have:=hM.tags.le;omega);have htag:=htc j _ (D6 n wh j x hx);have HX:=hid hx;have hj20:j<20:=by have:=HTL.out;omega
   have hsl:=HLS.out s' HR.out.le;have hlen:(eH n wh).length<=15:=by have:=HTL.out;omega
   obtain⟨N,hN⟩:∃N,(eH n wh).length=N:=⟨_,rfl⟩
   have hcap:=hM.tags.le;subst hT;have HM:=hid hM;have hxm:=List.mem_of_getElem? hx;have hxa:=jv x hxm;have HXM:=hid (And.intro hxm hxa);rw[hN] at hjn hcap hlen;rw[hN];have HN:=hid hN;have i0:(0:Int)<=(j:Int):=by omega
   have i1:(j:Int)<(N:Int):=by omega
   obtain⟨tg,htg⟩:∃tg:Int,((jK x).toNat:Int)=tg:=⟨_,rfl⟩
   rw[htg] at htag;have HTG:=hid htg;clear hx htc hM hj hN hxm hxa hl15 htl htg
   go_upto_block 2 with fail
   go_cut [] from 53 to 183 (fun wk=>SwM B g ob nb rb w (some ⟨tb,to_,none⟩) (eH n wh) tc x o c s' wk)
   case first=>
    rename_i J K' h1 h2;by_cases hnum:x∈[118,110,102,99,117,97,109,98,111]
    ·obtain rfl:tg=((jK x).toNat:Int):=HTG.out.symm;apply O5 x (jK x).toNat hnum rfl K' J _ B g ob nb rb w _ _ tc o c s' wr trivial HM.out hsl
     ·exact h2
     ·exact fun _ _ _ _ _ h=>h
     intros;refine h1 _ _ ?_
     (repeat apply Exists.intro)
     exact⟨by assumption,rfl⟩
    have hnin:=sZ (kT n wh) HX.out;have hxa:=HXM.out.2;simp only[dJ,List.mem_cons,List.not_mem_nil,or_false] at hxa;rcases hxa with rfl|rfl|rfl|rfl|rfl|rfl|rfl|rfl|rfl|rfl|rfl|rfl|rfl|rfl|rfl
    case inr.inr.inr.inr.inr.inl=>
     obtain rfl:tg=7:=HTG.out.symm;apply OT K' J _ B g ob nb rb w _ _ tc o c s' wr trivial HM.out hsl
     ·exact h2
     ·exact fun _ _ _ _ _ h=>h
     intros;refine h1 _ _ ?_
     (repeat apply Exists.intro)
     exact⟨by assumption,rfl⟩
    case inr.inr.inr.inr.inr.inr.inl=>
     obtain rfl:tg=8:=HTG.out.symm;apply OX K' J _ B g ob nb rb w _ _ tc o c s' wr trivial HM.out hsl
     ·exact h2
     ·exact fun _ _ _ _ _ h=>h
     intros;refine h1 _ _ ?_
     (repeat apply Exists.intro)
     exact⟨by assumption,rfl⟩
    case inr.inr.inr.inr.inr.inr.inr.inr.inr.inr.inl=>
     obtain rfl:tg=12:=HTG.out.symm;apply OZ K' J _ B g ob nb rb w _ _ tc o c s' wr trivial HM.out hsl
     ·exact h2
     ·exact fun _ _ _ _ _ h=>h
     intros;refine h1 _ _ ?_
     (repeat apply Exists.intro)
     exact⟨by assumption,rfl⟩
    case inr.inr.inr.inr.inr.inr.inr.inr.inr.inr.inr.inl=>
     obtain rfl:tg=13:=HTG.out.symm;apply OE K' J _ B g ob nb rb w _ _ tc o c s' wr (HNS.out.1 hnin) HM.out hsl
     ·exact h2
     ·exact fun _ _ _ _ _ h=>h
     intros;refine h1 _ _ ?_
     (repeat apply Exists.intro)
     exact⟨by assumption,rfl⟩
    case inr.inr.inr.inr.inr.inr.inr.inr.inr.inr.inr.inr.inr.inl=>
     obtain rfl:tg=15:=HTG.out.symm;apply OW K' J _ B g ob nb rb w _ _ tc o c s' wr trivial HM.out hsl
     ·exact h2
     ·exact fun _ _ _ _ _ h=>h
     intros;refine h1 _ _ ?_
     (repeat apply Exists.intro)
     exact⟨by assumption,rfl⟩
    case inr.inr.inr.inr.inr.inr.inr.inr.inr.inr.inr.inr.inr.inr=>
     obtain rfl:tg=16:=HTG.out.symm;apply LV K' J _ B g ob nb rb w _ _ tc o c s' wr (HNS.out.2 hnin) HM.out hsl
     ·exact h2
     ·exact fun _ _ _ _ _ h=>h
     intros;refine h1 _ _ ?_
     (repeat apply Exists.intro)
     exact⟨by assumption,rfl⟩
    all_goals exact absurd (by decide) hnum
   case rest=>
    obtain⟨o2,c2,s2,hM2,hk2,hR2,hz2,hns2⟩:=TkI.next HO.out HR.out HWJ.out HZ.out HNS.out HX.out hcut;have c0:wc.cell? ⟨ob,0,none⟩=some (.int .i64 (n:Int)):=by rw[<-hk2];exact (McAt.of hM2.q).c0
    have HM2:=hid hM2;have HK2:=hid hk2;have HR2:=hid hR2;have HZ2:=hid hz2;have HNS2:=hid hns2;have hsl2:=HLS.out s2 hR2.le;clear hcut hM2 hk2 hR2 hz2 hns2;by_cases h10:n=10/\j=1
    ·obtain⟨e10,ej⟩:=h10;have f10:((n:Int)==10)=true:=by rw[e10];rfl
     have hwh:wh=false:=by
      cases hw:wh with
      | false=>rfl
      | true=>have:=HWJ.out hw;omega
     have f4:(tg==4)=true:=by
      have h1:=HX.out;rw[e10,ej,hwh] at h1;cases h1;rw[<-HTG.out];rfl
     subst hwh;have HJ:=hid (And.intro e10 ej);clear e10 ej;go_wp2_with fail;refine (Gx B g s2 wc HM2.out.rf hsl2).mono ?_;rintro e W7 ⟨rfl,hb7⟩;have hM7:=HM2.out.later hb7;have HM7:=hid hM7;have c7:W7.cell? ⟨ob,0,none⟩=some (.int .i64 (n:Int)):=by rw[<-HK2.out];exact (McAt.of hM7.q).c0
     have RC:ReadM s 10 (lettersOf 10 (decide (s2.tagR=10))) 2 true o2 c2 s2:=by
      have h1:=HR2.out;rw[HJ.out.1,HJ.out.2] at h1;have e:decide (((10:Nat):Int)≠10\/2<=1)=false:=by decide
      rw[e] at h1;exact h1.choose
     have HRC:=hid RC;clear RC hM7 hb7 c0;by_cases ht:s2.tagR=10
     ·have f5:((s2.tagR.toNat:Int)==10)=true:=by rw[ht];rfl
      have HT10:=hid ht;clear ht;go_wp2_with fail;refine (rO (n:Int) true W7).mono ?_;rintro e W8 ⟨T',tc',rfl,hT',hb8,hty'⟩;have HM8:=hid ((HM7.out.later hb8).tag hT' hty');clear hT' hty' hb8 c7;go_wp2_with fail;go_roundw
      case rel=>
       refine⟨j+1,true,T',tc',?_,rfl,rfl,by go_num,HK.out,fun _=>by rw[HJ.out.1];rfl,o2,c2,s2,HM8.out,HK2.out,?_,fun _=>by rw[HJ.out.2];omega,?_,?_⟩
       ·rw[HJ.out.1,HJ.out.2];decide
       ·rw[HJ.out.1,HJ.out.2];have h1:=HRC.out;rw[decide_eq_true HT10.out] at h1;exact h1
       ·have h1:=HZ2.out;rw[HJ.out.1,HJ.out.2] at h1 ⊢;exact h1
       have h1:=HNS2.out;rw[HJ.out.1,HJ.out.2] at h1 ⊢;exact h1
      case measure=>simp[intOf];omega
     have f5:((s2.tagR.toNat:Int)==10)=false:=by
      rw[beq_eq_false_iff_ne];intro e;exact ht (UInt8.toNat_inj.1 (show s2.tagR.toNat=10 by omega))
     have HT10:=hid ht;clear ht c7;go_wp2_with fail;go_roundw
     case rel=>
      refine⟨j+1,false,some ⟨tb,to_,none⟩,tc,by rw[HN.out];omega,rfl,by rw[HN.out],by go_num,HK.out,(fun h=>by cases h),o2,c2,s2,HM7.out,HK2.out,?_,(fun h=>by cases h),HZ2.out,HNS2.out⟩;rw[HJ.out.1,HJ.out.2];have h1:=HRC.out;rw[decide_eq_false HT10.out] at h1;exact h1
     case measure=>simp[intOf];omega
    have HR3:Hid (ReadM s n (lettersOf n wh) (j+1) (decide ((n:Int)≠10\/2<=j+1)) o2 c2 s2):=hid (by
     have h1:=HR2.out;by_cases e:(n:Int)≠10\/2<=j
     ·rw[decide_eq_true e] at h1;rw[decide_eq_true (by omega)];exact h1
     rw[decide_eq_false e] at h1;rw[decide_eq_false (by omega)];exact h1)
    by_cases e10:n=10
    ·have f10:((n:Int)==10)=true:=by rw[e10];rfl
     have f4:(tg==4)=false:=by
      rw[beq_eq_false_iff_ne,<-HTG.out];have h1:=HX.out;rw[e10] at h1;exact Oh h1 (fun e=>h10 ⟨e10,e⟩)
     clear h10 e10;go_wp2_with fail;go_roundw
     case rel=>exact⟨j+1,wh,some ⟨tb,to_,none⟩,tc,by rw[HN.out];omega,rfl,by rw[HN.out],by go_num,HK.out,HW.out,o2,c2,s2,HM2.out,HK2.out,HR3.out,fun h=>by have:=HWJ.out h;omega,HZ2.out,HNS2.out⟩
     case measure=>simp[intOf];omega
    have f10:((n:Int)==10)=false:=by rw[beq_eq_false_iff_ne];omega
    clear h10 e10;go_wp2_with fail;go_roundw
    case rel=>exact⟨j+1,wh,some ⟨tb,to_,none⟩,tc,by rw[HN.out];omega,rfl,by rw[HN.out],by go_num,HK.out,HW.out,o2,c2,s2,HM2.out,HK2.out,HR3.out,fun h=>by have:=HWJ.out h;omega,HZ2.out,HNS2.out⟩
    case measure=>simp[intOf];omega
  have hje:j=(eH n wh).length:=by omega
  have hn2:2<=(lettersOf n wh).length\/n≠10:=by
   by_cases e:n=10
   ·left;rw[e];cases wh<;>decide
   exact .inr e
  have hjl:j=(lettersOf n wh).length:=by rw[hje];exact HTL.out
  have hRd:ReadM s o.k (lettersOf n wh) (lettersOf n wh).length true o c s':=by
   have h1:=HR.out;rw[decide_eq_true (by omega),hjl] at h1;rw[HO.out];exact h1
  have hzz:∀x∈dJ,x∉lettersOf n wh->agree x o c (aj n) dK=true:=fun x hx hn=>HZ.out x hx (by rw[hjl,List.take_length];exact hn);have hfr0:(102:Int)∉lettersOf n wh->o.fr=0:=fun h=>of_decide_eq_true (hzz 102 (by decide) h);have hTM:=hRd.done (W':=wr) (whole:=wh) (by rw[HO.out]) (fun hne=>by
   have hw0:wh=false:=by
    cases hw:wh with
    | false=>rfl
    | true=>exact absurd (by rw[HO.out];exact HW.out hw) hne
   refine⟨hw0,of_decide_eq_true (hzz 119 (by decide) ?_)⟩;rw[hw0];rw[HO.out] at hne;have hk1:=HK.out;rcases (by omega:n=1\/n=2\/n=3\/n=4\/n=5\/n=6\/n=7\/n=8\/n=9\/n=11\/n=12) with rfl|rfl|rfl|rfl|rfl|rfl|rfl|rfl|rfl|rfl|rfl<;>decide) hfr0 hM.at_ hM.u hM.fr
  have hkp:wh=o.wh->Kept { o with fr:=o.fr % 7 } c:=fun hw x hx hn=>by
   have hn':x∉lettersOf n wh:=by
    have e:lettersOf o.k o.wh=lettersOf n wh:=by rw[HO.out,hw]
    rw[<-e];exact hn
   show agree x { o with fr:=o.fr % 7 } c (aj o.k) dK=true;rw[HO.out];by_cases e:x=102
   ·subst e;have:=hfr0 hn';exact decide_eq_true (show o.fr % 7=0 by rw[this];rfl)
   exact dZ (ng x 102 o { o with fr:=o.fr % 7 } c c hx (by decide) e) (hzz x hx hn')
  have HTM:=hid hTM;have HKP:=hid hkp;have HM:=hid hM;have cc4:wr.cell? ⟨nb,4,none⟩=some (.int .u64 o.fr):=iJ hM.na 4 _ rfl;have c25:=(McAt.of hM.q).c25;have hno:=hM.no.1;have hf0:=hM.fr.1;have HF1:=hid hM.fr.2;obtain⟨N,hN⟩:∃N,(eH n wh).length=N:=⟨_,rfl⟩
  rw[hN] at hje;rw[hN];have HN:=hid hN;subst hje;have hl20:j<=15:=by have:=HTL.out;omega
  clear hj hjn hn2 hjl hRd hzz hfr0 hTM hkp hM hN hl15;go_upto_region 40 with fail;go_cut [207] from 199 to 207 (fun v wk=>v=.bool (decide (7<=o.fr)||(wh != o.wh))/\TkM B g ob nb rb w T (eH n wh) tc o c s' wk)
  case first=>
   by_cases h7:7<=o.fr
   ·have f7:decide ((7:Int)<=o.fr)=true:=decide_eq_true h7;have HV:=hid (show (decide (7<=o.fr)||(wh != o.wh))=true by rw[f7];rfl);clear h7;go_wp2_with fail;go_meet
    case rel=>exact⟨by rw[HV.out],HM.out⟩
   have f7:decide ((7:Int)<=o.fr)=false:=decide_eq_false h7;have HV:=hid (show (decide (7<=o.fr)||(wh != o.wh))=(wh != o.wh) by rw[f7];rfl);clear h7;go_wp2_with fail;go_meet
   case rel=>exact⟨by rw[HV.out];rfl,HM.out⟩
  case rest=>
   obtain⟨rfl,hM'⟩:=hcut;obtain⟨b,hb⟩:∃b,(decide (7<=o.fr)||(wh != o.wh))=b:=⟨_,rfl⟩
   rw[hb];have HB:=hid hb;have hcB:=hM'.rf.cell1;have hzB:=hM'.rf.fz1;have HM':=hid hM';clear hb hM' cc4 c25;go_upto_if 207 with fail;go_cut [] from 208 to 210 (fun wk=>TkM B g ob nb rb w T (eH n wh) tc o c ⟨s'.l,s'.bad||b⟩ wk)
   case first=>
    cases b with
    | true=>
     have h5:=HM'.out.flag true;go_wp2_with fail;go_meet
     case rel=>rw[Bool.or_true];exact h5
    | false=>
     have h5:=HM'.out;go_wp2_with fail;go_meet
     case rel=>rw[Bool.or_false];exact h5
   case rest=>
    clear hcB hzB HM';have hr1:Int.tmod o.fr 7=o.fr % 7:=by rw[Int.tmod_eq_emod_of_nonneg hf0]
    have hr2:IntKind.u64.wrap (o.fr % 7)=o.fr % 7:=by rw[IntWalk.u64_in]<;>omega
    have hr3:IntKind.i64.wrap (o.fr % 7)=o.fr % 7:=fP _ (by omega) (by omega);go_upto_region 42 with fail;refine wp_region_held (S:=fun W=>W.heap[nb]?=some (.cells (jM o) 154)) hmo ?_;change wpAnyH _ _ _ _ _ _ _ _ (World.drew wc);have hd:Below wc.heap.size wc wc.drew:=(Below.refl _ _).drew;have hM4:=hcut.later hd;generalize World.drew wc=Y0 at *;have t0:=hM4.na;have b0:=hM4.q;have x0:BelX Y0.heap.size [ob] Y0 Y0:=BelX.refl _ _ _;have HM4:=hid hM4;clear hd hcut hM4;refine zHp 0 (.pointer (some ⟨nb,2,none⟩)) rfl t0 ?_;go_simp;refine zHa 1 (.int .u64 o.vi) rfl (by rintro w2 h2;have cc:w2.cell? ⟨nb,2,none⟩=some (.int .u64 o.vi):=iJ h2 2 _ rfl;go_simp) t0 ?_;go_simp;refine zHp 2 (.pointer (some ⟨nb,3,none⟩)) rfl t0 ?_;go_simp;refine zHa 3 (.int .u64 o.no) rfl (by rintro w2 h2;have cc:w2.cell? ⟨nb,3,none⟩=some (.int .u64 o.no):=iJ h2 3 _ rfl;go_simp) t0 ?_;go_simp;refine zHp 4 (.pointer (some ⟨nb,4,none⟩)) rfl t0 ?_;go_simp;refine zHa 5 (.int .u64 o.fr) rfl (by rintro w2 h2;have cc:w2.cell? ⟨nb,4,none⟩=some (.int .u64 o.fr):=iJ h2 4 _ rfl;go_simp) t0 ?_;go_simp;refine zHa 6 (.int .u64 (o.fr % 7)) rfl (by rintro w2 h2;go_simp) t0 ?_;go_simp;refine zHa 7 (.int .i64 (o.fr % 7)) rfl (by rintro w2 h2;go_simp) t0 ?_;go_simp;refine zHp 8 (.pointer (some ⟨nb,5,none⟩)) rfl t0 ?_;go_simp;refine zHa 9 (.int .u64 o.cl) rfl (by rintro w2 h2;have cc:w2.cell? ⟨nb,5,none⟩=some (.int .u64 o.cl):=iJ h2 5 _ rfl;go_simp) t0 ?_;go_simp;refine zHp 10 (.pointer (some ⟨nb,6,none⟩)) rfl t0 ?_;go_simp;refine zHa 11 (.int .u64 o.nu) rfl (by rintro w2 h2;have cc:w2.cell? ⟨nb,6,none⟩=some (.int .u64 o.nu):=iJ h2 6 _ rfl;go_simp) t0 ?_;go_simp;refine zHp 12 (.pointer (some ⟨nb,9,none⟩)) rfl t0 ?_;go_simp;refine zHa 13 (.int .u64 o.at_) rfl (by rintro w2 h2;have cc:w2.cell? ⟨nb,9,none⟩=some (.int .u64 o.at_):=iJ h2 9 _ rfl;go_simp) t0 ?_;go_simp;refine zHp 14 (.pointer (some ⟨nb,10,none⟩)) rfl t0 ?_;go_simp;refine zHa 15 (.int .u64 o.cm) rfl (by rintro w2 h2;have cc:w2.cell? ⟨nb,10,none⟩=some (.int .u64 o.cm):=iJ h2 10 _ rfl;go_simp) t0 ?_;go_simp;refine zHp 16 (.pointer (some ⟨nb,11,none⟩)) rfl t0 ?_;go_simp;refine zHa 17 (.int .u64 o.bs) rfl (by rintro w2 h2;have cc:w2.cell? ⟨nb,11,none⟩=some (.int .u64 o.bs):=iJ h2 11 _ rfl;go_simp) t0 ?_;go_simp;refine zHp 18 (.pointer (some ⟨nb,14,none⟩)) rfl t0 ?_;go_simp;refine zHa 19 (.int .u64 o.nc) rfl (by rintro w2 h2;have cc:w2.cell? ⟨nb,14,none⟩=some (.int .u64 o.nc):=iJ h2 14 _ rfl;go_simp) t0 ?_;go_simp;refine zHp 20 (.pointer (some ⟨ob,1,none⟩)) rfl t0 ?_;go_simp;refine zH1 21 rfl (fun K hK=>?_);have z:Y0.cell? ⟨ob,1,none⟩=some _:=dH b0 1 _ rfl;have fz:=bV b0 1;have b1:(Y0.setCell ⟨ob,1,none⟩ (.int .u64 o.vi)).heap[ob]?=some (MV.box { gz o with vi:=o.vi }):=(at_set b0).trans (by kernel_rfl);have t1:(Y0.setCell ⟨ob,1,none⟩ (.int .u64 o.vi)).heap[nb]?=some (.cells (jM o) 154):=ai t0 hno;have x1:BelX Y0.heap.size [ob] Y0 (Y0.setCell ⟨ob,1,none⟩ (.int .u64 o.vi)):=x0.set _ _ _ (.inl (by simp));go_simp;refine hK _ _ ⟨t1,?_⟩;clear hK K;generalize World.setCell Y0 _ _=Y1 at *;clear z fz b0 t0;refine zHp 22 (.pointer (some ⟨ob,2,none⟩)) rfl t1 ?_;go_simp;refine zH1 23 rfl (fun K hK=>?_);have z:Y1.cell? ⟨ob,2,none⟩=some _:=dH b1 2 _ rfl;have fz:=bV b1 2;have b2:(Y1.setCell ⟨ob,2,none⟩ (.int .u64 o.no)).heap[ob]?=some (MV.box { gz o with vi:=o.vi,no:=o.no }):=(at_set b1).trans (by kernel_rfl);have t2:(Y1.setCell ⟨ob,2,none⟩ (.int .u64 o.no)).heap[nb]?=some (.cells (jM o) 154):=ai t1 hno;have x2:BelX Y0.heap.size [ob] Y0 (Y1.setCell ⟨ob,2,none⟩ (.int .u64 o.no)):=x1.set _ _ _ (.inl (by simp));go_simp;refine hK _ _ ⟨t2,?_⟩;clear hK K;generalize World.setCell Y1 _ _=Y2 at *;clear z fz b1 t1 x1;refine zHp 24 (.pointer (some ⟨ob,3,none⟩)) rfl t2 ?_;go_simp;refine zH1 25 rfl (fun K hK=>?_);have z:Y2.cell? ⟨ob,3,none⟩=some _:=dH b2 3 _ rfl;have fz:=bV b2 3;have b3:(Y2.setCell ⟨ob,3,none⟩ (.int .i64 (o.fr % 7))).heap[ob]?=some (MV.box { gz o with vi:=o.vi,no:=o.no,fr:=o.fr % 7 }):=(at_set b2).trans (by kernel_rfl);have t3:(Y2.setCell ⟨ob,3,none⟩ (.int .i64 (o.fr % 7))).heap[nb]?=some (.cells (jM o) 154):=ai t2 hno;have x3:BelX Y0.heap.size [ob] Y0 (Y2.setCell ⟨ob,3,none⟩ (.int .i64 (o.fr % 7))):=x2.set _ _ _ (.inl (by simp));go_simp;refine hK _ _ ⟨t3,?_⟩;clear hK K;generalize World.setCell Y2 _ _=Y3 at *;clear z fz b2 t2 x2;refine zHp 26 (.pointer (some ⟨ob,4,none⟩)) rfl t3 ?_;go_simp;refine zH1 27 rfl (fun K hK=>?_);have z:Y3.cell? ⟨ob,4,none⟩=some _:=dH b3 4 _ rfl;have fz:=bV b3 4;have b4:(Y3.setCell ⟨ob,4,none⟩ (.int .u64 o.cl)).heap[ob]?=some (MV.box { gz o with vi:=o.vi,no:=o.no,fr:=o.fr % 7,cl:=o.cl }):=(at_set b3).trans (by kernel_rfl);have t4:(Y3.setCell ⟨ob,4,none⟩ (.int .u64 o.cl)).heap[nb]?=some (.cells (jM o) 154):=ai t3 hno;have x4:BelX Y0.heap.size [ob] Y0 (Y3.setCell ⟨ob,4,none⟩ (.int .u64 o.cl)):=x3.set _ _ _ (.inl (by simp));go_simp;refine hK _ _ ⟨t4,?_⟩;clear hK K;generalize World.setCell Y3 _ _=Y4 at *;clear z fz b3 t3 x3;refine zHp 28 (.pointer (some ⟨ob,5,none⟩)) rfl t4 ?_;go_simp;refine zH1 29 rfl (fun K hK=>?_);have z:Y4.cell? ⟨ob,5,none⟩=some _:=dH b4 5 _ rfl;have fz:=bV b4 5;have b5:(Y4.setCell ⟨ob,5,none⟩ (.int .u64 o.nu)).heap[ob]?=some (MV.box { gz o with vi:=o.vi,no:=o.no,fr:=o.fr % 7,cl:=o.cl,nu:=o.nu }):=(at_set b4).trans (by kernel_rfl);have t5:(Y4.setCell ⟨ob,5,none⟩ (.int .u64 o.nu)).heap[nb]?=some (.cells (jM o) 154):=ai t4 hno;have x5:BelX Y0.heap.size [ob] Y0 (Y4.setCell ⟨ob,5,none⟩ (.int .u64 o.nu)):=x4.set _ _ _ (.inl (by simp));go_simp;refine hK _ _ ⟨t5,?_⟩;clear hK K;generalize World.setCell Y4 _ _=Y5 at *;clear z fz b4 t4 x4;refine zHp 30 (.pointer (some ⟨ob,19,none⟩)) rfl t5 ?_;go_simp;refine zH1 31 rfl (fun K hK=>?_);have z:Y5.cell? ⟨ob,19,none⟩=some _:=dH b5 19 _ rfl;have fz:=bV b5 19;have b6:(Y5.setCell ⟨ob,19,none⟩ (.int .u64 o.at_)).heap[ob]?=some (MV.box { gz o with vi:=o.vi,no:=o.no,fr:=o.fr % 7,cl:=o.cl,nu:=o.nu,at_:=o.at_ }):=(at_set b5).trans (by kernel_rfl);have t6:(Y5.setCell ⟨ob,19,none⟩ (.int .u64 o.at_)).heap[nb]?=some (.cells (jM o) 154):=ai t5 hno;have x6:BelX Y0.heap.size [ob] Y0 (Y5.setCell ⟨ob,19,none⟩ (.int .u64 o.at_)):=x5.set _ _ _ (.inl (by simp));go_simp;refine hK _ _ ⟨t6,?_⟩;clear hK K;generalize World.setCell Y5 _ _=Y6 at *;clear z fz b5 t5 x5;refine zHp 32 (.pointer (some ⟨ob,20,none⟩)) rfl t6 ?_;go_simp;refine zH1 33 rfl (fun K hK=>?_);have z:Y6.cell? ⟨ob,20,none⟩=some _:=dH b6 20 _ rfl;have fz:=bV b6 20;have b7:(Y6.setCell ⟨ob,20,none⟩ (.int .u64 o.cm)).heap[ob]?=some (MV.box { gz o with vi:=o.vi,no:=o.no,fr:=o.fr % 7,cl:=o.cl,nu:=o.nu,at_:=o.at_,cm:=o.cm }):=(at_set b6).trans (by kernel_rfl);have t7:(Y6.setCell ⟨ob,20,none⟩ (.int .u64 o.cm)).heap[nb]?=some (.cells (jM o) 154):=ai t6 hno;have x7:BelX Y0.heap.size [ob] Y0 (Y6.setCell ⟨ob,20,none⟩ (.int .u64 o.cm)):=x6.set _ _ _ (.inl (by simp));go_simp;refine hK _ _ ⟨t7,?_⟩;clear hK K;generalize World.setCell Y6 _ _=Y7 at *;clear z fz b6 t6 x6;refine zHp 34 (.pointer (some ⟨ob,21,none⟩)) rfl t7 ?_;go_simp;refine zH1 35 rfl (fun K hK=>?_);have z:Y7.cell? ⟨ob,21,none⟩=some _:=dH b7 21 _ rfl;have fz:=bV b7 21;have b8:(Y7.setCell ⟨ob,21,none⟩ (.int .u64 o.bs)).heap[ob]?=some (MV.box { gz o with vi:=o.vi,no:=o.no,fr:=o.fr % 7,cl:=o.cl,nu:=o.nu,at_:=o.at_,cm:=o.cm,bs:=o.bs }):=(at_set b7).trans (by kernel_rfl);have t8:(Y7.setCell ⟨ob,21,none⟩ (.int .u64 o.bs)).heap[nb]?=some (.cells (jM o) 154):=ai t7 hno;have x8:BelX Y0.heap.size [ob] Y0 (Y7.setCell ⟨ob,21,none⟩ (.int .u64 o.bs)):=x7.set _ _ _ (.inl (by simp));go_simp;refine hK _ _ ⟨t8,?_⟩;clear hK K;generalize World.setCell Y7 _ _=Y8 at *;clear z fz b7 t7 x7;refine zHp 36 (.pointer (some ⟨ob,24,none⟩)) rfl t8 ?_;go_simp;refine zH1 37 rfl (fun K hK=>?_);have z:Y8.cell? ⟨ob,24,none⟩=some _:=dH b8 24 _ rfl;have fz:=bV b8 24;have b9:(Y8.setCell ⟨ob,24,none⟩ (.int .u64 o.nc)).heap[ob]?=some (MV.box { gz o with vi:=o.vi,no:=o.no,fr:=o.fr % 7,cl:=o.cl,nu:=o.nu,at_:=o.at_,cm:=o.cm,bs:=o.bs,nc:=o.nc }):=(at_set b8).trans (by kernel_rfl);have t9:(Y8.setCell ⟨ob,24,none⟩ (.int .u64 o.nc)).heap[nb]?=some (.cells (jM o) 154):=ai t8 hno;have x9:BelX Y0.heap.size [ob] Y0 (Y8.setCell ⟨ob,24,none⟩ (.int .u64 o.nc)):=x8.set _ _ _ (.inl (by simp));go_simp;refine hK _ _ ⟨t9,?_⟩;clear hK K;generalize World.setCell Y8 _ _=Y9 at *;clear z fz b8 t8 x8;refine wpAnyH_done (by kernel_rfl) ?_ _;have q9:Y9.heap[ob]?=some (MV.box { o with fr:=o.fr % 7 }):=b9;have hM4:=HM4.out;have hk:=hM4.keep x9;have aX:=hM4.at_.kpn hM4.ty hk;have yX:=hM4.ty.kpn hk;have hBr:B<=rb:=by have:=HRB.out;omega
    have rf9:=hM4.rf.belX x9 (by simpa using hgo) (fun k hk=>by rw[List.mem_singleton.1 hk];exact hBo) (fun k hk=>by rw[List.mem_singleton.1 hk];exact⟨_,hM4.q,TkM.not_u8 bD⟩);have rz9:=x9.at_ hM4.rz hM4.lt.2.2 (by simpa using hM4.ro);have X9:=hM4.X.trans (x9.mono hM4.X.size (fun k hk hlt=>by have:=List.mem_singleton.1 hk;have:=hM4.wo;omega));have hXr:BelX Y9.heap.size [rb] Y9 (Y9.setRow rb (MV.cells { o with fr:=o.fr % 7 })):=wF (BelX.refl _ _ _) rb _ (by simp);have hk2:KeepN B Y9 (Y9.setRow rb (MV.cells { o with fr:=o.fr % 7 })):=KeepN.of_belX hXr rz9 bD hBr;have hu:=hM4.u;have aZ:=MAt.kpn (m:={ o with fr:=o.fr % 7 }) (c:=c) ⟨aX.rq,aX.rs,aX.sn,aX.lg,aX.se,aX.ls,aX.lh⟩ ⟨yX.rq,yX.rs,yX.sn,yX.lo,yX.log,yX.ho⟩ hk2;have yZ:=MTyB.kpn (m:={ o with fr:=o.fr % 7 }) (c:=c) ⟨yX.rq,yX.rs,yX.sn,yX.lo,yX.log,yX.ho⟩ hk2;have fin:vN B g s w (.returned (.tuple #[MV.val { o with fr:=o.fr % 7 },.bool true])) (Y9.setRow rb (MV.cells { o with fr:=o.fr % 7 })):=
     ⟨⟨s'.l,s'.bad||b⟩,rf9.belX hXr (by simpa using hgr) (fun k hk=>by rw[List.mem_singleton.1 hk];exact hBr) (fun k hk=>by rw[List.mem_singleton.1 hk];exact⟨_,rz9,TkM.not_u8 bD⟩),
      X9.trans (hXr.mono X9.size (fun k hk hlt=>by have:=List.mem_singleton.1 hk;have:=HRB.out;omega)),
      .inl ⟨{ o with fr:=o.fr % 7 },c,rfl,aZ,⟨hu.vi,hu.no,hu.cl,hu.nu,hu.at_,hu.cm,hu.bs,hu.nc,hu.rq,hu.log,hu.seen⟩,yZ,by show 1<=o.k/\o.k<=12;rw[HO.out];exact HK.out,(fun hb=>HKP.out (by
       dsimp only at hb;rw[Bool.or_eq_false_iff] at hb;have h1:=HB.out;rw[hb.2,Bool.or_eq_false_iff] at h1;simpa using h1.2)),by rw[<-HB.out];exact HTM.out,⟨hM4.ft.rs,hM4.ft.rl,hM4.ft.lg,hM4.ft.sn,hM4.ft.hn,hM4.ft.ln⟩,by
       obtain⟨r,hr⟩:=HKD.out;exact⟨r,by show s.l=val 1 (aA o.k.toNat)++r;rw[HO.out,Int.toNat_natCast];exact hr⟩⟩⟩
    have HF:=hid fin;have f1:(Y9.setRow rb (MV.cells { o with fr:=o.fr % 7 })).heap[rb]?=some (.cells (MV.cells { o with fr:=o.fr % 7 }) 59):=bf rz9;clear fin hM4 hk aX yX rf9 X9 hXr hk2 hu aZ yZ b9 t9 x9 hr1 hr2 hr3;go_wp2_with (first | (refine zLr rfl q9 ?_;go_simp) | (refine zSr rfl rz9 ?_;go_simp));exact bodyPost_ret (w:=Y9.setRow rb (MV.cells { o with fr:=o.fr % 7 })) (az (i:=2) (j:=3) (t:=59) rfl rfl rfl (by kernel_rfl) (by kernel_rfl) f1) rfl HF.out
theorem Jv {W W':World}{b:List UInt8}{o m:MV}{c d:MC}{s':RS}(T:TookM ⟨b,false⟩ o c s')(hb:b.length<=8388608)(h:MAt W o c)(hu:U64M o c)(hk:1<=o.k/\o.k<=12)(hz:s'.bad=false->Kept o c)(hM:MayM W' m d)(e:dO m d=b):bZ o c=true:=by
 obtain⟨h1,h2⟩:=T.go rfl W' m d [] hM (by rw[List.append_nil];exact e.symm);obtain⟨-,e2,g,f0,f7⟩:=T.yes h1;dsimp only at e2;rw[h2,List.append_nil] at e2;obtain⟨k1,k2,k3,-⟩:=yE (r:=[]) (r':=[]) hM.at_ h hM.u hu hM.k hk (fun x hx=>(hM.may x hx).g hM.at_) g (by rw[e,e2]);have hz:=hz h1;have ln1:=h.lg.len;have ln2:=hM.at_.lg.len;have hn1:=h.se.1;have hn2:=hM.at_.se.1;rw[gB] at hn1 hn2;have hln:o.ln<=4096:=by
  by_cases hm:(108:Int)∈lettersOf o.k o.wh
  ·have a:=jl (show bu d.log c.log=true from k3 108 (by rw[k2];exact hm));have:=((hM.may 108 (by rw[k2];exact hm)).log rfl).2.2;omega
  have a:=jl (show bu c.log []=true from hz 108 (by decide) hm);simp at a;rw[a] at ln1;simp at ln1;omega
 have hhn:o.hn<=7:=by
  by_cases hm:(101:Int)∈lettersOf o.k o.wh
  ·have a:d.seen=c.seen:=of_decide_eq_true (show decide (d.seen=c.seen)=true from k3 101 (by rw[k2];exact hm));have:=(hM.may 101 (by rw[k2];exact hm)).seen rfl;rw[<-a] at hn1;omega
  have a:c.seen=[]:=of_decide_eq_true (show decide (c.seen=[])=true from hz 101 (by decide) hm);rw[a] at hn1;simp at hn1;omega
 exact (Bf hb hk h g ⟨f0,f7⟩ ⟨hln,hhn⟩ hz e2).1
def Ny (b:List UInt8)(w:World)(e:Ending)(w':World):Prop:=Below w.heap.size w w' /\
 ((∃(m:MV) (c:MC),e=.returned (.tuple #[m.val,.string ⟨#[]⟩])/\MAt w' m c/\U64M m c/\FitsM m c/\bZ m c=true/\dO m c=b) \/
 (e=.returned (.tuple #[(aj 0).val,.string sN])/\NoKind b) \/
 (e=.returned (.tuple #[(aj 0).val,.string jU])/\HasKind b/\jY b))
theorem Kt (b:List UInt8)(ao:Option Addr)(n cap:Nat)(w:World)(hr:Rd w 1 ao n cap (byV b))(hn:n<=8388608):Calls Tryz.prog 32 #[.slice ao n cap] w (Ny b w):=by
 have hbn:b.length=n:=by have:=hr.1;rw[aP] at this;omega
 subst hbn;have f0:decide ((8388608:Int)<(b.length:Int))=false:=decide_eq_false (by omega);have hb0:Below w.heap.size w (w.alloc (aj 0).box):=(Below.refl _ _).alloc (Nat.le_refl _) _;have k0:(w.alloc (aj 0).box).heap[w.heap.size]?=some (aj 0).box:=at_new _ _;have hr0:=hr.later hb0;have hlow:0<cap->∀a,ao=some a->a.block<w.heap.size:=fun h0 a ha=>hr.lt h0 a ha;unfold aj bM bG zeroV MV.box MV.cells at hb0 k0 hr0;dsimp only at hb0 k0 hr0;clear hr;go_in;go_upto_region 1 with fail;generalize hg:w.alloc _=W0 at *;have k0f:W0.heap[w.heap.size]?=some (aj 0).box:=k0;have HLT:=hid (Array.getElem?_eq_some_iff.1 k0f).1;clear hg k0;have hb1:Below W0.heap.size W0 (W0.alloc (.cells #[.slice ao b.length cap,.bool false] 119)):=(Below.refl _ _).alloc (Nat.le_refl _) _;have hR:=nI (B:=w.heap.size) hr0 hb0.size (fun h0 a ha=>.inl (hlow h0 a ha));go_upto_region 4 with fail;generalize hg:W0.alloc _=W1 at *;have k1:=ae k0f hb1;have bel1:=hb0.trans (hb1.mono hb0.size);have hz1:=hb1.size;clear hg k0f hb0 hr0;go_wp2_with fail;refine (zt w.heap.size W0.heap.size ⟨b,false⟩ W1 hR bel1.size (by dsimp only;omega)).mono ?_;rintro e W2 ⟨s',hR2,hX,hans⟩;have hgW:W0.heap.size<W1.heap.size:=hR.lt;have hB2:Below W0.heap.size W0 W2:=hb1.trans (lJ hX hb1.size (fun j hj=>by rw[List.mem_singleton.1 hj];exact Nat.le_refl _));have k2:W2.heap[w.heap.size]?=some (aj 0).box:=hX.at_ k1 (Array.getElem?_eq_some_iff.1 k1).1 (by have:=HLT.out;simp;omega);have bel2:Below w.heap.size w W2:=bel1.trans (lJ hX bel1.size (fun j hj=>by rw[List.mem_singleton.1 hj];have:=HLT.out;omega));obtain⟨g,hgg⟩:∃g,W0.heap.size=g:=⟨_,rfl⟩
 rw[hgg] at hR2;rw[hgg];clear hR hX hb1 hB2 k1 bel1 hz1 hgW hlow;rcases hans with ⟨m,c,rfl,a1,a2,ty2,a4,a5,a6,a7,a8⟩ | ⟨rfl,hno,-⟩
 ·have HKD:Hid (HasKind b):=hid (by
   obtain⟨r,hr⟩:=a8;exact⟨m.k.toNat,r,by omega,by omega,hr⟩)
  have HT:=hid a6;have HU:=hid a2;have HK4:=hid (And.intro a4 a5);have HFK:=hid a7;clear a2 a4 a5 a6 a7 a8;unfold MV.val MV.cells;go_upto_region 5 with (refine zNr rfl ?_;go_simp);generalize hg:W2.alloc _=W3;have e3:W2.alloc m.box=W3:=hg;have hb3:Below W2.heap.size W2 W3:=by rw[<-e3];exact (Below.refl _ _).alloc (Nat.le_refl _) _
  have q3:W3.heap[W2.heap.size]?=some m.box:=by rw[<-e3];exact at_new _ _
  have k3:=ae k2 hb3;have bel3:=bel2.trans (hb3.mono bel2.size);have a3:=a1.later hb3;have ty3:=ty2.kpn (KeepN.of_below hb3);have hR3:=hR2.later hb3;clear hg e3 hb3 k2 bel2 a1 hR2 ty2;generalize W2.heap.size=mb at *;have hB:=zN zt m c W3 a3 HU.out HFK.out.fits HFK.out.sn HFK.out.hn HFK.out.ln;unfold MV.val MV.cells at hB;go_wp2_with (refine wpList_load_row (ty:=59) q3 rfl rfl rfl (by kernel_rfl) (by kernel_rfl) ?_;go_simp);refine hB.mono ?_;rintro e W4 ⟨l4,ax4,cx4,ok4,rfl,-,hb4,hok4,-⟩;have k4:=ae k3 hb4;have q4:=ae q3 hb4;have bel4:=bel3.trans (hb4.mono bel3.size);have a4:=a3.later hb4;have ty4:=ty3.kpn (KeepN.of_below hb4);have hR4:=hR3.later hb4;have HOK:=hid hok4;clear hB hb4 k3 q3 bel3 a3 ty3 hR3 hok4;go_wp2_with fail;refine (kH _ g s' W4 hR4).mono ?_;rintro e _ ⟨rfl,rfl⟩;have f1:∀cs:Array Value,(W4.setRow w.heap.size cs).heap[w.heap.size]?=some (.cells cs 59):=fun cs=>bf k4;have f2:=fun cs=>below_setRow bel4 (Nat.le_refl _) cs;by_cases hd:s'.bad=false/\s'.l=[]
  ·have fd:decide (s'.bad=false/\s'.l=[])=true:=decide_eq_true hd;have HD:=hid hd;rw[fd];clear hd fd;cases ok4 with
   | true=>
    have hkk:KeepN w.heap.size W4 (W4.setRow w.heap.size m.cells):=KeepN.of_belX (wF (BelX.refl _ _ _) w.heap.size _ (by simp)) k4 bD (Nat.le_refl _);have HA:=hid (a4.kpn ty4 hkk);have e4:dO m c=b:=by
     obtain⟨-,e5,-⟩:=HT.out.yes HD.out.1;dsimp only at e5;rw[HD.out.2,List.append_nil] at e5;exact e5.symm
    have HE:=hid e4;clear hkk a4 ty4 e4;go_wp2_with (first | (refine wpList_load_row (ty:=59) q4 rfl rfl rfl (by kernel_rfl) (by kernel_rfl) ?_;go_simp) | (refine zSr rfl k4 ?_;go_simp));exact bodyPost_ret (w:=W4.setRow w.heap.size m.cells) (az (i:=2) (j:=3) (t:=59) rfl rfl rfl (by kernel_rfl) (by kernel_rfl) (f1 _)) rfl ⟨f2 _,.inl ⟨m,c,rfl,HA.out,HU.out,HFK.out.fits,HOK.out.symm,HE.out⟩⟩
   | false=>
    have HNO:Hid (jY b):=hid (fun X x d hM e=>by
     have h1:=Jv HT.out hn a4 HU.out HK4.out.1 HK4.out.2 hM e;have h2:=HOK.out;rw[h1] at h2;cases h2)
    go_wp2_with (refine zSr rfl k4 ?_;go_simp);exact bodyPost_ret (w:=W4.setRow w.heap.size (aj 0).cells) (az (i:=2) (j:=3) (t:=59) rfl rfl rfl (by kernel_rfl) (by kernel_rfl) (f1 _)) rfl ⟨f2 _,.inr (.inr ⟨rfl,HKD.out,HNO.out⟩)⟩
  have fd:decide (s'.bad=false/\s'.l=[])=false:=decide_eq_false hd;have HNO:Hid (jY b):=hid (fun X x d hM e=>hd (HT.out.go rfl X x d [] hM (by rw[List.append_nil];exact e.symm)));rw[fd];clear hd fd;go_wp2_with (refine zSr rfl k4 ?_;go_simp);exact bodyPost_ret (w:=W4.setRow w.heap.size (aj 0).cells) (az (i:=2) (j:=3) (t:=59) rfl rfl rfl (by kernel_rfl) (by kernel_rfl) (f1 _)) rfl ⟨f2 _,.inr (.inr ⟨rfl,HKD.out,HNO.out⟩)⟩
 have HNK:Hid (NoKind b):=hid (fun n r h1 h2=>hno n r rfl h1 h2);clear hno;unfold MV.val MV.cells;go_upto_region 5 with (refine zNr rfl ?_;go_simp);generalize hg:W2.alloc _=W3;have hb3:Below W2.heap.size W2 W3:=by rw[<-hg];exact (Below.refl _ _).alloc (Nat.le_refl _) _
 have k3:=ae k2 hb3;have bel3:=bel2.trans (hb3.mono bel2.size);have f1:∀cs:Array Value,(W3.setRow w.heap.size cs).heap[w.heap.size]?=some (.cells cs 59):=fun cs=>bf k3;have f2:=fun cs=>below_setRow bel3 (Nat.le_refl _) cs;clear hg hb3 k2 bel2 hR2;go_wp2_with (refine zSr rfl k3 ?_;go_simp);exact bodyPost_ret (w:=W3.setRow w.heap.size (aj 0).cells) (az (i:=2) (j:=3) (t:=59) rfl rfl rfl (by kernel_rfl) (by kernel_rfl) (f1 _)) rfl ⟨f2 _,.inr (.inl ⟨rfl,HNK.out⟩)⟩
end Go.Proofs.YtfmmandlmbcncaaGreatDoor.Msg
