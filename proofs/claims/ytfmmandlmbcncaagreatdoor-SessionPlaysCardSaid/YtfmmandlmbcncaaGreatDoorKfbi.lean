/-A part of the proof.-/
import Derived.Test.YtfmmandlmbcncaaGreatDoorKfbe
import Derived.Test.YtfmmandlmbcncaaGreatDoorKfbh
set_option maxHeartbeats 40000000
set_option maxRecDepth 100000
set_option linter.all false
namespace Go.Proofs.YtfmmandlmbcncaaGreatDoor
namespace Msg
open Go.RowKit Go.Lib Mem Tlv
variable{B B' sb sb':Nat}{S:SV}{W W' w:World}{c c':MC}{cl nd:Int}{cs:Array Value}{m m':MV}{t:TypeId}{to_ uo:Option Addr}{v v':QV}
theorem CE{r r':RV}{c c':OC}(h:uO r c=uO r' c'):dG r (opL r.op c)=dG r' (opL r'.op c'):=by
 unfold uO at h;simp only[ybU] at h;obtain⟨h1,h2,h3,h4,h5,h6,h7,h8,h9⟩:=h;have hl:∀l,dV r.op c l=dV r'.op c' l:=fun l=>by unfold dV;rw[h4,h5,h6,h7,h8,h9]
 unfold dG opL iK;rw[h1,h2,h3,show dV r.op c=dV r'.op c' from funext hl]
theorem Bl:∀ {l l':List EP},lT l=lT l'->dH l=dH l'
 | [],[],_=>rfl
 | [],_::_,h=>by simp[lT] at h
 | _::_,[],h=>by simp[lT] at h
 | p::l,q::m,h=>by
  simp only[lT,ybS,List.cons.injEq,ybU] at h;obtain⟨⟨h1,h2⟩,h3⟩:=h;rw[iU,iU,Bl (l:=l) (l':=m) h3];unfold eX;rw[h1,h2]
theorem MP{c c':QC}(h:vX v c=vX v' c'):dM v c=dM v' c':=by
 unfold vX at h;simp only[ybU] at h;obtain⟨h1,h2,h3,h4⟩:=h;unfold dM;rw[h1,h2,Bl h3,h4]
theorem CW:∀ {l l':List RP},uJ l=uJ l'->gq l=gq l'
 | [],[],_=>rfl
 | [],_::_,h=>by simp[uJ] at h
 | _::_,[],h=>by simp[uJ] at h
 | p::l,q::m,h=>by
  simp only[uJ,ybS,List.cons.injEq] at h;rw[mO,mO,CW (l:=l) (l':=m) h.2,CE h.1]
theorem DI{x:Int}(hx:x∈dF)(h:agree x m c m' c'=true):bW x m c=bW x m' c':=by
 simp only[dF,yas,yal,or_false] at hx;rcases hx with rfl|rfl|rfl|rfl|rfl|rfl|rfl|rfl|rfl|rfl|rfl|rfl|rfl|rfl|rfl
 ·show val 2 (au m.vi.toNat)=val 2 (au m'.vi.toNat);rw[show m.vi=m'.vi from yar h]
 ·show val 3 (au m.no.toNat)=val 3 (au m'.no.toNat);rw[show m.no=m'.no from yar h]
 ·show val 4 (au m.fr.toNat)=val 4 (au m'.fr.toNat);rw[show m.fr=m'.fr from yar h]
 ·show val 5 (au m.cl.toNat)=val 5 (au m'.cl.toNat);rw[show m.cl=m'.cl from yar h]
 ·show val 6 (au m.nu.toNat)=val 6 (au m'.nu.toNat);rw[show m.nu=m'.nu from yar h]
 ·show val 7 (dG m.rq (opL m.rq.op c.rq))=val 7 (dG m'.rq (opL m'.rq.op c'.rq));rw[CE (gy.1 h)]
 ·show val 8 (dM m.rs c.rs)=val 8 (dM m'.rs c'.rs);rw[MP (fK.1 h)]
 ·show val 9 (au m.at_.toNat)=val 9 (au m'.at_.toNat);rw[show m.at_=m'.at_ from yar h]
 ·show val 10 (au m.cm.toNat)=val 10 (au m'.cm.toNat);rw[show m.cm=m'.cm from yar h]
 ·show val 11 (au m.bs.toNat)=val 11 (au m'.bs.toNat);rw[show m.bs=m'.bs from yar h]
 ·show val 12 c.snap=val 12 c'.snap;rw[show c.snap=c'.snap from yar h]
 ·show val 13 (gq c.log)=val 13 (gq c'.log);rw[CW (gu.1 h)]
 ·show val 14 (au m.nc.toNat)=val 14 (au m'.nc.toNat);rw[show m.nc=m'.nc from yar h]
 ·show val 15 [if m.wh then 1 else 0]=val 15 [if m'.wh then 1 else 0];rw[show m.wh=m'.wh from yar h]
 show val 16 (df c.seen)=val 16 (df c'.seen);rw[show c.seen=c'.seen from yar h]
theorem Kq(h:aH m c m' c'=true):dL m c=dL m' c':=by
 obtain⟨hk,ha⟩:=same_iff.1 h;have hw:m.wh=m'.wh:=yar (ha 119 (by decide));unfold dL aS;rw[hk,hw,ycl,ycl]
 congr 2
 exact ycE (fun x hx=>DI (jb x hx) (ha x (jb x hx)))
theorem wY(h:MAt W m c)(hu:U64M m c)(hf:FitsM m c)(hm:bY m c=true):MayM W m c/\m.sn<=4194304/\∀x∈dF,x∉lettersOf m.k m.wh->agree x m c (ay m.k) dO=true:=by
 unfold bY at hm;rw[yaq] at hm;have hs:=(WellP.of hm.1).sn;obtain⟨h1,h2,h3⟩:=(qC h hs).1 hm.1;refine⟨FU h hu hf hs h1 h2,hs,fun x hx hn=>?_⟩;exact dU ((same_iff.1 h3).2 x hx) ((sZ m c _ (fun x hx=>jb x hx) x hx (ay m.k) dO).2 hn)
theorem AV(h:MAt W m c)(h':MAt W' m' c')(hu:U64M m c)(hu':U64M m' c')(hf:FitsM m c)(hf':FitsM m' c')(hm:bY m c=true)(hm':bY m' c'=true)(e:dL m c=dL m' c'):aH m c m' c'=true:=by
 obtain⟨M,-,z⟩:=wY h hu hf hm;obtain⟨M',-,z'⟩:=wY h' hu' hf' hm';obtain⟨k1,k2,k3,-⟩:=zU (r:=[]) (r':=[]) h h' hu hu' M.k M'.k (fun x hx=>(M.may x hx).g h) (fun x hx=>(M'.may x hx).g h') (by rw[e]);refine same_iff.2 ⟨k1,fun x hx=>?_⟩;by_cases hn:x∈lettersOf m.k m.wh
 ·exact k3 x hn
 have a:=z x hx hn;have b:=z' x hx (by rw[<-k2];exact hn);rw[<-k1] at b;exact dU a (iR b)
theorem MM(h:MAt W m c)(hu:U64M m c)(hf:FitsM m c)(hm:bY m c=true):¬lm (dL m c):=fun hn=>hn W m c (wY h hu hf hm).1 rfl
theorem Ol(s:RS)(t:UInt8)(most:Nat)(ht:0<t.toNat)(h:(s.numM t most).2.bad=true):(s.numM t most).1=0:=by
 unfold RS.numM RS.num at *;rcases jy s t ht with ⟨x,rest,e,-⟩ | ⟨s',e,-⟩
 ·rw[e] at h ⊢;dsimp only at h ⊢;by_cases h8:x.length=8
  ·simp only[if_pos h8] at h ⊢;by_cases hm:most<jG x 8
   ·rw[if_pos hm]
   rw[if_neg hm] at h;cases h
  simp only[if_neg h8] at h ⊢;simp
 rw[e];dsimp only;simp
theorem Nc(W:World)(k:Int):MTyP W (ay k) dO:=⟨⟨fun h=>absurd h (yaw 0),fun h=>absurd h (yaw 0),fun h=>absurd h (yaw 0)⟩,⟨fun h=>absurd h (yaw 0),fun _ hp=>(by cases hp),fun h=>absurd h (yaw 0)⟩,fun h=>absurd h (yaw 0),fun h=>absurd h (yaw 0),fun _ hp=>(by cases hp),fun h=>absurd h (yaw 0)⟩
theorem Ri(k:Int):U64M (ay k) dO:=by
 have z:(0:Int)<=0/\(0:Int)<18446744073709551616:=by decide
 exact⟨z,z,z,z,z,z,z,z,⟨z.1,z.2,z.1,z.2⟩,fun _ h=>absurd h yal,fun _ h=>absurd h yal⟩
theorem D8{rb:Nat}{o:MV}(h:W.heap[rb]?=some o.box):KeepM W (W.setRow rb cs):=KeepM.box h bJ (below_setRow (yaj rb W) (yag _) cs).size (fun k hk=>yba W rb k cs hk)
theorem Mc(b:List UInt8)(ao:Option Addr)(n cap:Nat)(w:World)(hr:Rd w 1 ao n cap (byV b))(hn:n<=8388608):Calls Tryz.prog 62 #[.slice ao n cap] w (Jz b w):=by
 have hbn:b.length=n:=by have:=hr.1;rw[aV] at this;omega
 have f0:decide ((8388608:Int)<(n:Int))=false:=yad (by omega);have hb0:=bN w (ay 0).box;have k0:=aN w (ay 0).box;have hr0:=hr.later hb0;unfold ay bG aG zeroV MV.box MV.cells at hb0 k0 hr0;dsimp only at hb0 k0 hr0;clear hr;go_in;go_upto_region 1 with fail;generalize hg:w.alloc _=W0 at *;have k0f:W0.heap[w.heap.size]?=some (ay 0).box:=k0;have HZ:=hid (lA k0f);clear hg k0;go_wp2_with fail;refine (pV ao n cap b W0 hr0 (by omega)).mono ?_;rintro e W1 ⟨g,rfl,hr1,hb1⟩;have hg0:W0.heap.size<=g:=by obtain⟨_,_,h⟩:=hr1;exact h.le
 have T1:=mG ⟨b,false⟩ 1 255 (by decide) (by decide);have hle1:=nT ⟨b,false⟩ 1 255;have hbd1:=Ol ⟨b,false⟩ 1 255 (by decide);have hnum1:=mW W0.heap.size g ⟨b,false⟩ 1 255 W1 hr1 (by dsimp only;omega) (by decide);unfold jm at hnum1;generalize RS.numM ⟨b,false⟩ 1 255=nm at *;obtain⟨n1,s1⟩:=nm;dsimp only at T1 hnum1 hle1 hbd1;have l1:=T1.le;dsimp only at l1;have HT1:=hid T1;have HB1:=hid hbd1;clear T1 hbd1;go_wp2_with fail;refine hnum1.mono ?_;rintro e W2 ⟨rfl,hr2,hg2⟩;have hb2:Below W0.heap.size W0 W2:=hb1.trans (below_of_grown hg2 hg0 (by obtain⟨_,_,h⟩:=hr1;exact h.lt));clear hnum1 hr1 hb1 hg2;go_upto_region 6 with (refine zNr rfl ?_;go_simp);generalize hg:W2.alloc _=W3;have e3:W2.alloc (ay (n1:Int)).box=W3:=hg;have hb3':Below W2.heap.size W2 W3:=bE e3
 have q3:W3.heap[W2.heap.size]?=some (ay (n1:Int)).box:=aE e3
 have hr3:=hr2.later hb3';have hb3:=hb2.trans (hb3'.mono hb2.size);have hob:W0.heap.size<=W2.heap.size:=hb2.size;have hgo:g≠W2.heap.size:=by obtain⟨_,_,h⟩:=hr2;have:=h.lt;omega
 have rz3:=af k0f hb3;have bel3:=hb0.trans (hb3.mono hb0.size);clear hg e3 hr2 hb2 hb3' hb3 k0f hb0 hr0;obtain⟨ob,hOB⟩:∃ob,W2.heap.size=ob:=⟨_,rfl⟩
 rw[hOB] at q3 hob hgo;rw[hOB];clear hOB;have c0:=(McAt.of q3).c0;have c0':W3.cell? ⟨ob,0,none⟩=some (.int .i64 (n1:Int)):=c0;clear c0;by_cases hk:1<=n1/\n1<=12
 ·have e0:(gm (n1:Int) false).isEmpty=false:=by
   have h:=G9 (k:=(n1:Int)) (by omega);cases hf:gm (n1:Int) false with
   | nil=>exact absurd hf h
   | cons=>rfl
  have hs1:s1.bad=false:=by
   cases h:s1.bad with
   | false=>rfl
   | true=>have:=HB1.out h;omega
  have HK:Hid (sG b):=hid (Nb HT1.out hs1 hk);have R0:=ReadM.first (o:=ay n1) (c:=dO) (kJ HT1.out (fun _ (h:_<=12)=>by omega) (fun _ (h:_<=255)=>by omega)) hk;have HR0:=hid R0;clear R0 hs1 HB1 HT1;go_wp2_with fail;refine (rP (n1:Int) false W3).mono ?_;rintro e W4 ⟨rfl,hb4⟩;have c4:W4.cell? ⟨ob,0,none⟩=some (.int .i64 (n1:Int)):=(McAt.of (af q3 hb4)).c0;clear c0';go_wp2_with fail;refine (yH (n1:Int) false W4).mono ?_;rintro e W5 ⟨bb,t0,t1,t2,t3,t4,t5,t6,t7,L0,cap0,rfl,hln,hrow,hall,hb5⟩;have hb35:=hb4.trans (hb5.mono hb4.size);have q5:=af q3 hb35;have hr5:=hr3.later hb35;have rz5:=af rz3 hb35;have bel5:=bel3.trans (hb35.mono bel3.size);have hI0:RdI W0.heap.size g ob w.heap.size b W5 n1 false (.slice (some ⟨bb,0,none⟩) L0 cap0) L0 0 W5:=⟨⟨by omega,by omega⟩,(fun h=>by cases h),⟨⟨bb,cap0,t0,t1,t2,t3,t4,t5,t6,t7,rfl,hln,hrow,hall⟩⟩,rz5,by have:=HZ.out;omega,
   ay n1,dO,s1,⟨hr5,BelX.refl _ _ _,q5,fE W5 n1,Ri n1,Nc W5 n1,(show (0:Int)<=0/\(0:Int)<7 by decide),fun _=>(show 0<=4096/\0<=7 by decide),by obtain⟨_,_,h⟩:=hr5;exact h.lt,(lA q5),hgo⟩,rfl,(by
    have h1:=HR0.out;have e:decide (((n1:Nat):Int)≠10\/2<=0)=decide (n1≠10):=by
     by_cases e:n1=10
     ·rw[yad (by omega),yad (by omega)]
     rw[yaa (by omega),yaa (by omega)]
    rw[e];exact h1),(fun h=>by cases h),(fun x hx _=>oQ _ _ _),⟨fun _=>⟨rfl,rfl,rfl⟩,fun _=>⟨rfl,rfl,rfl⟩⟩⟩
  have hgB:w.heap.size<=g:=by have:=HZ.out;omega
  have hoB:w.heap.size<=ob:=by have:=HZ.out;omega
  obtain⟨B,hB⟩:∃B,W0.heap.size=B:=⟨_,rfl⟩
  rw[hB] at hI0;obtain⟨rb,hrb⟩:∃rb,w.heap.size=rb:=⟨_,rfl⟩
  rw[hrb] at hI0;rw[hrb];have HRB:=hid hrb;clear hB hrb HZ hr3 rz3 bel3 q3 c4 hb4 hb5 hb35 q5 hr5 rz5 hrow hall hln hk e0 HR0 hg0 hob hgo;go_wp2_with fail;go_loopw [7,8,9] (fun v7 v8 v9 wr=>∃(j N:Nat) (wh:Bool),j<=N/\v8=.bool wh/\v9=.int .i64 (j:Int)/\RdI B g ob rb b W5 n1 wh v7 N j wr) (fun _ _ v9 _=>20-(intOf v9).toNat)
  case atStart=>exact⟨0,L0,false,yam _,rfl,rfl,hI0⟩
  case round=>
   obtain⟨j,N,wh,hj,rfl,rfl,hI⟩:=hrel;clear hI0;have hNl:=hI.fl.len;have hl15:=nC (n1:Int) wh;obtain⟨fb,fcap,t0,t1,t2,t3,t4,t5,t6,t7,rfl,hL,hrow,hall⟩:=hI.fl.ex;obtain⟨o,c,s',hM,ho,hR,hwj,hz,hns⟩:=hI.ex;have hrz:=hI.rz;have HNR:=hid hI.nr;have HKK:=hid hI.k;have HW:=hid hI.hw;have HR:=hid hR;have HZ:=hid hz;have HNS:=hid hns;have HWJ:=hid hwj;have HO:=hid ho;have HNL:=hid hNl;have hcap:=hrow.le;have hN15:N<=15:=by omega
   have hsl:s'.l.length<=100000000:=by have h1:=hR.le;dsimp only at h1;omega
   clear hI hR hz hns hwj ho hl15 hNl;by_cases hjn:j<N
   ·obtain⟨f,hf⟩:∃f,(ofL (n1:Int) wh t0 t1 t2 t3 t4 t5 t6 t7)[j]?=some f:=⟨_,yac (by rw[<-hL];exact hjn)⟩
    have hfm:=Az (yan hf);have hx:(lettersOf (n1:Int) wh)[j]?=some f.l:=by rw[<-og (n1:Int) wh t0 t1 t2 t3 t4 t5 t6 t7,ybh,hf];rfl
    obtain⟨tf,tc,hT⟩:=Oq f hfm;have hnin:=uf (lM (n1:Int) wh) hx;have hrg:=wU hrow hf;have cT:wr.cell? ⟨fb,j*4+3,none⟩=some (.func (.func tf) #[] tc):=by rw[<-hT.eq];exact hrg 3 _ rfl
    have hcall:=hT.calls B g ob W5 o c s' wr hall hM hsl (fun e=>HNS.out.1 (e▸hnin)) (fun e=>HNS.out.2 (e▸hnin));have hen:=hT.en;have i0:(0:Int)<=(j:Int):=by omega
    have i1:(j:Int)<(N:Int):=by omega
    have hN0:0<N:=by omega
    have n1':=Gx hrow (by omega) hM.rd;have n2':=AB hrow (by omega) hM.q;have HX:=hid hx;have HL:=hid hL;have HM:=hid hM;have HROW:=hid hrow;have HALL:=hid hall;have HF:=hid hf;have HRZ:=hid hrz;clear hx hL hM hrow hall hf hfm hT hnin hrg hrz;go_wp2_with fail;refine hcall.mono ?_;rintro e W6 ⟨rfl,hX6,m,d,s2,hM6,hS6⟩;have hrow6:=wW HROW.out hX6 (fun h0 y hy=>⟨HROW.out.lt h0 y hy,by cases hy;simp[n1',n2']⟩);have hall6:AllAt t0 t1 t2 t3 t4 t5 t6 t7 W6:=by
     obtain⟨_,_,hrr⟩:=HM.out.rd;exact HALL.out.belX hrr.at_ HM.out.q hX6
    have hrz6:W6.heap[rb]?=some (ay 0).box:=hX6.at_ HRZ.out (lA HRZ.out) (by have:=HNR.out;simp[this.1,this.2]);obtain⟨k6,R6,z6,ns6⟩:=ReadM.nextP HO.out HR.out HWJ.out HZ.out HNS.out HX.out hS6;have hsl2:s2.l.length<=100000000:=yae hS6.le hsl;have cK:W6.cell? ⟨ob,0,none⟩=some (.int .i64 (n1:Int)):=by rw[<-k6];exact (McAt.of hM6.q).c0
    have cL:W6.cell? ⟨fb,j*4+0,none⟩=some (.int .i32 f.l):=wU hrow6 HF.out 0 _ rfl;rw[Nat.add_zero] at cL;have hfl6:∀W',Below W6.heap.size W6 W'->FlsAt (n1:Int) wh (.slice (some ⟨fb,0,none⟩) N fcap) N W':=fun W' hb=>⟨⟨fb,fcap,t0,t1,t2,t3,t4,t5,t6,t7,rfl,HL.out,hrow6.later hb,hall6.later hb⟩⟩
    have HFL6:=hid hfl6;have HM6:=hid hM6;have HK6:=hid k6;have HR6:=hid R6;have HZ6:=hid z6;have HNS6:=hid ns6;have HRZ6:=hid hrz6;clear hrow6 hall6 hfl6 hM6 k6 R6 z6 ns6 hrz6 hX6 hS6 hcall cT hen HROW HALL HM HRZ HL HF n1' n2' hsl;generalize aJ f.l o m=o2 at *;generalize dA f.l c d=c2 at *;obtain⟨x,hfx⟩:∃x,f.l=x:=⟨_,rfl⟩
    rw[hfx] at cL HX;clear hfx;by_cases h10:n1=10/\j=1
    ·obtain⟨e10,ej⟩:=h10;have f10:((n1:Int)==10)=true:=by rw[e10];rfl
     have hwh:wh=false:=by
      cases hw:wh with
      | false=>rfl
      | true=>have:=HWJ.out hw;omega
     have f4:(x==102)=true:=by
      have h1:=HX.out;rw[e10,ej,hwh] at h1;cases h1;rfl
     subst hwh;have HJ:=hid (yax e10 ej);clear e10 ej;go_wp2_with fail;refine (Oo B g s2 W6 HM6.out.rd hsl2).mono ?_;rintro e W7 ⟨rfl,hb7⟩;rw[NS];have HM7:=hid (HM6.out.later hb7);have c7:W7.cell? ⟨ob,0,none⟩=some (.int .i64 (n1:Int)):=by rw[<-HK6.out];exact (McAt.of HM7.out.q).c0
     have HRZ7:=hid (af HRZ6.out hb7);have HFL7:=hid (HFL6.out W7 hb7);have RC:ReadM ⟨b,false⟩ 10 (lettersOf 10 (decide (s2.tagR=10))) 2 true o2 c2 s2:=by
      have h1:=HR6.out;rw[HJ.out.1,HJ.out.2] at h1;have e:decide (((10:Nat):Int)≠10\/2<=1)=false:=by decide
      rw[e] at h1;exact h1.choose
     have HRC:=hid RC;clear RC hb7 cK cL HRZ6 HFL6;by_cases ht:s2.tagR=10
     ·have f5:((s2.tagR.toNat:Int)==10)=true:=by rw[ht];rfl
      have HT10:=hid ht;clear ht;go_wp2_with fail;refine (yH (n1:Int) true W7).mono ?_;rintro e W8 ⟨bb8,u0,u1,u2,u3,u4,u5,u6,u7,L8,cap8,rfl,hln8,hrow8,hall8,hb8⟩;have hfl8:FlsAt (n1:Int) true (.slice (some ⟨bb8,0,none⟩) L8 cap8) L8 W8:=⟨⟨bb8,cap8,u0,u1,u2,u3,u4,u5,u6,u7,rfl,hln8,hrow8,hall8⟩⟩
      have HM8:=hid (HM7.out.later hb8);have HRZ8:=hid (af HRZ7.out hb8);have HFL8:=hid hfl8;have HL8:=hid hfl8.len;clear hln8 hrow8 hall8 hb8 hfl8 c7;go_wp2_with fail;go_roundw
      case rel=>
       refine⟨j+1,L8,true,?_,rfl,by go_num,HKK.out,fun _=>by rw[HJ.out.1];rfl,HFL8.out,HRZ8.out,HNR.out,o2,c2,s2,HM8.out,HK6.out,?_,fun _=>by rw[HJ.out.2];omega,?_,?_⟩
       ·rw[HL8.out,HJ.out.1,HJ.out.2];decide
       ·rw[HJ.out.1,HJ.out.2];have h1:=HRC.out;rw[yaa HT10.out] at h1;exact h1
       ·have h1:=HZ6.out;rw[HJ.out.1,HJ.out.2] at h1 ⊢;exact h1
       have h1:=HNS6.out;rw[HJ.out.1,HJ.out.2] at h1 ⊢;exact h1
      case measure=>simp[intOf];omega
     have f5:((s2.tagR.toNat:Int)==10)=false:=by
      rw[yap];intro e;exact ht (ybw.1 (show s2.tagR.toNat=10 by omega))
     have HT10:=hid ht;clear ht c7;go_wp2_with fail;go_roundw
     case rel=>
      refine⟨j+1,N,false,by omega,rfl,by go_num,HKK.out,(fun h=>by cases h),HFL7.out,HRZ7.out,HNR.out,o2,c2,s2,HM7.out,HK6.out,?_,(fun h=>by cases h),HZ6.out,HNS6.out⟩;rw[HJ.out.1,HJ.out.2];have h1:=HRC.out;rw[yad HT10.out] at h1;exact h1
     case measure=>simp[intOf];omega
    have HI:Hid (RdI B g ob rb b W5 n1 wh (.slice (some ⟨fb,0,none⟩) N fcap) N (j+1) W6):=hid ⟨HKK.out,HW.out,HFL6.out W6 (yaj _ _),HRZ6.out,HNR.out,o2,c2,s2,HM6.out,HK6.out,by
      have h1:=HR6.out;by_cases e:(n1:Int)≠10\/2<=j
      ·rw[yaa e] at h1;rw[yaa (by omega)];exact h1
      rw[yad e] at h1;rw[yad (by omega)];exact h1,fun h=>by have:=HWJ.out h;omega,HZ6.out,HNS6.out⟩
    by_cases e10:n1=10
    ·have f10:((n1:Int)==10)=true:=by rw[e10];rfl
     have f4:(x==102)=false:=by
      rw[yap];have h1:=HX.out;rw[e10] at h1;exact PW h1 (fun e=>h10 ⟨e10,e⟩)
     clear h10 e10;go_wp2_with fail;go_roundw
     case rel=>exact⟨j+1,N,wh,by omega,rfl,by go_num,HI.out⟩
     case measure=>simp[intOf];omega
    have f10:((n1:Int)==10)=false:=by rw[yap];omega
    clear h10 e10;go_wp2_with fail;go_roundw
    case rel=>exact⟨j+1,N,wh,by omega,rfl,by go_num,HI.out⟩
    case measure=>simp[intOf];omega
   have hjN:j=N:=by omega
   have hn2:2<=(lettersOf (n1:Int) wh).length\/n1≠10:=by
    by_cases e:n1=10
    ·left;rw[e];cases wh<;>decide
    exact .inr e
   have hjl:j=(lettersOf (n1:Int) wh).length:=by rw[hjN];exact HNL.out
   have hRd:ReadM ⟨b,false⟩ o.k (lettersOf o.k wh) (lettersOf o.k wh).length true o c s':=by
    have h1:=HR.out;rw[yaa (by omega),hjl] at h1;rw[HO.out];exact h1
   have hfin:=Ny (W:=wr) (by omega) (by rw[HO.out];exact HKK.out) hRd (by rw[HO.out];exact HW.out) hM.at_ hM.u hM.fr hM.cnt (fun x hx hn=>by
    rw[HO.out] at hn ⊢;exact HZ.out x hx (by rw[hjl,ybG];exact hn))
   have HFIN:=hid hfin;have HM:=hid hM;have hbelw:Below w.heap.size w wr:=bel5.trans ((mV hM.X bel5.size (fun k hk=>by simp only[yas,yal,or_false] at hk;rcases hk with rfl|rfl<;>omega)));have hq:=hM.q;subst hjN;have c25:=(McAt.of hM.q).c25;clear hj hjn hn2 hjl hRd hfin hM hrow hall hL HR HZ HNS HWJ HNL hcap;go_wp2_with fail;refine (qB B g s' wr HM.out.rd).mono ?_;rintro e W9 ⟨rfl,rfl⟩;by_cases he:s'.bad=true\/0<s'.l.length
   ·have e4:s'.ends=4:=if_pos he;have hno:=hid (HFIN.out.2 (he.imp id (fun h=>.inl (fun e=>by rw[e] at h;exact absurd h (yaw 0)))));rw[e4];clear he;have hwr:=vJ jJ 4 wr;unfold jJ at hwr;go_wp2_with fail;refine hwr.mono ?_;rintro e W8 ⟨p,rfl,hb8,hp,q8⟩;have k8:=af hrz hb8;have bel8:=hbelw.trans (hb8.mono hbelw.size);have f1:(W8.setRow rb (ay 0).cells).heap[rb]?=some (.cells (ay 0).cells 59):=aO k8;have f2:=below_setRow bel8 (yaR HRB.out) (ay 0).cells;have f3:=(yba W8 rb p (ay 0).cells (by have:=lA hrz;omega)).trans q8;have hle:w.heap.size<=p:=yae hbelw.size hp;unfold MV.val MV.cells;go_wp2_with (refine zSr rfl k8 ?_;go_simp);exact yay (w:=W8.setRow rb (ay 0).cells) (aj (i:=2) (j:=3) (t:=59) rfl rfl rfl (by kernel_rfl) (by kernel_rfl) f1) rfl (.inr ⟨jJ,⟨p,rfl,f2,hle,f3⟩,.inr ⟨rfl,HK.out,hno.out⟩⟩)
   have e4:s'.ends=0:=if_neg he;have hs1:s'.bad=false:=by
    cases h:s'.bad with
    | true=>exact absurd (.inl h) he
    | false=>rfl
   have hs2:s'.l=[]:=yat (by
    have:¬0<s'.l.length:=fun h=>he (.inr h);omega)
   rw[e4];have HS1:=hid hs1;have HS2:=hid hs2;clear he hs1 hs2;obtain⟨ow,how⟩:∃ow,o.wh=ow:=⟨_,rfl⟩
   rw[how] at c25;have HOW:=hid how;clear how;obtain⟨bb,hbb⟩:∃bb,(wh != ow)=bb:=⟨_,rfl⟩
   have hne:∀(w:World),Sem.run Tryz.prog (binOp BinOp.neq 4 (.bool wh) (.bool ow)) w=.ok (.bool bb) w:=fun _=>by rw[<-hbb];cases wh<;>cases ow<;>kernel_rfl
   have HBB:=hid hbb;clear hbb;cases bb with
   | false=>
    obtain⟨hmay,hfit,hml⟩:=HFIN.out.1 HS1.out HS2.out (by have:=HBB.out;rw[HOW.out];simpa using this);have hme:=Ib o c wr HM.out.at_ HM.out.u hfit;rw[hmay] at hme;unfold MV.val MV.cells at hme;have HMAY:=hid hmay;have HFIT:=hid hfit;have HML:=hid hml;clear hmay hfit hml;go_wp2_with (refine wpList_load_row (ty:=59) hq rfl rfl rfl (by kernel_rfl) (by kernel_rfl) ?_;go_simp);refine hme.mono ?_;rintro e W8 ⟨rfl,hb8⟩;have k8:=af hrz hb8;have q8:=af hq hb8;have bel8:=hbelw.trans (hb8.mono hbelw.size);have hM8:=HM.out.later hb8;have hkk:=D8 (cs:=o.cells) k8;have f1:(W8.setRow rb o.cells).heap[rb]?=some (.cells o.cells 59):=aO k8;have f2:=below_setRow bel8 (yaR HRB.out) o.cells;have f3:=hM8.at_.kpm hM8.ty hkk;have f4:=hM8.ty.kpm hkk;have HF:=hid (yax hM8.u (yax f2 (yax f3 f4)));clear hme hM8 hkk f2 f3 f4 c25 hne;go_wp2_with (first | (refine wpList_load_row (ty:=59) q8 rfl rfl rfl (by kernel_rfl) (by kernel_rfl) ?_;go_simp) | (refine zSr rfl k8 ?_;go_simp));exact yay (w:=W8.setRow rb o.cells) (aj (i:=2) (j:=3) (t:=59) rfl rfl rfl (by kernel_rfl) (by kernel_rfl) f1) rfl (.inl ⟨o,c,rfl,HF.out.2.1,HF.out.2.2.1,HF.out.1,HF.out.2.2.2,HFIT.out,HMAY.out,HML.out⟩)
   | true=>
    have hno:=hid (HFIN.out.2 (.inr (.inr (by have:=HBB.out;rw[HOW.out];simpa using this))));have hwr:=vJ jJ 4 wr;unfold jJ at hwr;go_wp2_with fail;refine hwr.mono ?_;rintro e W8 ⟨p,rfl,hb8,hp,q8⟩;have k8:=af hrz hb8;have bel8:=hbelw.trans (hb8.mono hbelw.size);have f1:(W8.setRow rb (ay 0).cells).heap[rb]?=some (.cells (ay 0).cells 59):=aO k8;have f2:=below_setRow bel8 (yaR HRB.out) (ay 0).cells;have f3:=(yba W8 rb p (ay 0).cells (by have:=lA hrz;omega)).trans q8;have hle:w.heap.size<=p:=yae hbelw.size hp;unfold MV.val MV.cells;go_wp2_with (refine zSr rfl k8 ?_;go_simp);exact yay (w:=W8.setRow rb (ay 0).cells) (aj (i:=2) (j:=3) (t:=59) rfl rfl rfl (by kernel_rfl) (by kernel_rfl) f1) rfl (.inr ⟨jJ,⟨p,rfl,f2,hle,f3⟩,.inr ⟨rfl,HK.out,hno.out⟩⟩)
 have e0:(gm (n1:Int) false).isEmpty=true:=by rw[I7 (by omega)];rfl
 have hno:=hid (Qo HT1.out (.inr hk));clear hk HB1 HT1;go_wp2_with fail;refine (rP (n1:Int) false W3).mono ?_;rintro e W4 ⟨rfl,hb4⟩;have hwr:=vJ qK 4 W4;unfold qK at hwr;have k4:=af rz3 hb4;have bel4:=bel3.trans (hb4.mono bel3.size);go_wp2_with fail;refine hwr.mono ?_;rintro e W8 ⟨p,rfl,hb8,hp,q8⟩;have k8:=af k4 hb8;have bel8:=bel4.trans (hb8.mono bel4.size);have f1:(W8.setRow w.heap.size (ay 0).cells).heap[w.heap.size]?=some (.cells (ay 0).cells 59):=aO k8;have f2:=below_setRow bel8 (yag _) (ay 0).cells;have f3:=(yba W8 w.heap.size p (ay 0).cells (by have:=lA k4;omega)).trans q8;have hle:w.heap.size<=p:=yae bel4.size hp;unfold MV.val MV.cells;go_wp2_with (refine zSr rfl k8 ?_;go_simp);exact yay (w:=W8.setRow w.heap.size (ay 0).cells) (aj (i:=2) (j:=3) (t:=59) rfl rfl rfl (by kernel_rfl) (by kernel_rfl) f1) rfl (.inr ⟨qK,⟨p,rfl,f2,hle,f3⟩,.inl ⟨rfl,hno.out⟩⟩)
def ErrG (w:World):Prop:=w.cell? ⟨0,0,none⟩=some (.iface 187 (.agg #[.pointer (some ⟨2,80,none⟩)]))
theorem ErrG.below{w':World}(h:ErrG w)(hb:Below w.heap.size w w'):ErrG w':=(yaK (hb.block 0 (yaO w _ h))).trans h
theorem NI{P:Program}{ops:Array Oper}{o:Oper}{a:Act}{K:Act->World->Prop}{Q:Exit->Act->World->Prop}{E:Prop}{ty:TypeId}{p v:Operand}{g:Nat}{old cells:Array Value}
  (hgd:o.guard=none) (hop:o.op=.store ty p v) (hg:w.heap[g]?=some (.cells old t (0,0))) (hp:a.eval p=.pointer (some ⟨g,0,none⟩)) (hv:a.eval v=.agg cells) (hi:(P.info? ty).map (·.size)=some cells.size)
  (ho:old.size=cells.size) (h1:cells.all (·.oneCell')=true) (hn:K (a.put o.dst undef) (w.setRow g cells)) :
  if Region.wanted o (yielded ops a.tmps)=true then Oper.wp P o a w K Q else E:=by
 have hw:Region.wanted o (yielded ops a.tmps)=true:=by simp[Region.wanted,hgd]
 rw[if_pos hw];have hl:(Instr.storeAt ty (.pointer (some ⟨g,0,none⟩)) (.agg cells)).run P w=.ok () (w.setRow g cells):=by
  simp only[Instr.storeAt,Instr.sureAddr,yaY,ybp,Result.andThen];exact run_storeVar_row w g t ty old cells hg hi ho h1
 have:(execOp a.eval o).run P w=.ok .skip (w.setRow g cells):=by
  unfold execOp;rw[hop];simp only[hp,hv,yaY,hl,Result.andThen,ybp]
 unfold Oper.wp;rw[this];exact hn
def NM (b:List UInt8)(w:World)(e:Ending)(w':World):Prop:=Below w.heap.size w w' /\
 ((∃(m:MV) (c:MC),e=.returned (.tuple #[m.val,.int .i64 0])/\MAt w' m c/\U64M m c/\MTyP w' m c/\FitsM m c/\bY m c=true/\dL m c=b)\/(e=.returned (.tuple #[(ay 0).val,.int .i64 4])/\lm b))
def OfC (rb tb p:Nat)(W:World):Prop:=W.heap[rb]?=some (ay 0).box/\W.cell? ⟨tb,0,none⟩=some (.pointer (some ⟨p,0,none⟩))/\W.cell? ⟨p,1,none⟩=some (.int .i64 4)
theorem QG(b:List UInt8)(ao:Option Addr)(n cap:Nat)(w:World)(hr:Rd w 1 ao n cap (byV b))(hn:n<=8388608)(hE:ErrG w):Calls Tryz.prog 29 #[.slice ao n cap] w (NM b w):=by
 have hmo:=hmO
 have hb0:=bN w (ay 0).box;have k0:=aN w (ay 0).box;have hr0:=hr.later hb0;have hE0:=hE.below hb0;unfold ay bG aG zeroV MV.box MV.cells at hb0 k0 hr0 hE0;dsimp only at hb0 k0 hr0 hE0;clear hr hE;go_in;go_upto_region 1 with fail;generalize hg:w.alloc _=W0 at *;have k0f:W0.heap[w.heap.size]?=some (ay 0).box:=k0;have HLT:=hid (lA k0f);clear hg k0;have HE0:=hid hE0;clear hE0;go_wp2_with fail;refine (Mc b ao n cap W0 hr0 hn).mono ?_;rintro e W1 (⟨m,c,rfl,hb1,hat,hu,hty,hfit,hmay,hml⟩ | ⟨what,⟨p,rfl,hb1,hp,q1⟩,hwhat⟩)
 ·have k1:=af k0f hb1;have bel1:=hb0.trans (hb1.mono hb0.size);clear hb0 hb1 k0f hr0 HE0;have HU:=hid (yax hu (yax hfit (yax hmay hml)));clear hu hfit hmay hml;unfold MV.val MV.cells;go_upto_region 2 with (refine zNr rfl ?_;go_simp);generalize hg:W1.alloc _=W2;have e2:W1.alloc m.box=W2:=hg;have hb2:=bE e2
  have q2:W2.heap[W1.heap.size]?=some m.box:=aE e2
  have k2:=af k1 hb2;have bel2:=bel1.trans (hb2.mono bel1.size);have hat2:=hat.later hb2;have hty2:=hty.kpm (KeepM.of_below hb2);clear hg e2 hb2 k1 bel1 hat hty;generalize W1.heap.size=mb at *;go_upto_region 3 with fail;generalize hg:W2.alloc _=W3;have hb3:=bE hg
  have k3:=af k2 hb3;have q3:=af q2 hb3;have bel3:=bel2.trans (hb3.mono bel2.size);have hat3:=hat2.later hb3;have hty3:=hty2.kpm (KeepM.of_below hb3);clear hg hb3 k2 q2 bel2 hat2 hty2;go_wp2_with fail;refine (Err.is_nil 3 W3).mono ?_;rintro e W4 ⟨rfl,rfl⟩;go_wp2_with fail;refine (Err.as_nil _ W4).mono ?_;rintro e W5 ⟨rfl,rfl⟩;have hkk:=D8 (cs:=m.cells) k3;have f1:(W5.setRow w.heap.size m.cells).heap[w.heap.size]?=some (.cells m.cells 59):=aO k3;have HF:=hid (yax (below_setRow bel3 (yag _) m.cells) (yax (hat3.kpm hty3 hkk) (hty3.kpm hkk)));clear hat3 hty3 hkk bel3;go_wp2_with (first | (refine wpList_load_row (ty:=59) q3 rfl rfl rfl (by kernel_rfl) (by kernel_rfl) ?_;go_simp) | (refine zSr rfl k3 ?_;go_simp));exact yay (w:=W5.setRow w.heap.size m.cells) (aj (i:=2) (j:=3) (t:=59) rfl rfl rfl (by kernel_rfl) (by kernel_rfl) f1) rfl ⟨HF.out.1,.inl ⟨m,c,rfl,HF.out.2.1,HU.out.1,HF.out.2.2,HU.out.2.1,HU.out.2.2.1,HU.out.2.2.2⟩⟩
 have k1:=af k0f hb1;have bel1:=hb0.trans (hb1.mono hb0.size);have hE1:=HE0.out.below hb1;have HNO:Hid (lm b):=hid (by
  rcases hwhat with ⟨-,h⟩ | ⟨-,-,h⟩
  ·exact h.msg
  exact h)
 have hpw:w.heap.size<p:=by have:=HLT.out;omega
 clear hb0 hb1 k0f hr0 HE0 hwhat hp;unfold MV.val MV.cells;go_upto_region 2 with (refine zNr rfl ?_;go_simp);generalize hg:W1.alloc _=W2;have hb2:=bE hg
 have k2:=af k1 hb2;have q2:=hb2.q q1;have bel2:=bel1.trans (hb2.mono bel1.size);have hE2:=hE1.below hb2;clear hg hb2 k1 q1 bel1 hE1;go_upto_region 3 with fail;generalize hg:W2.alloc _=W3;have hb3:=bE hg
 have t3:W3.heap[W2.heap.size]?=some (.cells #[.pointer none] 82):=aE hg
 have k3:=af k2 hb3;have q3:=hb3.q q2;have bel3:=bel2.trans (hb3.mono bel2.size);have hE3:=hE2.below hb3;have hrt:w.heap.size<W2.heap.size:=lA k2;have hpt:p<W2.heap.size:=lA q2;have htW:W2.heap.size<W3.heap.size:=lA t3;have c1:W3.cell? ⟨p,1,none⟩=some (.int .i64 4):=by simp[World.cell?,q3]
 have d1:W3.cell? ⟨W2.heap.size,0,none⟩=some (.pointer none):=by simp[World.cell?,t3]
 have d2:W3.frozen? ⟨W2.heap.size,0,none⟩=false:=by simp[World.frozen?,t3]
 clear hg hb3 k2 q2 bel2 hE2;obtain⟨tb,htb⟩:∃tb,W2.heap.size=tb:=⟨_,rfl⟩
 rw[htb] at t3 d1 d2 hrt hpt htW;rw[htb];clear htb;have HIS:=Err.is_msg p 4 3 W3 c1;rw[show decide ((4:Int)=3)=false from by decide] at HIS;have HAS:=Err.as_hit ⟨p,0,none⟩ ⟨tb,0,none⟩ _ W3 hE3 d1 d2;clear hE3 d1 d2 c1;go_wp2_with fail;refine HIS.mono ?_;rintro e W4 ⟨rfl,rfl⟩;go_wp2_with fail;refine HAS.mono ?_;rintro e W5 ⟨rfl,hw5⟩;obtain⟨X,hX⟩:∃X,(((W4.alloc (.cells #[.pointer (some ⟨tb,0,none⟩)] 84)).alloc (.cells #[.pointer (some ⟨2,84,none⟩),.pointer (some ⟨W4.heap.size,0,none⟩),.int .u64 150] 132)).alloc (.cells #[.pointer (some ⟨2,84,none⟩),.pointer (some ⟨W4.heap.size,0,none⟩),.int .u64 150] 132)).alloc (.cells #[.pointer (some ⟨p,0,none⟩)] 82)=X:=⟨_,rfl⟩
 have hbX:Below W4.heap.size W4 X:=by
  rw[<-hX];exact (((bN _ _).alloc (by rw[ybF];omega) _).alloc (by rw[ybF,ybF];omega) _).alloc (by rw[ybF,ybF,ybF];omega) _
 rw[hX] at hw5;have kX:=af k3 hbX;have qX:=hbX.q q3;have tX:=hbX.q t3;have k5:W5.heap[w.heap.size]?=some (ay 0).box:=by rw[hw5];exact ah kX (by omega)
 have q5:W5.heap[p]?=some (.cells #[.string what,.int .i64 4] 87):=by rw[hw5];exact ah qX (by omega)
 have t5:W5.heap[tb]?=some (.cells #[.pointer (some ⟨p,0,none⟩)] 82):=by rw[hw5];exact (at_set tX).trans (by rfl)
 have bel5:Below w.heap.size w W5:=by rw[hw5];exact (bel3.trans (hbX.mono bel3.size)).setCell (by show w.heap.size<=tb;omega) _
 clear hX hbX hw5 kX qX tX k3 q3 t3 bel3 HIS HAS htW;go_upto_region 6 with fail;refine yaB (S:=OfC w.heap.size tb p) hmo ?_;change wpAnyH _ _ _ _ _ _ _ _ (World.drew W5);have hd:Below W5.heap.size W5 W5.drew:=(yaj _ _).drew;have k6:=af k5 hd;have s6:OfC w.heap.size tb p W5.drew:=⟨k6,by have:=hd.q t5;simp[World.cell?,this],by have:=hd.q q5;simp[World.cell?,this]⟩
 have bel6:=bel5.trans (hd.mono bel5.size);clear hd k5 q5 t5 bel5;generalize World.drew W5=X0 at *;have zf0 w0 (h:OfC w.heap.size tb p w0):=h.2.1;have zf1 w0 (h:OfC w.heap.size tb p w0):=h.2.2;refine zp 0 (.agg #[.int .i64 0,.int .u64 0,.int .u64 0,.int .i64 0,.int .u64 0,.int .u64 0,.int .u64 0,.int .u64 0,.int .i64 0,.string ⟨#[]⟩,.string ⟨#[]⟩,.slice none 0 0,.slice none 0 0,.slice none 0 0,.int .i64 0,.int .i64 0,.bool false,.slice none 0 0,.slice none 0 0,.int .u64 0,.int .u64 0,.int .u64 0,.slice none 0 0,.slice none 0 0,.int .u64 0,.bool false,.slice none 0 0]) rfl ?_;go_simp;refine zv 1 (pp p 0) rfl ?_;go_simp;refine zp 2 (pp p 0) rfl (zp 3 (pp p 1) rfl ?_);go_simp;refine zv 4 (.int .i64 4) rfl ?_;go_simp;have f1:(X0.setRow w.heap.size (ay 0).cells).heap[w.heap.size]?=some (.cells (ay 0).cells 59):=aO k6;have f2:=below_setRow bel6 (yag _) (ay 0).cells;have s7:OfC w.heap.size tb p (X0.setRow w.heap.size (ay 0).cells):=⟨f1,(yaK (yba X0 w.heap.size tb (ay 0).cells (by omega))).trans s6.2.1,(yaK (yba X0 w.heap.size p (ay 0).cells (by omega))).trans s6.2.2⟩
 refine zH1 5 rfl (fun K hK=>?_);refine NI (cells:=(ay 0).cells) rfl rfl k6 rfl rfl (by kernel_rfl) rfl (by kernel_rfl) ?_;refine hK _ _ ⟨s7,?_⟩;clear hK K k6 s6 bel6;generalize X0.setRow w.heap.size (ay 0).cells=X1 at *;refine zp 6 (.int .i64 4) rfl ?_;go_simp;refine zd ?_;go_wp2_with fail;exact yay (w:=X1) (aj (i:=2) (j:=3) (t:=59) rfl rfl rfl (by kernel_rfl) (by kernel_rfl) f1) rfl ⟨f2,.inr ⟨rfl,HNO.out⟩⟩
def IsMsg (b:List UInt8)(x:Int×Int×Int×Int):Prop:=∃(W:World) (m:MV) (c:MC),MAt W m c/\U64M m c/\FitsM m c/\bY m c=true/\dL m c=b/\x=(m.k,m.vi,m.cl,m.nu)
theorem Ov(h:aH m c m' c'=true):m.k=m'.k/\m.vi=m'.vi/\m.cl=m'.cl/\m.nu=m'.nu:=by
 obtain⟨h0,h1⟩:=same_iff.1 h;exact⟨h0,yar (h1 118 (by decide)),yar (h1 99 (by decide)),yar (h1 117 (by decide))⟩
theorem IsMsg.uniq{b:List UInt8}{x y:Int×Int×Int×Int}(h:IsMsg b x)(h':IsMsg b y):x=y:=by
 obtain⟨W,m,c,h1,h2,h3,h4,h5,rfl⟩:=h;obtain⟨W',m',c',g1,g2,g3,g4,g5,rfl⟩:=h';obtain⟨e1,e2,e3,e4⟩:=Ov (AV h1 g1 h2 g2 h3 g3 h4 g4 (h5.trans g5.symm));rw[e1,e2,e3,e4]
def En (d:List UInt8->Option (Int×Int×Int×Int)):Prop:=∀b,(∀x,IsMsg b x->d b=some x)/\(lm b->d b=none)/\(∀x,d b=some x->0<=x.2.1/\x.2.1<18446744073709551616)
theorem Rh:∃d,En d:=by
 have h:∀b:List UInt8,∃o:Option (Int×Int×Int×Int),(∀x,IsMsg b x->o=some x)/\(lm b->o=none)/\(∀x,o=some x->0<=x.2.1/\x.2.1<18446744073709551616):=fun b=>by
  by_cases hx:∃x,IsMsg b x
  ·obtain⟨x,hx⟩:=hx;refine⟨some x,fun y hy=>by rw[hx.uniq hy],fun hn=>?_,fun y hy=>?_⟩
   ·obtain⟨W,m,c,h1,h2,h3,h4,rfl,-⟩:=hx;exact absurd hn (MM h1 h2 h3 h4)
   obtain rfl:=yaf hy;obtain⟨W,m,c,h1,h2,h3,h4,h5,rfl⟩:=hx;exact h2.vi
  exact⟨none,fun y hy=>absurd ⟨y,hy⟩ hx,fun _=>rfl,fun _ h=>by cases h⟩
 exact⟨fun b=>(h b).choose,fun b=>(h b).choose_spec⟩
structure PS where
 num:Int
 vi:Int
 la:Int
 dr:Int
 un:Bool
 told:Bool
def fQ (d:List UInt8->Option (Int×Int×Int×Int))(cl:Int)(b:List UInt8)(p:PS):PS×Bool:=
 match d b with
 | none=>(⟨p.num,p.vi,p.la,p.dr+1,p.un,p.told⟩,false)
 | some (k,v,c,n)=>
  if k=2/\c=cl then
   if p.un=true/\p.num=n then (⟨p.num,max p.vi v,n,p.dr,false,true⟩,true) else (⟨p.num,max p.vi v,p.la,p.dr,p.un,p.told⟩,false)
  else (⟨p.num,p.vi,p.la,p.dr+1,p.un,p.told⟩,false)
structure PS.Ok (k:Int)(p:PS):Prop where
 num:0<=p.num/\p.num<=k
 vi:0<=p.vi/\p.vi<18446744073709551616
 la:0<=p.la
 dr:0<=p.dr/\p.dr<=k
 un:p.un=true->p.la<p.num
 le:p.la<=p.num
 to0:p.told=false->p.la=0
theorem kF{u:QV}{c c' d:QC}(h:aF v c v' c'=true)(h':aF v' c' u d=true):aF v c u d=true:=
 dU (x:=114) (m:={ ay 0 with rs:=v }) (m':={ ay 0 with rs:=v' }) (n:={ ay 0 with rs:=u }) (c:={ dO with rs:=c }) (c':={ dO with rs:=c' }) (d:={ dO with rs:=d }) h h'
structure Kn where
 ov:OV
 oc:OC
 rv:QV
 rc:QC
 M:Nat
def Sj (M:Nat)(u:OV):Prop:=(∀a,u.ao=some a->M<=a.block)/\(∀a,u.bo=some a->M<=a.block)/\∀a,u.co=some a->M<=a.block
structure SAt (W:World)(B sb:Nat)(cl nd:Int)(p:PS)(K:Kn)(uo to_:Option Addr):Prop where
 box:W.heap[sb]?=some (SV.box ⟨cl,nd,p.num,uo,p.vi,p.la,to_,p.dr⟩)
 le:B<=sb
 un1:p.un=true->∃(rb:Nat) (u:OV) (c:OC),uo=some ⟨rb,0,none⟩/\W.heap[rb]?=some (RV.box ⟨cl,p.num,u⟩)/\OpAt W u c/\aA u c=true/\bg u c K.ov K.oc=true/\K.M<=rb/\Sj K.M u
 un0:p.un=false->uo=none
 to1:p.told=true->∃(tb:Nat) (v:QV) (c:QC),to_=some ⟨tb,0,none⟩/\W.heap[tb]?=some v.box/\QAt W v c/\(v.en<=1000000/\SmallE c.ents)/\aF v c K.rv K.rc=true/\K.M<=tb/\FreshQ K.M v c.ents
 to0:p.told=false->to_=none
 to2:p.told=false->aF aG ⟨[],[]⟩ K.rv K.rc=true
theorem QAt.sess{c:QC}(h:QAt W v c)(hs:W.heap[sb]?=some S.box)(ho:Oth B sb W W'):QAt W' v c:=by
 refine⟨⟨pg h.e.r hs ho ?_,fun p hp=>⟨pg (h.e.each p hp).a hs ho ?_,(h.e.each p hp).la⟩⟩,pg h.c hs ho ?_,h.lc⟩
 ·intro u hu;simp only[enV,EV.cells,List.mem_flatMap,yas,yal,or_false] at hu;obtain⟨x,-,rfl|rfl⟩:=hu<;>rfl
 ·intro u hu;simp only[atV,List.mem_flatMap,yas,yal,or_false] at hu;obtain⟨x,-,rfl|rfl⟩:=hu<;>rfl
 intro u hu;simp only[byV,ybM] at hu;obtain⟨x,-,rfl⟩:=hu;rfl
theorem LM{a b:Nat}{t':TypeId}{cs':Array Value}(h:W.heap[a]?=some (.cells cs t (0,0)))(h':W.heap[b]?=some (.cells cs' t' (0,0)))(hne:t≠t'):a≠b:=by
 rintro rfl;rw[h] at h';cases h';exact hne rfl
theorem SAt.held{p:PS}{K:Kn}(h:SAt W B sb cl nd p K uo to_)(hs:W.heap[sb']?=some S.box)(ho:Oth B' sb' W W') :
  (p.un=true->∃(rb:Nat) (u:OV) (c:OC),uo=some ⟨rb,0,none⟩/\W'.heap[rb]?=some (RV.box ⟨cl,p.num,u⟩)/\OpAt W' u c/\aA u c=true/\bg u c K.ov K.oc=true/\K.M<=rb/\Sj K.M u) /\
  (p.told=true->∃(tb:Nat) (v:QV) (c:QC),to_=some ⟨tb,0,none⟩/\W'.heap[tb]?=some v.box/\QAt W' v c/\(v.en<=1000000/\SmallE c.ents)/\aF v c K.rv K.rc=true/\K.M<=tb/\FreshQ K.M v c.ents):=by
 refine⟨fun e=>?_,fun e=>?_⟩
 ·obtain⟨rb,u,c,h1,h2,h3,h4⟩:=h.un1 e;exact⟨rb,u,c,h1,(ho.oth rb (lA h2) (LM h2 hs (by decide))).trans h2,h3.sess hs ho,h4⟩
 obtain⟨tb,v,c,h1,h2,h3,h4⟩:=h.to1 e;exact⟨tb,v,c,h1,(ho.oth tb (lA h2) (LM h2 hs (by decide))).trans h2,h3.sess hs ho,h4⟩
theorem SAt.oth{p:PS}{K:Kn}(h:SAt W B sb cl nd p K uo to_)(hs:W.heap[sb']?=some S.box)(ho:Oth B' sb' W W')(hne:sb≠sb'):SAt W' B sb cl nd p K uo to_:=
 ⟨(ho.oth sb (lA h.box) hne).trans h.box,h.le,(h.held hs ho).1,h.un0,(h.held hs ho).2,h.to0,h.to2⟩
theorem SAt.later{p:PS}{K:Kn}(h:SAt W B sb cl nd p K uo to_)(hb:Below W.heap.size W W'):SAt W' B sb cl nd p K uo to_:=
 ⟨(hb.q h.box),h.le,fun e=>by
  obtain⟨rb,u,c,h1,h2,h3,h4⟩:=h.un1 e;exact⟨rb,u,c,h1,(hb.q h2),h3.later hb,h4⟩,h.un0,fun e=>by
  obtain⟨tb,v,c,h1,h2,h3,h4⟩:=h.to1 e;exact⟨tb,v,c,h1,(hb.q h2),h3.later hb,h4⟩,h.to0,h.to2⟩
theorem SAt.own{p q:PS}{K:Kn}(h:SAt W B sb cl nd p K uo to_)(ho:Oth B sb W W')(hn:q.num=p.num)(hu:q.un=p.un)(ht:q.told=p.told)
  (hb:W'.heap[sb]?=some (SV.box ⟨cl,nd,q.num,uo,q.vi,q.la,to_,q.dr⟩)):SAt W' B sb cl nd q K uo to_:=
 ⟨hb,h.le,by rw[hn,hu];exact (h.held h.box ho).1,by rw[hu];exact h.un0,by rw[ht];exact (h.held h.box ho).2,by rw[ht];exact h.to0,by rw[ht];exact h.to2⟩
theorem NQ(h:MAt W m c)(hu:U64M m c)(hf:FitsM m c)(hm:bY m c=true)(hk:m.k=2):m.rs.en<=1000/\SmallE c.rs.ents:=by
 have hM:=(wY h hu hf hm).1;have hr:=((hM.may 114 (by rw[hk];cases m.wh<;>decide)).rs rfl).1;unfold bz at hr;by_cases h0:m.rs.code=0
 ·rw[if_pos h0] at hr;simp only[yaq,ybz,yaU,ybT] at hr;refine⟨by omega,fun p hp=>?_⟩;have h1:=yaS.1 hr.1.1.2 p hp;have h2:=(FitE.of (v:=p.1) (x:=p.2) (by simpa using h1)).n;omega
 rw[if_neg h0] at hr;simp only[yaq] at hr;have h1:=hr.2;unfold aF at h1;simp only[yaq] at h1;have h2:=h1.2.2.1;have h3:=h.rs.e.len;cases he:c.rs.ents with
 | nil=>rw[he] at h3;simp at h3;exact⟨by omega,fun _ hp=>(by cases hp)⟩
 | cons a l=>rw[he] at h2;cases h2
theorem nI{M size:Nat}{ao:Option Addr}{n cap:Nat}{xs:List Value}(h:Rd W size ao n cap xs)(hm:∀a,ao=some a->M<=a.block)(hz:W.heap.size<=W'.heap.size)(hk:∀k,M<=k->k<W.heap.size->W'.heap[k]?=W.heap[k]?):Rd W' size ao n cap xs:=by
 obtain⟨h1,h2,h3,h4,h5⟩:=h;refine⟨h1,h2,h3,h4,fun h0 a ha=>?_⟩;obtain⟨s,l,c⟩:=h5 h0 a ha;exact⟨s,yaz l hz,fun j u hu=>(yaK (a:=⟨a.block,a.off+j,none⟩) (hk _ (hm a ha) l)).trans (c j u hu)⟩
theorem SAt.far{p:PS}{K:Kn}(h:SAt W B sb cl nd p K uo to_)(hz:W.heap.size<=W'.heap.size)(hs:W'.heap[sb]?=W.heap[sb]?)(hk:∀k,K.M<=k->k<W.heap.size->W'.heap[k]?=W.heap[k]?):SAt W' B sb cl nd p K uo to_:=
 ⟨hs.trans h.box,h.le,fun e=>by
  obtain⟨rb,u,c,h1,h2,h3,h4,h5,h6,h7,h8,h9⟩:=h.un1 e;exact⟨rb,u,c,h1,(hk _ h6 (lA h2)).trans h2,⟨nI h3.a h7 hz hk,nI h3.b h8 hz hk,nI h3.c h9 hz hk,h3.la,h3.lb,h3.lc⟩,h4,h5,h6,h7,h8,h9⟩,h.un0,fun e=>by
  obtain⟨tb,v,c,h1,h2,h3,h4,h5,h6,h7⟩:=h.to1 e;exact⟨tb,v,c,h1,(hk _ h6 (lA h2)).trans h2,⟨⟨nI h3.e.r h7.e hz hk,fun q hq=>⟨nI (h3.e.each q hq).a (h7.a q hq) hz hk,(h3.e.each q hq).la⟩⟩,nI h3.c h7.c hz hk,h3.lc⟩,h4,h5,h6,h7⟩,h.to0,h.to2⟩
theorem SAt.res{p:PS}{K:Kn}(h:SAt W B sb cl nd p K uo to_){c:QC}(hr:aF K.rv K.rc v c=true):SAt W B sb cl nd p ⟨K.ov,K.oc,v,c,K.M⟩ uo to_:=
 ⟨h.box,h.le,h.un1,h.un0,fun e=>by
  obtain⟨tb,u,d,h1,h2,h3,h4,h5⟩:=h.to1 e;exact⟨tb,u,d,h1,h2,h3,h4,kF h5.1 hr,h5.2⟩,h.to0,fun e=>kF (h.to2 e) hr⟩
