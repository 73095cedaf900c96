/-
  A part of the proof.
-/
import Derived.Test.YtfmmandlmbcncaaGreatDoorKcav
import Derived.Test.YtfmmandlmbcncaaGreatDoorKcat
import Derived.Test.YtfmmandlmbcncaaGreatDoorKcan
set_option maxHeartbeats 40000000
set_option maxRecDepth 100000
namespace Go.Proofs.YtfmmandlmbcncaaGreatDoor.Msg
open Go.RowKit Go.Lib Mem Utf Tlv
theorem mQ {v:OV}{c:OC}(h:aF v c=true):yc v c=opL v c:=by unfold yc;rw[if_pos h]
structure RyAt (w:World)(r:RV)(W:World):Prop where
 o:W.heap[w.heap.size]?=some r.box
 bel:Below w.heap.size w W
theorem RyAt.step {w W W':World}{r:RV}(h:RyAt w r W)(hb:Below W.heap.size W W'):RyAt w r W':=⟨(hb.block _ (Array.getElem?_eq_some_iff.1 h.o).1).trans h.o,h.bel.trans (hb.mono h.bel.size)⟩
theorem RyAt.turn {w W W':World}{r:RV}{B:Nat}(h:RyAt w r W)(hb:Below B W W')(hB:w.heap.size<B):RyAt w r W':=⟨(hb.block _ hB).trans h.o,h.bel.trans (hb.mono (Nat.le_of_lt hB))⟩
theorem tu (r:RV)(c:OC)(w:World)(ho:OpAt w r.op c)(hm:aF r.op c=true)(h0:0<=r.cl)(h1:r.cl<18446744073709551616)(h2:0<=r.nu)(h3:r.nu<18446744073709551616) :
  Calls Tryz.prog 85 #[r.val] w (ja w (dN r (yc r.op c))):=by
 have hmo:Tryz.prog.follows .mixedOrders=true:=by kernel_rfl
 have hlen:=(mO w r.op c ho).len;rw[mQ hm] at hlen ⊢;obtain⟨cn,hcn⟩:∃n:Nat,r.cl=(n:Int):=⟨r.cl.toNat,by omega⟩
 obtain⟨un,hun⟩:∃n:Nat,r.nu=(n:Int):=⟨r.nu.toNat,by omega⟩
 have hc64:cn<18446744073709551616:=by omega
 have hu64:un<18446744073709551616:=by omega
 obtain⟨V1,hV1⟩:∃V,val 1 (aA cn)=V:=⟨_,rfl⟩
 obtain⟨V2,hV2⟩:∃V,val 2 (aA un)=V:=⟨_,rfl⟩
 obtain⟨OB,hOB⟩:∃V,opL r.op c=V:=⟨_,rfl⟩
 obtain⟨V3,hV3⟩:∃V,val 3 OB=V:=⟨_,rfl⟩
 have hz:dN r (opL r.op c)=V1++V2++V3:=by unfold dN;rw[hOB,hV3,show r.cl.toNat=cn by omega,show r.nu.toNat=un by omega,hV1,hV2]
 rw[hOB] at hlen;have l1:V1.length<=300000:=by rw[<-hV1,af,ah];decide
 have l2:V2.length<=300000:=by rw[<-hV2,af,ah];decide
 have l3:V3.length<=5000000:=by rw[<-hV3,af];omega
 have lO:OB.length<=4194304:=by omega
 have HZ:=hid hz;have HV1:=hid hV1;have HV2:=hid hV2;have HV3:=hid hV3;have HOB:=hid hOB;have Hcn:=hid hcn;have Hun:=hid hun;clear hz hV1 hV2 hV3 hOB hcn hun hlen h0 h1 h2 h3;have hb0:Below w.heap.size w (w.alloc r.box):=(Below.refl _ _).alloc (Nat.le_refl _) _;have k0:(w.alloc r.box).heap[w.heap.size]?=some r.box:=by show (w.heap.push _)[w.heap.size]?=some _;exact Array.getElem?_push_size
 unfold RV.box RV.cells at hb0 k0;unfold RV.val RV.cells;go_in;go_upto_region 1 with fail;generalize hg:w.alloc _=W0 at *;have k0f:W0.heap[w.heap.size]?=some r.box:=k0;have s0:RyAt w r W0:=⟨k0f,hb0⟩
 clear hg k0 k0f hb0;have s1:RyAt w r W0.drew:=s0.step (Below.refl _ _).drew;have z1:w.heap.size<W0.drew.heap.size:=(Array.getElem?_eq_some_iff.1 s1.o).1;refine wp_region_held (S:=RyAt w r) hmo ?_;change wpAnyH _ _ _ _ _ _ _ _ (World.drew W0);generalize World.drew W0=W1 at *;refine zHp 0 (.pointer (some ⟨w.heap.size,0,none⟩)) rfl s1 ?_;go_simp;refine zHa 1 (.int .u64 r.cl) rfl (by rintro w h;obtain⟨c0,c1,c2,c3,c4,c5,c6,c7,c8,-⟩:=gI h.o;go_simp) s1 ?_;go_simp;refine zHp 3 (.pointer (some ⟨w.heap.size,1,none⟩)) rfl s1 ?_;go_simp;refine zHa 4 (.int .u64 r.nu) rfl (by rintro w h;obtain⟨c0,c1,c2,c3,c4,c5,c6,c7,c8,-⟩:=gI h.o;go_simp) s1 ?_;go_simp;refine zH1 2 rfl (fun K hK=>?_);go_simp;rw[Hcn.out];refine (iM 1 cn W1 hc64).mono ?_;rintro e W2 ⟨v2,rfl,x2,hb2⟩;rw[HV1.out] at x2;have s2:=s1.step hb2;generalize hB:W1.heap.size=B at *;have z2:B<=W2.heap.size:=by rw[<-hB];exact hb2.size
 go_simp;refine hK _ _ ⟨s2,?_⟩;clear hK K;refine zH1 5 rfl (fun K hK=>?_);go_simp;rw[Hun.out];refine (iM 2 un W2 hu64).mono ?_;rintro e W3 ⟨v5,rfl,o5,hb3⟩;rw[HV2.out] at o5;have s3:=s2.step hb3;have x3:=ag x2 hb3;have z3:B<=W3.heap.size:=Nat.le_trans z2 hb3.size;go_simp;refine hK _ _ ⟨s3,?_⟩;clear hK K;refine zH1 6 rfl (fun K hK=>?_);obtain⟨ya,yk,e5,yr⟩:=Rd.of_own o5;subst e5;refine bY rfl (.tmp 6) (.tmp 9) 34 rfl B 5 (.int .u8 0) 1 1 Tlv.byT v2 _ _ rfl x3 ya _ yk _ rfl yr (bK _) (by unfold maxLen;omega) (by omega) z3 ?_;intro a6 k6 W4 x4 hg6 hb4 _;have s4:=s3.turn hb4 z1;have z4:B<=W4.heap.size:=Nat.le_trans z3 hb4.size;clear hg6;refine hK _ _ ⟨s4,?_⟩;clear hK K;refine zHp 7 (.slice a6 (V1.length+V2.length) k6) rfl s4 ?_;go_simp;refine wpAnyH_done (by kernel_rfl) ?_ _;obtain⟨c0,c1,c2,c3,c4,c5,c6,c7,c8,-⟩:=gI s4.o;have hob:=BZ r.op c W4 (ho.later s4.bel) hm;unfold OV.val at hob;go_wp2_with fail;refine hob.mono ?_;rintro e W5 ⟨v7,rfl,o7,hb5⟩;rw[HOB.out] at o7;have s5:=s4.step hb5;have x5:=ag x4 hb5;have z5:=Nat.le_trans z4 hb5.size;obtain⟨qa,qk,e7,qr⟩:=Rd.of_own o7;subst e7;clear c0 c1 c2 c3 c4 c5 c6 c7 c8 hob;go_wp2_with fail;refine (aS 3 OB qa _ qk W5 lO qr).mono ?_;rintro e W6 ⟨v8,rfl,o8,hb6⟩;rw[HV3.out] at o8;have s6:=s5.step hb6;have x6:=ag x5 hb6;have z6:=Nat.le_trans z5 hb6.size;obtain⟨ta,tk,e8,tr⟩:=Rd.of_own o8;subst e8;go_wp2_with (at_builtin;refine fO _ rfl (.tmp 11) (.tmp 15) 34 rfl B 5 (.int .u8 0) 1 1 Tlv.byT (.slice a6 (V1.length+V2.length) k6) _ _ rfl x6 ta _ tk _ rfl tr (bK _) (by unfold maxLen;omega) (by omega) z6 ?_;intro a9 k9 W7 x7 _ hb7 _);have s7:=s6.turn hb7 z1;go_ret;refine⟨_,rfl,own_base ?_ (Nat.le_of_lt z1),s7.bel⟩;rw[HZ.out];simp only[List.length_append,dP];exact x7
end Go.Proofs.YtfmmandlmbcncaaGreatDoor.Msg
namespace Go.Proofs.YtfmmandlmbcncaaGreatDoor.Msg
open Go.RowKit Go.Lib Mem Tlv
structure U64R (r:RV):Prop where
 c0:0<=r.cl
 c1:r.cl<18446744073709551616
 n0:0<=r.nu
 n1:r.nu<18446744073709551616
def qm (b:List UInt8):Prop:=∀W r c,OpAt W r.op c->aF r.op c=true->U64R r->dN r (opL r.op c)≠b
theorem iw {W:World}{v:OV}{c:OC}(ho:OpAt W v c)(hm:aF v c=true):(opL v c).length<=4000000:=by
 have:=(mO W v c ho).len;rw[mQ hm] at this;exact this
theorem nH (r:RV)(bl:List UInt8):dN r bl=val 1 (aA r.cl.toNat)++(val 2 (aA r.nu.toNat)++(val 3 bl++[])):=by unfold dN;simp
theorem CZ {W W':World}{r r':RV}{c c':OC}(ho:OpAt W r.op c)(ho':OpAt W' r'.op c')(hm:aF r.op c=true)(hm':aF r'.op c'=true)(hu:U64R r)(hu':U64R r')(h:dN r (opL r.op c)=dN r' (opL r'.op c')):r.cl=r'.cl/\r.nu=r'.nu/\bU r.op c r'.op c'=true:=by
 have l1:=iw ho hm;have l2:=iw ho' hm';rw[nH,nH] at h;obtain⟨h1,h⟩:=ay (by decide) (by rw[ah];omega) (by rw[ah];omega) h;obtain⟨h2,h⟩:=ay (by decide) (by rw[ah];omega) (by rw[ah];omega) h;obtain⟨h3,-⟩:=ay (by decide) (by omega) (by omega) h;have a0:=hu.c0;have a1:=hu.c1;have a2:=hu.n0;have a3:=hu.n1;have b0:=hu'.c0;have b1:=hu'.c1;have b2:=hu'.n0;have b3:=hu'.n1;have e1:=iF (by omega) (by omega) h1;have e2:=iF (by omega) (by omega) h2;exact⟨by omega,by omega,O3 ho ho' hm hm' h3⟩
section
variable {b y:List UInt8} {s1 s2 s3:RS} {n1 n2:Nat}
 (T1:Took (fun n:Nat=>val 1 (aA n)) (fun n=>n<18446744073709551616) (fun n=>n<18446744073709551616) ⟨b,false⟩ n1 s1)
 (T2:Took (fun n:Nat=>val 2 (aA n)) (fun n=>n<18446744073709551616) (fun n=>n<18446744073709551616) s1 n2 s2)
 (T3:Took (val 3) (fun z=>z.length<=4194304) (fun z=>z.length<=4194304) s2 y s3)
include T1 T2 T3
theorem rM (h:(s3.bad=true\/0<s3.l.length)\/uB y):qm b:=by
 intro W r c ho hm hu e;have lo:=iw ho hm;rw[nH] at e;have a0:=hu.c0;have a1:=hu.c1;have a2:=hu.n0;have a3:=hu.n1;cases h1:s1.bad with
 | true=>
  rcases T1.no h1 with h | h
  ·cases h
  exact h r.cl.toNat _ (by omega) e.symm
 | false=>
  obtain⟨-,e1,g1⟩:=T1.yes h1;dsimp only at e1;rw[e1] at e;obtain⟨-,e⟩:=ay (by decide) (by rw[ah];omega) (by rw[ah];omega) e;cases h2:s2.bad with
  | true=>
   rcases T2.no h2 with h | h
   ·rw[h1] at h;cases h
   exact h r.nu.toNat _ (by omega) e.symm
  | false=>
   obtain⟨-,e2,g2⟩:=T2.yes h2;rw[e2] at e;obtain⟨-,e⟩:=ay (by decide) (by rw[ah];omega) (by rw[ah];omega) e;cases h3:s3.bad with
   | true=>
    rcases T3.no h3 with h | h
    ·rw[h2] at h;cases h
    exact h (opL r.op c) [] (by omega) e.symm
   | false=>
    obtain⟨-,e3,g3⟩:=T3.yes h3;rw[e3] at e;obtain⟨ey,e⟩:=ay (by decide) (by omega) g3 e;rcases h with (h | h) | h
    ·rw[h3] at h;cases h
    ·rw[<-e] at h;simp at h
    exact h W r.op c ho hm ey
theorem Aq (h3:s3.bad=false)(hl:s3.l=[]):b=val 1 (aA n1)++(val 2 (aA n2)++(val 3 y++[]))/\n1<18446744073709551616/\n2<18446744073709551616:=by
 obtain⟨h2,e3,-⟩:=T3.yes h3;obtain⟨h1,e2,g2⟩:=T2.yes h2;obtain⟨-,e1,g1⟩:=T1.yes h1;dsimp only at e1;exact⟨by rw[e1,e2,e3,hl],g1,g2⟩
end
def vg (T:World->OV->Prop)(ok bad:Value)(b:List UInt8)(w:World)(e:Ending)(w':World):Prop:=Below w.heap.size w w' /\
 ((∃r c,e=.returned (.tuple #[RV.val r,ok])/\OpAt w' r.op c/\T w' r.op/\U64R r/\aF r.op c=true/\dN r (opL r.op c)=b)\/(e=.returned (.tuple #[bM.val,bad])/\qm b))
theorem uG {W:World}{b k:Nat}{u:OV}(h:k≠b):(lV W b u).heap[k]?=W.heap[k]?:=by
 unfold lV;simp only[show ∀(X:World) (i:Nat) (x:Value),(X.setCell ⟨b,i,none⟩ x).heap[k]?=X.heap[k]? from fun X i x=>Below.heap_setCell X ⟨b,i,none⟩ x k h]
theorem yF {W W':World}{b:Nat}{r:RV}(h:W.heap[b]?=some r.box)(hs:W.heap.size<=W'.heap.size)(ho:∀k,k≠b->W'.heap[k]?=W.heap[k]?):KeepR W W':=by
 refine⟨hs,fun k c t fr ht hk=>?_⟩;have hne:k≠b:=fun e=>by
  subst e;rw[h] at hk;cases hk;rcases ht with h | h | h<;>exact absurd h (by decide)
 exact (ho k hne).trans hk
theorem vZ {W:World}{b:Nat}{u:OV}:(lV W b u).heap.size=W.heap.size:=by unfold lV;simp only[World.size_setCell]
theorem tC (b:List UInt8)(ao:Option Addr)(n cap:Nat)(w:World)(hr:Rd w 1 ao n cap (byV b))(hn:n<=100000000) :
  Calls Tryz.prog 193 #[.slice ao n cap] w (vg OpTy (.int .i64 0) (.int .i64 4) b w):=by
 have hbn:b.length=n:=by have:=hr.1;rw[aP] at this;omega
 have hb0:Below w.heap.size w (w.alloc bM.box):=(Below.refl _ _).alloc (Nat.le_refl _) _;have k0:(w.alloc bM.box).heap[w.heap.size]?=some bM.box:=by show (w.heap.push _)[w.heap.size]?=some _;exact Array.getElem?_push_size
 have hz0:(w.alloc bM.box).heap.size=w.heap.size+1:=by simp
 have hr0:=hr.later hb0;unfold bM zeroV RV.box RV.cells at hb0 k0 hz0 hr0;dsimp only at hb0 k0 hz0 hr0;clear hr;go_in;go_upto_region 1 with fail;generalize hg:w.alloc _=W0 at *;have k0f:W0.heap[w.heap.size]?=some bM.box:=k0;clear hg k0;go_wp2_with fail;refine (oH ao n cap b W0 hr0 (by omega)).mono ?_;rintro e W1 ⟨g,rfl,hr1,hb1⟩;have hg0:W0.heap.size<=g:=by obtain⟨_,_,h⟩:=hr1;exact h.le
 have T1:=iC ⟨b,false⟩ 1 (by decide);have hnum1:=oZ W0.heap.size g ⟨b,false⟩ 1 W1 hr1 (by dsimp only;omega);unfold jS at hnum1;generalize RS.num ⟨b,false⟩ 1=nm at *;obtain⟨n1,s1⟩:=nm;dsimp only at T1 hnum1;go_wp2_with fail;refine hnum1.mono ?_;rintro e W2 ⟨rfl,hr2,hg2⟩;have T2:=iC s1 2 (by decide);have l1:=T1.le;dsimp only at l1;have hnum2:=oZ W0.heap.size g s1 2 W2 hr2 (by omega);unfold jS at hnum2;generalize RS.num s1 2=nm at *;obtain⟨n2,s2⟩:=nm;dsimp only at T2 hnum2;go_wp2_with fail;refine hnum2.mono ?_;rintro e W3 ⟨rfl,hr3,hg3⟩;have l2:=T2.le;have hb3:Below W0.heap.size W0 W3:=(hb1.trans (below_of_grown hg2 hg0 (by obtain⟨_,_,h⟩:=hr1;exact h.lt))).trans (below_of_grown hg3 hg0 (by obtain⟨_,_,h⟩:=hr2;exact h.lt));go_upto_region 3 with (refine zNr rfl ?_;go_simp);generalize hg:W3.alloc _=W4;have e4:W3.alloc (RV.box ⟨n1,n2,zeroV⟩)=W4:=hg;have hb4':Below W3.heap.size W3 W4:=by rw[<-e4];exact (Below.refl _ _).alloc (Nat.le_refl _) _
 have q4:W4.heap[W3.heap.size]?=some (RV.box ⟨n1,n2,zeroV⟩):=by rw[<-e4];show (W3.heap.push _)[W3.heap.size]?=some _;exact Array.getElem?_push_size
 have hr4:=hr3.later hb4';have hb4:=hb3.trans (hb4'.mono hb3.size);have hob:W0.heap.size<=W3.heap.size:=hb3.size;have hgo:g≠W3.heap.size:=by obtain⟨_,_,h⟩:=hr3;have:=h.lt;omega
 clear hg e4 hnum1 hnum2 hb1 hr1 hr2 hr3 hg2 hg3 hb3 hb4';generalize W3.heap.size=ob at *;have T3:=bi s2 3 (by decide);have hl3:=fC s2 3;have hby:=iP W0.heap.size g s2 3 W4 hr4 (by omega);generalize RS.bytes s2 3=y at *;obtain⟨y,s3⟩:=y;dsimp only at T3 hby hl3;go_wp2_with fail;refine hby.mono ?_;rintro e W5 ⟨a5,c5,rfl,hrd5,hty5,hr5,hg5⟩;have hb5:Below W0.heap.size W0 W5:=hb4.trans (below_of_grown hg5 hg0 (by obtain⟨_,_,h⟩:=hr4;exact h.lt));have q5:W5.heap[ob]?=some (RV.box ⟨n1,n2,zeroV⟩):=(hg5.block _ (Array.getElem?_eq_some_iff.1 q4).1 (fun e=>hgo (Option.some.inj e).symm)).trans q4;clear hby q4 hr4 hb4 hg5;go_wp2_with fail;refine (JR y a5 y.length c5 W5 hrd5 (by omega)).mono ?_;rintro e W6 ⟨hb6,hO⟩;have hr6:=hr5.later hb6;have q6:W6.heap[ob]?=some (RV.box ⟨n1,n2,zeroV⟩):=(hb6.block _ (Array.getElem?_eq_some_iff.1 q5).1).trans q5;have hb6':=hb5.trans (hb6.mono hb5.size);obtain⟨f,Y,cY,rfl,oY,tY,hans⟩:∃(f:Int) (Y:OV) (cY:OC),e=.returned (.tuple #[Y.val,.int .i64 f])/\OpAt W6 Y cY/\OpTy W6 Y/\((f=0/\aF Y cY=true/\opL Y cY=y)\/(f=4/\uB y)):=by
  rcases hO with ⟨Y,cY,rfl,oY,tY,mY,lY⟩ | ⟨rfl,n1⟩
  ·exact⟨0,Y,cY,rfl,oY,tY,.inl ⟨rfl,mY,lY⟩⟩
  exact⟨4,zeroV,⟨[],[],[]⟩,rfl,⟨Rd.nil _ _,Rd.nil _ _,Rd.nil _ _,Nat.zero_le _,Nat.zero_le _,Nat.zero_le _⟩,⟨fun h=>absurd h (Nat.lt_irrefl 0),fun h=>absurd h (Nat.lt_irrefl 0),fun h=>absurd h (Nat.lt_irrefl 0)⟩,.inr ⟨rfl,n1⟩⟩
 clear hO hr5 q5 hb5 hb6;have HA:=hid hans;clear hans;have hrz6:W6.heap[w.heap.size]?=some bM.box:=(hb6'.block _ (by omega)).trans k0f;obtain⟨d0,d1,d2,d3,d4,d5,d6,d7,d8,d9⟩:=gI q6;dsimp only at d0 d1 d2 d3 d4 d5 d6 d7 d8;unfold OV.val;go_upto_region 4 with (refine zNr rfl ?_;go_simp);generalize hg:W6.alloc _=W7;have e7:W6.alloc Y.box=W7:=hg;have hb7:Below W6.heap.size W6 W7:=by rw[<-e7];exact (Below.refl _ _).alloc (Nat.le_refl _) _
 have q7y:W7.heap[W6.heap.size]?=some Y.box:=by rw[<-e7];show (W6.heap.push _)[W6.heap.size]?=some _;exact Array.getElem?_push_size
 have q7:W7.heap[ob]?=some (RV.box ⟨n1,n2,zeroV⟩):=(hb7.block _ (Array.getElem?_eq_some_iff.1 q6).1).trans q6;have hr7:=hr6.later hb7;have hb7':=hb6'.trans (hb7.mono hb6'.size);have oY7:=oY.later hb7;have tY7:=tY.kpr (KeepR.of_below hb7);have hzy:ob≠W6.heap.size:=by have:=(Array.getElem?_eq_some_iff.1 q6).1;omega
 clear hg e7 d0 d1 d2 d3 d4 d5 d6 d7 d8 d9 q6 oY tY hr6 hrz6 hb6' hb7;generalize W6.heap.size=yb at *;obtain⟨d0,d1,d2,d3,d4,d5,d6,d7,d8,d9⟩:=gI q7;dsimp only at d0 d1 d2 d3 d4 d5 d6 d7 d8;go_upto_region 5 with (refine zLr rfl q7y ?_;go_simp);generalize hg:World.setCell _ _ _=W8;have e8:lV W7 ob Y=W8:=hg;have hk8:∀k,k≠ob->W8.heap[k]?=W7.heap[k]?:=fun k hk=>by rw[<-e8];exact uG hk
 have hs8:W8.heap.size=W7.heap.size:=by rw[<-e8];exact vZ
 have q8:W8.heap[ob]?=some (RV.box ⟨n1,n2,Y⟩):=by rw[<-e8];exact zI q7
 have hkr8:=yF q7 (Nat.le_of_eq hs8.symm) hk8;have hb8:Below W0.heap.size W0 W8:=by rw[<-e8];exact hb7'.trans (lN (Below.refl _ _) hob)
 have oY8:=oY7.kpr tY7 hkr8;have tY8:=tY7.kpr hkr8;have hgr8:W7.grownBy W8 (some ob):=by
  have hB:Below ob W7 W8:=by rw[<-e8];exact lN (Below.refl _ _) (Nat.le_refl _)
  exact⟨hB.os,hB.tape,hB.output,hB.size,fun k _ hne=>hk8 k (fun e=>hne (by rw[e]))⟩
 have hr8:=hr7.grown hgr8 q7 (fun c fr h=>by cases h) hgo;clear hg e8 d0 d1 d2 d3 d4 d5 d6 d7 d8 d9 hk8 hs8 hkr8 oY7 tY7 hb7' hgr8 q7 q7y hr7;have hrz:W8.heap[w.heap.size]?=some bM.box:=(hb8.block _ (by omega)).trans k0f;have hbel:=hb0.trans (hb8.mono (by omega));have hfin:∀cs:Array Value,(W8.setRow w.heap.size cs).heap[w.heap.size]?=some (.cells cs 55)/\Below w.heap.size w (W8.setRow w.heap.size cs):=fun cs=>
  ⟨bf hrz,below_setRow hbel (Nat.le_refl _) cs⟩
 rcases HA.out with ⟨rfl,mY,lY⟩ | ⟨rfl,nY⟩
 ·have HM:=hid (And.intro mY lY);clear mY lY;go_wp2_with fail;refine (pM W0.heap.size g s3 W8 hr8).mono ?_;rintro e w9 ⟨rfl,rfl⟩;by_cases he:s3.bad=true\/0<s3.l.length
  ·have e4:s3.ends=4:=if_pos he;have hno:=rM T1 T2 T3 (.inl he);rw[e4];obtain⟨f1,f2⟩:=hfin bM.cells;go_wp2_with (refine zSr rfl hrz ?_;go_simp);refine bodyPost_ret (w:=W8.setRow w.heap.size bM.cells) (az (i:=2) (j:=3) (t:=55) rfl rfl rfl (by kernel_rfl) (by kernel_rfl) f1) rfl ⟨f2,.inr ⟨rfl,hno⟩⟩
  have e4:s3.ends=0:=if_neg he;have hs1:s3.bad=false:=by cases h:s3.bad with
   | true=>exact absurd (.inl h) he
   | false=>rfl
  have hs2:s3.l=[]:=List.eq_nil_of_length_eq_zero (by
   have:¬0<s3.l.length:=fun h=>he (.inr h);omega)
  rw[e4];obtain⟨hd,h64,u64⟩:=Aq T1 T2 T3 hs1 hs2;have hout:U64R ⟨n1,n2,Y⟩/\dN ⟨n1,n2,Y⟩ (opL Y cY)=b:=by
   refine⟨⟨by dsimp only;omega,by dsimp only;omega,by dsimp only;omega,by dsimp only;omega⟩,?_⟩;rw[hd,nH,HM.out.2];rfl
  have HO:=hid hout;obtain⟨f1,f2⟩:=hfin (RV.cells ⟨n1,n2,Y⟩);have hkr:=yF hrz (below_setRow (Below.refl w.heap.size W8) (Nat.le_refl _) (RV.cells ⟨n1,n2,Y⟩)).size (fun k hk=>setRow_other W8 w.heap.size k (RV.cells ⟨n1,n2,Y⟩) hk);have oF:=oY8.kpr tY8 hkr;have tF:=tY8.kpr hkr;clear hout hd;go_wp2_with (first | (refine zLr rfl q8 ?_;go_simp) | (refine zSr rfl hrz ?_;go_simp));exact bodyPost_ret (w:=W8.setRow w.heap.size (RV.cells ⟨n1,n2,Y⟩)) (az (i:=2) (j:=3) (t:=55) rfl rfl rfl (by kernel_rfl) (by kernel_rfl) f1) rfl ⟨f2,.inl ⟨_,cY,rfl,oF,tF,HO.out.1,HM.out.1,HO.out.2⟩⟩
 have hno:=rM T1 T2 T3 (.inr nY);obtain⟨f1,f2⟩:=hfin bM.cells;go_wp2_with (refine zSr rfl hrz ?_;go_simp);refine bodyPost_ret (w:=W8.setRow w.heap.size bM.cells) (az (i:=2) (j:=3) (t:=55) rfl rfl rfl (by kernel_rfl) (by kernel_rfl) f1) rfl ⟨f2,.inr ⟨rfl,hno⟩⟩
theorem Dk {B b:Nat}{W W':World}{r:RV}(h:W.heap[b]?=some r.box)(hs:W.heap.size<=W'.heap.size)(ho:∀k,k≠b->W'.heap[k]?=W.heap[k]?)(hB:B<=b):KeepB B W W':=⟨yF h hs ho,fun k h1 _=>ho k (by omega)⟩
theorem qQ (B:Nat)(b:List UInt8)(ao:Option Addr)(n cap:Nat)(w:World)(hr:Rd w 1 ao n cap (byV b))(hB:B<=w.heap.size)(hty:TyB B w ao cap)(hn:n<=100000000) :
  Calls Tryz.prog 91 #[.slice ao n cap] w (vg (OpTyB B) (.bool true) (.bool false) b w):=by
 have hbn:b.length=n:=by have:=hr.1;rw[aP] at this;omega
 have hb0:Below w.heap.size w (w.alloc bM.box):=(Below.refl _ _).alloc (Nat.le_refl _) _;have k0:(w.alloc bM.box).heap[w.heap.size]?=some bM.box:=by show (w.heap.push _)[w.heap.size]?=some _;exact Array.getElem?_push_size
 have hz0:(w.alloc bM.box).heap.size=w.heap.size+1:=by simp
 have hr0:=hr.later hb0;have ht0:=hty.later hb0;unfold bM zeroV RV.box RV.cells at hb0 k0 hz0 hr0 ht0;dsimp only at hb0 k0 hz0 hr0 ht0;clear hr hty;go_in;go_upto_region 1 with fail;generalize hg:w.alloc _=W0 at *;have k0f:W0.heap[w.heap.size]?=some bM.box:=k0;clear hg k0;subst hbn;have hBW0:B<=W0.heap.size:=Nat.le_trans hB hb0.size;have hR:=nI hr0 hBW0 ht0;have hbR:Below W0.heap.size W0 (W0.alloc (.cells #[.slice ao b.length cap,.bool false] 119)):=(Below.refl _ _).alloc (Nat.le_refl _) _;go_upto_region 2 with fail;generalize hg:W0.alloc _=W1 at *;have hz1:W1.heap.size=W0.heap.size+1:=by rw[<-hg];simp
 clear hg;go_upto_region 3 with (refine zNr rfl ?_;go_simp);generalize hg:W1.alloc _=W2;have e2:W1.alloc bM.box=W2:=hg;have hb2:Below W1.heap.size W1 W2:=by rw[<-e2];exact (Below.refl _ _).alloc (Nat.le_refl _) _
 have kb:W2.heap[W1.heap.size]?=some bM.box:=by rw[<-e2];show (W1.heap.push _)[W1.heap.size]?=some _;exact Array.getElem?_push_size
 have hR2:=hR.later hb2;have hbel2:Below W0.heap.size W0 W2:=hbR.trans (hb2.mono (by omega));clear hg e2 hb2 hR hbR hr0 ht0;rw[hz0] at hR2;rw[hz1,hz0] at kb;clear hz1;have T1:=iC ⟨b,false⟩ 1 (by decide);generalize hgq:w.heap.size+1=g at *;generalize hobq:g+1=ob at *;have hg0:W0.heap.size<=g:=by omega
 have hob:W0.heap.size<=ob:=by omega
 have hgo:g≠ob:=by omega
 have hrw:w.heap.size<W0.heap.size:=by omega
 clear hgq hobq;have hBo:B<=ob:=Nat.le_trans hBW0 hob;have hnum:=jD B g ⟨b,false⟩ 1 W2 hR2 (by dsimp only;omega);generalize RS.num ⟨b,false⟩ 1=nm at *;obtain⟨n1,s1⟩:=nm;dsimp only at T1 hnum;go_wp2_with fail;refine hnum.mono ?_;rintro e W3 ⟨rfl,hR3,hg3⟩;have hb3:Below W0.heap.size W0 W3:=hbel2.trans (below_of_grown hg3 hg0 hR2.lt);have q3:W3.heap[ob]?=some bM.box:=(hg3.block _ (Array.getElem?_eq_some_iff.1 kb).1 (fun e=>hgo (Option.some.inj e).symm)).trans kb;clear hnum hbel2 kb hR2 hg3;obtain⟨d0,d1,d2,d3,d4,d5,d6,d7,d8,d9⟩:=gI q3;unfold bM zeroV at d0 d1 d2 d3 d4 d5 d6 d7 d8;dsimp only at d0 d1 d2 d3 d4 d5 d6 d7 d8;go_upto_region 4 with fail;have q4:(W3.setCell ⟨ob,0,none⟩ (.int .u64 n1)).heap[ob]?=some (RV.box ⟨n1,0,zeroV⟩):=(at_set q3).trans (by kernel_rfl);have hR4:RfS B g s1 (W3.setCell ⟨ob,0,none⟩ (.int .u64 n1)):=hR3.grown (ak _ _ _ _) q3 (fun c fr h=>by cases h) hgo hBo;have hb4:=hb3.setCell (p:=⟨ob,0,none⟩) hob (.int .u64 n1);generalize W3.setCell _ _=W4 at *;clear d0 d1 d2 d3 d4 d5 d6 d7 d8 d9 q3 hR3 hb3;have T2:=iC s1 2 (by decide);have l1:=T1.le;dsimp only at l1;have hnum:=jD B g s1 2 W4 hR4 (by omega);generalize RS.num s1 2=nm at *;obtain⟨n2,s2⟩:=nm;dsimp only at T2 hnum;go_wp2_with fail;refine hnum.mono ?_;rintro e W5 ⟨rfl,hR5,hg5⟩;have l2:=T2.le;have hb5:Below W0.heap.size W0 W5:=hb4.trans (below_of_grown hg5 hg0 hR4.lt);have q5:W5.heap[ob]?=some (RV.box ⟨n1,0,zeroV⟩):=(hg5.block _ (Array.getElem?_eq_some_iff.1 q4).1 (fun e=>hgo (Option.some.inj e).symm)).trans q4;clear hnum hb4 q4 hR4 hg5;obtain⟨d0,d1,d2,d3,d4,d5,d6,d7,d8,d9⟩:=gI q5;unfold zeroV at d2 d3 d4 d5 d6 d7 d8;dsimp only at d0 d1 d2 d3 d4 d5 d6 d7 d8;go_upto_region 5 with fail;have q6:(W5.setCell ⟨ob,1,none⟩ (.int .u64 n2)).heap[ob]?=some (RV.box ⟨n1,n2,zeroV⟩):=(at_set q5).trans (by kernel_rfl);have hR6:RfS B g s2 (W5.setCell ⟨ob,1,none⟩ (.int .u64 n2)):=hR5.grown (ak _ _ _ _) q5 (fun c fr h=>by cases h) hgo hBo;have hb6:=hb5.setCell (p:=⟨ob,1,none⟩) hob (.int .u64 n2);generalize W5.setCell _ _=W6 at *;clear d0 d1 d2 d3 d4 d5 d6 d7 d8 d9 q5 hR5 hb5;have T3:=bi s2 3 (by decide);have hl3:=fC s2 3;have hby:=fK B g s2 3 W6 hR6 (by omega);unfold gm at hby;generalize RS.bytes s2 3=y at *;obtain⟨y,s3⟩:=y;dsimp only at T3 hby hl3;go_wp2_with fail;refine hby.mono ?_;rintro e W7 ⟨hR7,hg7,a7,c7,rfl,hrd7,hty7⟩;have hb7:Below W0.heap.size W0 W7:=hb6.trans (below_of_grown hg7 hg0 hR6.lt);have q7:W7.heap[ob]?=some (RV.box ⟨n1,n2,zeroV⟩):=(hg7.block _ (Array.getElem?_eq_some_iff.1 q6).1 (fun e=>hgo (Option.some.inj e).symm)).trans q6;clear hby q6 hR6 hb6 hg7;go_wp2_with fail;refine (Ih B y a7 y.length c7 W7 hrd7 (Nat.le_trans hBW0 hb7.size) hty7 (by omega)).mono ?_;rintro e W8 ⟨hb8',hO⟩;have hR8:=hR7.later hb8';have q8:W8.heap[ob]?=some (RV.box ⟨n1,n2,zeroV⟩):=(hb8'.block _ (Array.getElem?_eq_some_iff.1 q7).1).trans q7;have hb8:=hb7.trans (hb8'.mono hb7.size);obtain⟨ok,Y,cY,rfl,oY,tY,hans⟩:∃(ok:Bool) (Y:OV) (cY:OC),e=.returned (.tuple #[Y.val,.bool ok])/\OpAt W8 Y cY/\OpTyB B W8 Y/\((ok=true/\aF Y cY=true/\opL Y cY=y)\/(ok=false/\uB y)):=by
  rcases hO with ⟨Y,cY,rfl,oY,tY,mY,lY⟩ | ⟨rfl,n1⟩
  ·exact⟨true,Y,cY,rfl,oY,tY,.inl ⟨rfl,mY,lY⟩⟩
  exact⟨false,zeroV,⟨[],[],[]⟩,rfl,⟨Rd.nil _ _,Rd.nil _ _,Rd.nil _ _,Nat.zero_le _,Nat.zero_le _,Nat.zero_le _⟩,⟨fun h=>absurd h (Nat.lt_irrefl 0),fun h=>absurd h (Nat.lt_irrefl 0),fun h=>absurd h (Nat.lt_irrefl 0)⟩,.inr ⟨rfl,n1⟩⟩
 clear hO hR7 q7 hb7 hb8';have HA:=hid hans;clear hans;unfold OV.val;go_upto_region 6 with (refine zNr rfl ?_;go_simp);generalize hg:W8.alloc _=W9;have e9:W8.alloc Y.box=W9:=hg;have hb9:Below W8.heap.size W8 W9:=by rw[<-e9];exact (Below.refl _ _).alloc (Nat.le_refl _) _
 have q9y:W9.heap[W8.heap.size]?=some Y.box:=by rw[<-e9];show (W8.heap.push _)[W8.heap.size]?=some _;exact Array.getElem?_push_size
 have q9:W9.heap[ob]?=some (RV.box ⟨n1,n2,zeroV⟩):=(hb9.block _ (Array.getElem?_eq_some_iff.1 q8).1).trans q8;have hR9:=hR8.later hb9;have hb9':=hb8.trans (hb9.mono hb8.size);have oY9:=oY.later hb9;have tY9:=tY.kpb (KeepB.of_below hb9);clear hg e9 q8 oY tY hR8 hb8 hb9;generalize W8.heap.size=yb at *;obtain⟨d0,d1,d2,d3,d4,d5,d6,d7,d8,d9⟩:=gI q9;unfold zeroV at d2 d3 d4 d5 d6 d7 d8;dsimp only at d0 d1 d2 d3 d4 d5 d6 d7 d8;go_upto_region 7 with (refine zLr rfl q9y ?_;go_simp);generalize hg:World.setCell _ _ _=WA;have eA:lV W9 ob Y=WA:=hg;have hkA:∀k,k≠ob->WA.heap[k]?=W9.heap[k]?:=fun k hk=>by rw[<-eA];exact uG hk
 have hsA:WA.heap.size=W9.heap.size:=by rw[<-eA];exact vZ
 have qA:WA.heap[ob]?=some (RV.box ⟨n1,n2,Y⟩):=by rw[<-eA];exact zI q9
 have hkrA:=Dk q9 (Nat.le_of_eq hsA.symm) hkA hBo;have hbA:Below W0.heap.size W0 WA:=by rw[<-eA];exact hb9'.trans (lN (Below.refl _ _) hob)
 have oYA:=oY9.kpb tY9 hkrA;have tYA:=tY9.kpb hkrA;have hgrA:W9.grownBy WA (some ob):=by
  have hB:Below ob W9 WA:=by rw[<-eA];exact lN (Below.refl _ _) (Nat.le_refl _)
  exact⟨hB.os,hB.tape,hB.output,hB.size,fun k _ hne=>hkA k (fun e=>hne (by rw[e]))⟩
 have hRA:=hR9.grown hgrA q9 (fun c fr h=>by cases h) hgo hBo;clear hg eA d0 d1 d2 d3 d4 d5 d6 d7 d8 d9 hkA hsA hkrA oY9 tY9 hb9' hgrA q9 q9y hR9;have hrz:WA.heap[w.heap.size]?=some bM.box:=(hbA.block _ (by omega)).trans k0f;have hbel:=hb0.trans (hbA.mono (by omega));have hfin:∀cs:Array Value,(WA.setRow w.heap.size cs).heap[w.heap.size]?=some (.cells cs 55)/\Below w.heap.size w (WA.setRow w.heap.size cs):=fun cs=>
  ⟨bf hrz,below_setRow hbel (Nat.le_refl _) cs⟩
 rcases HA.out with ⟨rfl,mY,lY⟩ | ⟨rfl,nY⟩
 ·have HM:=hid (And.intro mY lY);clear mY lY;go_wp2_with fail;refine (kH B g s3 WA hRA).mono ?_;rintro e w9 ⟨rfl,rfl⟩;by_cases he:s3.bad=false/\s3.l=[]
  ·have f0:decide (s3.bad=false/\s3.l=[])=true:=decide_eq_true he;obtain⟨hd,h64,u64⟩:=Aq T1 T2 T3 he.1 he.2;have hout:U64R ⟨n1,n2,Y⟩/\dN ⟨n1,n2,Y⟩ (opL Y cY)=b:=by
    refine⟨⟨by dsimp only;omega,by dsimp only;omega,by dsimp only;omega,by dsimp only;omega⟩,?_⟩;rw[hd,nH,HM.out.2];rfl
   have HO:=hid hout;obtain⟨f1,f2⟩:=hfin (RV.cells ⟨n1,n2,Y⟩);have hkr:=Dk (B:=B) hrz (below_setRow (Below.refl w.heap.size WA) (Nat.le_refl _) (RV.cells ⟨n1,n2,Y⟩)).size (fun k hk=>setRow_other WA w.heap.size k (RV.cells ⟨n1,n2,Y⟩) hk) hB;have oF:=oYA.kpb tYA hkr;have tF:=tYA.kpb hkr;clear hout hd he;go_wp2_with (first | (refine zLr rfl qA ?_;go_simp) | (refine zSr rfl hrz ?_;go_simp));exact bodyPost_ret (w:=WA.setRow w.heap.size (RV.cells ⟨n1,n2,Y⟩)) (az (i:=2) (j:=3) (t:=55) rfl rfl rfl (by kernel_rfl) (by kernel_rfl) f1) rfl ⟨f2,.inl ⟨_,cY,rfl,oF,tF,HO.out.1,HM.out.1,HO.out.2⟩⟩
  have f0:decide (s3.bad=false/\s3.l=[])=false:=decide_eq_false he;have hno:=rM T1 T2 T3 (.inl (by
   cases hb:s3.bad with
   | true=>exact .inl rfl
   | false=>exact .inr (List.length_pos_iff.2 (fun h=>he ⟨hb,h⟩))))
  obtain⟨f1,f2⟩:=hfin bM.cells;clear he;go_wp2_with (refine zSr rfl hrz ?_;go_simp);refine bodyPost_ret (w:=WA.setRow w.heap.size bM.cells) (az (i:=2) (j:=3) (t:=55) rfl rfl rfl (by kernel_rfl) (by kernel_rfl) f1) rfl ⟨f2,.inr ⟨rfl,hno⟩⟩
 have hno:=rM T1 T2 T3 (.inr nY);obtain⟨f1,f2⟩:=hfin bM.cells;go_wp2_with (refine zSr rfl hrz ?_;go_simp);refine bodyPost_ret (w:=WA.setRow w.heap.size bM.cells) (az (i:=2) (j:=3) (t:=55) rfl rfl rfl (by kernel_rfl) (by kernel_rfl) f1) rfl ⟨f2,.inr ⟨rfl,hno⟩⟩
open Go.ChangeShapes Go.WideShapes Go.Deep
def bQ (r:RV)(c:OC)(r':RV)(c':OC):Bool:=decide (r.cl=r'.cl)&&decide (r.nu=r'.nu)&&bU r.op c r'.op c'
theorem pz (r r':RV)(c c':OC)(w:World)(h:OpAt w r.op c)(h':OpAt w r'.op c') :
  Calls Tryz.prog 63 #[r.val,r'.val] w (aN (bQ r c r' c') w):=by
 have hb0:Below w.heap.size w ((w.alloc r.box).alloc r'.box):=bW w _ _;obtain⟨k1,k2⟩:=df w r.box r'.box;have hsame:=vO r.op r'.op c c' _ (h.later hb0) (h'.later hb0);unfold RV.box RV.cells at hb0 k1 k2 hsame;unfold OV.val at hsame;unfold RV.val RV.cells;by_cases e1:r.cl=r'.cl
 case neg=>
  have f1:(r.cl==r'.cl)=false:=by simp[e1]
  have Hs:Hid (bQ r c r' c'=false):=Lib.hid (by unfold bQ;rw[decide_eq_false e1];simp);clear e1 hsame;go_in;go_wp2_with fail;go_ret;exact⟨by rw[Hs.out];rfl,hb0⟩
 have f1:(r.cl==r'.cl)=true:=by simp[e1]
 by_cases e2:r.nu=r'.nu
 case neg=>
  have f2:(r.nu==r'.nu)=false:=by simp[e2]
  have Hs:Hid (bQ r c r' c'=false):=Lib.hid (by unfold bQ;rw[decide_eq_false e2];simp);clear e1 e2 hsame;go_in;go_wp2_with fail;go_ret;exact⟨by rw[Hs.out];rfl,hb0⟩
 have f2:(r.nu==r'.nu)=true:=by simp[e2]
 have Hs:Hid (bQ r c r' c'=bU r.op c r'.op c'):=Lib.hid (by unfold bQ;rw[decide_eq_true e1,decide_eq_true e2];simp);clear e1 e2;go_in;go_wp2_with fail;refine hsame.mono ?_;rintro e w1 ⟨rfl,hb1⟩;rw[<-Hs.out];go_wp2_with fail;go_ret;exact⟨rfl,hb0.trans (hb1.mono hb0.size)⟩
theorem uw (r r':RV)(c c':OC)(w:World)(h:OpAt w r.op c)(h':OpAt w r'.op c') :
  Calls Tryz.prog 138 #[r.val,r'.val] w (aN (bQ r c r' c') w):=by
 have hb0:Below w.heap.size w ((w.alloc r.box).alloc r'.box):=bW w _ _;obtain⟨k1,k2⟩:=df w r.box r'.box;have hsame:=ru r.op r'.op c c' _ (h.later hb0) (h'.later hb0);unfold RV.box RV.cells at hb0 k1 k2 hsame;unfold OV.val at hsame;unfold RV.val RV.cells;by_cases e1:r.cl=r'.cl
 case neg=>
  have f1:(r.cl==r'.cl)=false:=by simp[e1]
  have Hs:Hid (bQ r c r' c'=false):=Lib.hid (by unfold bQ;rw[decide_eq_false e1];simp);clear e1 hsame;go_in;go_wp2_with fail;go_ret;exact⟨by rw[Hs.out];rfl,hb0⟩
 have f1:(r.cl==r'.cl)=true:=by simp[e1]
 by_cases e2:r.nu=r'.nu
 case neg=>
  have f2:(r.nu==r'.nu)=false:=by simp[e2]
  have Hs:Hid (bQ r c r' c'=false):=Lib.hid (by unfold bQ;rw[decide_eq_false e2];simp);clear e1 e2 hsame;go_in;go_wp2_with fail;go_ret;exact⟨by rw[Hs.out];rfl,hb0⟩
 have f2:(r.nu==r'.nu)=true:=by simp[e2]
 have Hs:Hid (bQ r c r' c'=bU r.op c r'.op c'):=Lib.hid (by unfold bQ;rw[decide_eq_true e1,decide_eq_true e2];simp);clear e1 e2;go_in;go_wp2_with fail;refine hsame.mono ?_;rintro e w1 ⟨rfl,hb1⟩;rw[<-Hs.out];go_wp2_with fail;go_ret;exact⟨rfl,hb0.trans (hb1.mono hb0.size)⟩
section
variable {H:Type} {enc:TypeId×Value->H} {W:World}
end
end Go.Proofs.YtfmmandlmbcncaaGreatDoor.Msg
