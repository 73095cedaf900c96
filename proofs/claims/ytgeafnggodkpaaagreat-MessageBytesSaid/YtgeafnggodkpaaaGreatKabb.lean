/-
  A part of the proof.
-/
import Derived.Test.YtgeafnggodkpaaaGreatKaba
import Derived.Test.YtgeafnggodkpaaaGreatKaak
import Derived.Test.YtgeafnggodkpaaaGreatKaab
import Derived.Test.YtgeafnggodkpaaaGreatKaav
import Derived.Test.YtgeafnggodkpaaaGreatKaax
import Derived.Test.YtgeafnggodkpaaaGreatKaay
import Derived.Test.YtgeafnggodkpaaaGreatKaat
set_option maxHeartbeats 40000000
namespace Go.Proofs.YtgeafnggodkpaaaGreat.Msg
open Go.RowKit Go.Lib Go.Proofs.YtgeafnggodkpaaaGreat.Mem Go.Proofs.YtgeafnggodkpaaaGreat.Utf Go.Proofs.YtgeafnggodkpaaaGreat.Tlv
theorem opBy_yes {v:OV}{c:OC}(h:mayOp v c=true):opBy v c=opL v c:=by unfold opBy;rw[if_pos h]
structure RyAt (w:World)(r:RV)(W:World):Prop where
 o:W.heap[w.heap.size]?=some r.box
 bel:Below w.heap.size w W
theorem RyAt.step {w W W':World}{r:RV}(h:RyAt w r W)(hb:Below W.heap.size W W'):RyAt w r W':=⟨(hb.block _ (Array.getElem?_eq_some_iff.1 h.o).1).trans h.o,h.bel.trans (hb.mono h.bel.size)⟩
theorem RyAt.turn {w W W':World}{r:RV}{B:Nat}(h:RyAt w r W)(hb:Below B W W')(hB:w.heap.size<B):RyAt w r W':=⟨(hb.block _ hB).trans h.o,h.bel.trans (hb.mono (Nat.le_of_lt hB))⟩
set_option maxRecDepth 100000 in
theorem rReqBytes_any (r:RV)(c:OC)(w:World)(ho:OpAt w r.op c)(hm:mayOp r.op c=true)(h0:0≤r.cl)(h1:r.cl<18446744073709551616)(h2:0≤r.nu)(h3:r.nu<18446744073709551616) :
  Calls Tryz.prog 25 #[r.val] w (GivesO w (reqL r (opBy r.op c))):=by
 have hmo:Tryz.prog.follows .mixedOrders=true:=by kernel_rfl
 have hlen:=(opC_all w r.op c ho).len
 rw[opBy_yes hm] at hlen ⊢
 obtain⟨cn,hcn⟩:∃n:Nat,r.cl=(n:Int):=⟨r.cl.toNat,by omega⟩
 obtain⟨un,hun⟩:∃n:Nat,r.nu=(n:Int):=⟨r.nu.toNat,by omega⟩
 have hc64:cn<18446744073709551616:=by omega
 have hu64:un<18446744073709551616:=by omega
 obtain⟨V1,hV1⟩:∃V,val 1 (num8 cn)=V:=⟨_,rfl⟩
 obtain⟨V2,hV2⟩:∃V,val 2 (num8 un)=V:=⟨_,rfl⟩
 obtain⟨OB,hOB⟩:∃V,opL r.op c=V:=⟨_,rfl⟩
 obtain⟨V3,hV3⟩:∃V,val 3 OB=V:=⟨_,rfl⟩
 have hz:reqL r (opL r.op c)=V1++V2++V3:=by unfold reqL;rw[hOB,hV3,show r.cl.toNat=cn by omega,show r.nu.toNat=un by omega,hV1,hV2]
 rw[hOB] at hlen
 have l1:V1.length≤300000:=by rw[←hV1,val_len,num8_len];decide
 have l2:V2.length≤300000:=by rw[←hV2,val_len,num8_len];decide
 have l3:V3.length≤5000000:=by rw[←hV3,val_len];omega
 have lO:OB.length≤4194304:=by omega
 have HZ:=hid hz
 have HV1:=hid hV1
 have HV2:=hid hV2
 have HV3:=hid hV3
 have HOB:=hid hOB
 have Hcn:=hid hcn
 have Hun:=hid hun
 clear hz hV1 hV2 hV3 hOB hcn hun hlen h0 h1 h2 h3
 have hb0:Below w.heap.size w (w.alloc r.box):=(Below.refl _ _).alloc (Nat.le_refl _) _
 have k0:(w.alloc r.box).heap[w.heap.size]?=some r.box:=by show (w.heap.push _)[w.heap.size]?=some _;exact Array.getElem?_push_size
 unfold RV.box RV.cells at hb0 k0
 unfold RV.val RV.cells
 go_enter Tryz.func25,Tryz.ntmps25
 go_upto_region 1 with fail
 generalize hg:w.alloc _=W0 at *
 have k0f:W0.heap[w.heap.size]?=some r.box:=k0
 have s0:RyAt w r W0:=⟨k0f,hb0⟩
 clear hg k0 k0f hb0
 have s1:RyAt w r W0.drew:=s0.step (Below.refl _ _).drew
 have z1:w.heap.size<W0.drew.heap.size:=(Array.getElem?_eq_some_iff.1 s1.o).1
 refine wp_region_held (S:=RyAt w r) hmo ?_
 change wpAnyH _ _ _ _ _ _ _ _ (World.drew W0)
 generalize World.drew W0=W1 at *
 refine zHp 0 (.pointer (some ⟨w.heap.size,0,none⟩)) rfl s1 ?_
 go_simp
 refine zHa 1 (.int .u64 r.cl) rfl (by rintro w h;obtain⟨c0,c1,c2,c3,c4,c5,c6,c7,c8,-⟩:=rbox_all h.o;go_simp) s1 ?_
 go_simp
 refine zHp 3 (.pointer (some ⟨w.heap.size,1,none⟩)) rfl s1 ?_
 go_simp
 refine zHa 4 (.int .u64 r.nu) rfl (by rintro w h;obtain⟨c0,c1,c2,c3,c4,c5,c6,c7,c8,-⟩:=rbox_all h.o;go_simp) s1 ?_
 go_simp
 refine zH1 2 rfl (fun K hK=>?_)
 go_simp
 rw[Hcn.out]
 refine (rnumber_any 1 cn W1 hc64).mono ?_
 rintro e W2 ⟨v2,rfl,x2,hb2⟩
 rw[HV1.out] at x2
 have s2:=s1.step hb2
 generalize hB:W1.heap.size=B at *
 have z2:B≤W2.heap.size:=by rw[←hB];exact hb2.size
 go_simp
 refine hK _ _ ⟨s2,?_⟩
 clear hK K
 refine zH1 5 rfl (fun K hK=>?_)
 go_simp
 rw[Hun.out]
 refine (rnumber_any 2 un W2 hu64).mono ?_
 rintro e W3 ⟨v5,rfl,o5,hb3⟩
 rw[HV2.out] at o5
 have s3:=s2.step hb3
 have x3:=own_later x2 hb3
 have z3:B≤W3.heap.size:=Nat.le_trans z2 hb3.size
 go_simp
 refine hK _ _ ⟨s3,?_⟩
 clear hK K
 refine zH1 6 rfl (fun K hK=>?_)
 obtain⟨ya,yk,e5,yr⟩:=Rd.of_own o5
 subst e5
 refine step_app rfl (.tmp 6) (.tmp 9) 25 rfl B 5 (.int .u8 0) 1 1 Tlv.byT v2 _ _ rfl x3 ya _ yk _ rfl yr (byV_one _) (by unfold maxLen;omega) (by omega) z3 ?_
 intro a6 k6 W4 x4 hg6 hb4 _
 have s4:=s3.turn hb4 z1
 have z4:B≤W4.heap.size:=Nat.le_trans z3 hb4.size
 clear hg6
 refine hK _ _ ⟨s4,?_⟩
 clear hK K
 refine zHp 7 (.slice a6 (V1.length+V2.length) k6) rfl s4 ?_
 go_simp
 refine wpAnyH_done (by kernel_rfl) ?_ _
 obtain⟨c0,c1,c2,c3,c4,c5,c6,c7,c8,-⟩:=rbox_all s4.o
 have hob:=rOpBytes_any r.op c W4 (ho.later s4.bel) hm
 unfold OV.val at hob
 go_wp2_with fail
 refine hob.mono ?_
 rintro e W5 ⟨v7,rfl,o7,hb5⟩
 rw[HOB.out] at o7
 have s5:=s4.step hb5
 have x5:=own_later x4 hb5
 have z5:=Nat.le_trans z4 hb5.size
 obtain⟨qa,qk,e7,qr⟩:=Rd.of_own o7
 subst e7
 clear c0 c1 c2 c3 c4 c5 c6 c7 c8 hob
 go_wp2_with fail
 refine (rvalue_any 3 OB qa _ qk W5 lO qr).mono ?_
 rintro e W6 ⟨v8,rfl,o8,hb6⟩
 rw[HV3.out] at o8
 have s6:=s5.step hb6
 have x6:=own_later x5 hb6
 have z6:=Nat.le_trans z5 hb6.size
 obtain⟨ta,tk,e8,tr⟩:=Rd.of_own o8
 subst e8
 go_wp2_with (at_builtin;refine wpList_app _ rfl (.tmp 11) (.tmp 15) 25 rfl B 5 (.int .u8 0) 1 1 Tlv.byT (.slice a6 (V1.length+V2.length) k6) _ _ rfl x6 ta _ tk _ rfl tr (byV_one _) (by unfold maxLen;omega) (by omega) z6 ?_;intro a9 k9 W7 x7 _ hb7 _)
 have s7:=s6.turn hb7 z1
 go_ret
 refine⟨_,rfl,own_base ?_ (Nat.le_of_lt z1),s7.bel⟩
 rw[HZ.out]
 simp only[List.length_append,byV_app]
 exact x7
end Go.Proofs.YtgeafnggodkpaaaGreat.Msg
namespace Go.Proofs.YtgeafnggodkpaaaGreat.Msg
open Go.RowKit Go.Lib Go.Proofs.YtgeafnggodkpaaaGreat.Mem Go.Proofs.YtgeafnggodkpaaaGreat.Tlv
structure U64R (r:RV):Prop where
 c0:0≤r.cl
 c1:r.cl<18446744073709551616
 n0:0≤r.nu
 n1:r.nu<18446744073709551616
def NoReq (b:List UInt8):Prop:=∀W r c,OpAt W r.op c→mayOp r.op c=true→U64R r→reqL r (opL r.op c)≠b
theorem opL_len {W:World}{v:OV}{c:OC}(ho:OpAt W v c)(hm:mayOp v c=true):(opL v c).length≤4000000:=by
 have:=(opC_all W v c ho).len
 rw[opBy_yes hm] at this
 exact this
theorem req_split (r:RV)(bl:List UInt8):reqL r bl=val 1 (num8 r.cl.toNat)++(val 2 (num8 r.nu.toNat)++(val 3 bl++[])):=by unfold reqL;simp
theorem req_inj {W W':World}{r r':RV}{c c':OC}(ho:OpAt W r.op c)(ho':OpAt W' r'.op c')(hm:mayOp r.op c=true)(hm':mayOp r'.op c'=true)(hu:U64R r)(hu':U64R r')(h:reqL r (opL r.op c)=reqL r' (opL r'.op c')):r.cl=r'.cl∧r.nu=r'.nu∧sameOp r.op c r'.op c'=true:=by
 have l1:=opL_len ho hm
 have l2:=opL_len ho' hm'
 rw[req_split,req_split] at h
 obtain⟨h1,h⟩:=val_inj (by decide) (by rw[num8_len];omega) (by rw[num8_len];omega) h
 obtain⟨h2,h⟩:=val_inj (by decide) (by rw[num8_len];omega) (by rw[num8_len];omega) h
 obtain⟨h3,-⟩:=val_inj (by decide) (by omega) (by omega) h
 have a0:=hu.c0;have a1:=hu.c1;have a2:=hu.n0;have a3:=hu.n1
 have b0:=hu'.c0;have b1:=hu'.c1;have b2:=hu'.n0;have b3:=hu'.n1
 have e1:=num8_inj (by omega) (by omega) h1
 have e2:=num8_inj (by omega) (by omega) h2
 exact⟨by omega,by omega,op_inj ho ho' hm hm' h3⟩
section
variable {b y:List UInt8} {s1 s2 s3:RS} {n1 n2:Nat}
 (T1:Took (fun n:Nat=>val 1 (num8 n)) (fun n=>n<18446744073709551616) (fun n=>n<18446744073709551616) ⟨b,false⟩ n1 s1)
 (T2:Took (fun n:Nat=>val 2 (num8 n)) (fun n=>n<18446744073709551616) (fun n=>n<18446744073709551616) s1 n2 s2)
 (T3:Took (val 3) (fun z=>z.length≤4194304) (fun z=>z.length≤4194304) s2 y s3)
include T1 T2 T3
theorem req_none (h:(s3.bad=true∨0<s3.l.length)∨NoOp y):NoReq b:=by
 intro W r c ho hm hu e
 have lo:=opL_len ho hm
 rw[req_split] at e
 have a0:=hu.c0;have a1:=hu.c1;have a2:=hu.n0;have a3:=hu.n1
 cases h1:s1.bad with
 | true=>
  rcases T1.no h1 with h | h
  ·cases h
  exact h r.cl.toNat _ (by omega) e.symm
 | false=>
  obtain⟨-,e1,g1⟩:=T1.yes h1
  dsimp only at e1
  rw[e1] at e
  obtain⟨-,e⟩:=val_inj (by decide) (by rw[num8_len];omega) (by rw[num8_len];omega) e
  cases h2:s2.bad with
  | true=>
   rcases T2.no h2 with h | h
   ·rw[h1] at h;cases h
   exact h r.nu.toNat _ (by omega) e.symm
  | false=>
   obtain⟨-,e2,g2⟩:=T2.yes h2
   rw[e2] at e
   obtain⟨-,e⟩:=val_inj (by decide) (by rw[num8_len];omega) (by rw[num8_len];omega) e
   cases h3:s3.bad with
   | true=>
    rcases T3.no h3 with h | h
    ·rw[h2] at h;cases h
    exact h (opL r.op c) [] (by omega) e.symm
   | false=>
    obtain⟨-,e3,g3⟩:=T3.yes h3
    rw[e3] at e
    obtain⟨ey,e⟩:=val_inj (by decide) (by omega) g3 e
    rcases h with (h | h) | h
    ·rw[h3] at h;cases h
    ·rw[←e] at h;simp at h
    exact h W r.op c ho hm ey
theorem req_done (h3:s3.bad=false)(hl:s3.l=[]):b=val 1 (num8 n1)++(val 2 (num8 n2)++(val 3 y++[]))∧n1<18446744073709551616∧n2<18446744073709551616:=by
 obtain⟨h2,e3,-⟩:=T3.yes h3
 obtain⟨h1,e2,g2⟩:=T2.yes h2
 obtain⟨-,e1,g1⟩:=T1.yes h1
 dsimp only at e1
 exact⟨by rw[e1,e2,e3,hl],g1,g2⟩
end
def GivesRq (T:World→OV→Prop)(ok bad:Value)(b:List UInt8)(w:World)(e:Ending)(w':World):Prop:=Below w.heap.size w w' ∧
 ((∃r c,e=.returned (.tuple #[RV.val r,ok])∧OpAt w' r.op c∧T w' r.op∧U64R r∧mayOp r.op c=true∧reqL r (opL r.op c)=b)∨(e=.returned (.tuple #[zeroR.val,bad])∧NoReq b))
theorem setOp2_other {W:World}{b k:Nat}{u:OV}(h:k≠b):(setOp2 W b u).heap[k]?=W.heap[k]?:=by
 unfold setOp2
 simp only[show ∀(X:World) (i:Nat) (x:Value),(X.setCell ⟨b,i,none⟩ x).heap[k]?=X.heap[k]? from fun X i x=>Below.heap_setCell X ⟨b,i,none⟩ x k h]
theorem kpr_req {W W':World}{b:Nat}{r:RV}(h:W.heap[b]?=some r.box)(hs:W.heap.size≤W'.heap.size)(ho:∀k,k≠b→W'.heap[k]?=W.heap[k]?):KeepR W W':=by
 refine⟨hs,fun k c t fr ht hk=>?_⟩
 have hne:k≠b:=fun e=>by
  subst e
  rw[h] at hk
  cases hk
  rcases ht with h | h | h<;>exact absurd h (by decide)
 exact (ho k hne).trans hk
theorem setOp2_size {W:World}{b:Nat}{u:OV}:(setOp2 W b u).heap.size=W.heap.size:=by unfold setOp2;simp only[World.size_setCell]
theorem kpb_req {B b:Nat}{W W':World}{r:RV}(h:W.heap[b]?=some r.box)(hs:W.heap.size≤W'.heap.size)(ho:∀k,k≠b→W'.heap[k]?=W.heap[k]?)(hB:B≤b):KeepB B W W':=⟨kpr_req h hs ho,fun k h1 _=>ho k (by omega)⟩
set_option maxRecDepth 100000 in
theorem rRequestOf_any (B:Nat)(b:List UInt8)(ao:Option Addr)(n cap:Nat)(w:World)(hr:Rd w 1 ao n cap (byV b))(hB:B≤w.heap.size)(hty:TyB B w ao cap)(hn:n≤100000000) :
  Calls Tryz.prog 20 #[.slice ao n cap] w (GivesRq (OpTyB B) (.bool true) (.bool false) b w):=by
 have hbn:b.length=n:=by have:=hr.1;rw[byV_len] at this;omega
 have hb0:Below w.heap.size w (w.alloc zeroR.box):=(Below.refl _ _).alloc (Nat.le_refl _) _
 have k0:(w.alloc zeroR.box).heap[w.heap.size]?=some zeroR.box:=by show (w.heap.push _)[w.heap.size]?=some _;exact Array.getElem?_push_size
 have hz0:(w.alloc zeroR.box).heap.size=w.heap.size+1:=by simp
 have hr0:=hr.later hb0
 have ht0:=hty.later hb0
 unfold zeroR zeroV RV.box RV.cells at hb0 k0 hz0 hr0 ht0
 dsimp only at hb0 k0 hz0 hr0 ht0
 clear hr hty
 go_enter Tryz.func20,Tryz.ntmps20
 go_upto_region 1 with fail
 generalize hg:w.alloc _=W0 at *
 have k0f:W0.heap[w.heap.size]?=some zeroR.box:=k0
 clear hg k0
 subst hbn
 have hBW0:B≤W0.heap.size:=Nat.le_trans hB hb0.size
 have hR:=rf_new hr0 hBW0 ht0
 have hbR:Below W0.heap.size W0 (W0.alloc (.cells #[.slice ao b.length cap,.bool false] 94)):=(Below.refl _ _).alloc (Nat.le_refl _) _
 go_upto_region 2 with fail
 generalize hg:W0.alloc _=W1 at *
 have hz1:W1.heap.size=W0.heap.size+1:=by rw[←hg];simp
 clear hg
 go_upto_region 3 with (refine wpList_store_new rfl rfl rfl rfl (by kernel_rfl) rfl (by kernel_rfl) ?_;go_simp)
 generalize hg:W1.alloc _=W2
 have e2:W1.alloc zeroR.box=W2:=hg
 have hb2:Below W1.heap.size W1 W2:=by rw[←e2];exact (Below.refl _ _).alloc (Nat.le_refl _) _
 have kb:W2.heap[W1.heap.size]?=some zeroR.box:=by rw[←e2];show (W1.heap.push _)[W1.heap.size]?=some _;exact Array.getElem?_push_size
 have hR2:=hR.later hb2
 have hbel2:Below W0.heap.size W0 W2:=hbR.trans (hb2.mono (by omega))
 clear hg e2 hb2 hR hbR hr0 ht0
 rw[hz0] at hR2
 rw[hz1,hz0] at kb
 clear hz1
 have T1:=took_num ⟨b,false⟩ 1 (by decide)
 generalize hgq:w.heap.size+1=g at *
 generalize hobq:g+1=ob at *
 have hg0:W0.heap.size≤g:=by omega
 have hob:W0.heap.size≤ob:=by omega
 have hgo:g≠ob:=by omega
 have hrw:w.heap.size<W0.heap.size:=by omega
 clear hgq hobq
 have hBo:B≤ob:=Nat.le_trans hBW0 hob
 have hnum:=rfnum_any B g ⟨b,false⟩ 1 W2 hR2 (by dsimp only;omega)
 generalize RS.num ⟨b,false⟩ 1=nm at *
 obtain⟨n1,s1⟩:=nm
 dsimp only at T1 hnum
 go_wp2_with fail
 refine hnum.mono ?_
 rintro e W3 ⟨rfl,hR3,hg3⟩
 have hb3:Below W0.heap.size W0 W3:=hbel2.trans (below_of_grown hg3 hg0 hR2.lt)
 have q3:W3.heap[ob]?=some zeroR.box:=(hg3.block _ (Array.getElem?_eq_some_iff.1 kb).1 (fun e=>hgo (Option.some.inj e).symm)).trans kb
 clear hnum hbel2 kb hR2 hg3
 obtain⟨d0,d1,d2,d3,d4,d5,d6,d7,d8,d9⟩:=rbox_all q3
 unfold zeroR zeroV at d0 d1 d2 d3 d4 d5 d6 d7 d8
 dsimp only at d0 d1 d2 d3 d4 d5 d6 d7 d8
 go_upto_region 4 with fail
 have q4:(W3.setCell ⟨ob,0,none⟩ (.int .u64 n1)).heap[ob]?=some (RV.box ⟨n1,0,zeroV⟩):=(at_set q3).trans (by kernel_rfl)
 have hR4:RfS B g s1 (W3.setCell ⟨ob,0,none⟩ (.int .u64 n1)):=hR3.grown (grown_set _ _ _ _) q3 (fun c fr h=>by cases h) hgo hBo
 have hb4:=hb3.setCell (p:=⟨ob,0,none⟩) hob (.int .u64 n1)
 generalize W3.setCell _ _=W4 at *
 clear d0 d1 d2 d3 d4 d5 d6 d7 d8 d9 q3 hR3 hb3
 have T2:=took_num s1 2 (by decide)
 have l1:=T1.le
 dsimp only at l1
 have hnum:=rfnum_any B g s1 2 W4 hR4 (by omega)
 generalize RS.num s1 2=nm at *
 obtain⟨n2,s2⟩:=nm
 dsimp only at T2 hnum
 go_wp2_with fail
 refine hnum.mono ?_
 rintro e W5 ⟨rfl,hR5,hg5⟩
 have l2:=T2.le
 have hb5:Below W0.heap.size W0 W5:=hb4.trans (below_of_grown hg5 hg0 hR4.lt)
 have q5:W5.heap[ob]?=some (RV.box ⟨n1,0,zeroV⟩):=(hg5.block _ (Array.getElem?_eq_some_iff.1 q4).1 (fun e=>hgo (Option.some.inj e).symm)).trans q4
 clear hnum hb4 q4 hR4 hg5
 obtain⟨d0,d1,d2,d3,d4,d5,d6,d7,d8,d9⟩:=rbox_all q5
 unfold zeroV at d2 d3 d4 d5 d6 d7 d8
 dsimp only at d0 d1 d2 d3 d4 d5 d6 d7 d8
 go_upto_region 5 with fail
 have q6:(W5.setCell ⟨ob,1,none⟩ (.int .u64 n2)).heap[ob]?=some (RV.box ⟨n1,n2,zeroV⟩):=(at_set q5).trans (by kernel_rfl)
 have hR6:RfS B g s2 (W5.setCell ⟨ob,1,none⟩ (.int .u64 n2)):=hR5.grown (grown_set _ _ _ _) q5 (fun c fr h=>by cases h) hgo hBo
 have hb6:=hb5.setCell (p:=⟨ob,1,none⟩) hob (.int .u64 n2)
 generalize W5.setCell _ _=W6 at *
 clear d0 d1 d2 d3 d4 d5 d6 d7 d8 d9 q5 hR5 hb5
 have T3:=took_bytes s2 3 (by decide)
 have hl3:=bytes_le s2 3
 have hby:=rftake_any B g s2 3 W6 hR6 (by omega)
 unfold GivesTf at hby
 generalize RS.bytes s2 3=y at *
 obtain⟨y,s3⟩:=y
 dsimp only at T3 hby hl3
 go_wp2_with fail
 refine hby.mono ?_
 rintro e W7 ⟨hR7,hg7,a7,c7,rfl,hrd7,hty7⟩
 have hb7:Below W0.heap.size W0 W7:=hb6.trans (below_of_grown hg7 hg0 hR6.lt)
 have q7:W7.heap[ob]?=some (RV.box ⟨n1,n2,zeroV⟩):=(hg7.block _ (Array.getElem?_eq_some_iff.1 q6).1 (fun e=>hgo (Option.some.inj e).symm)).trans q6
 clear hby q6 hR6 hb6 hg7
 go_wp2_with fail
 refine (rOpOf_any B y a7 y.length c7 W7 hrd7 (Nat.le_trans hBW0 hb7.size) hty7 (by omega)).mono ?_
 rintro e W8 ⟨hb8',hO⟩
 have hR8:=hR7.later hb8'
 have q8:W8.heap[ob]?=some (RV.box ⟨n1,n2,zeroV⟩):=(hb8'.block _ (Array.getElem?_eq_some_iff.1 q7).1).trans q7
 have hb8:=hb7.trans (hb8'.mono hb7.size)
 obtain⟨ok,Y,cY,rfl,oY,tY,hans⟩:∃(ok:Bool) (Y:OV) (cY:OC),e=.returned (.tuple #[Y.val,.bool ok])∧OpAt W8 Y cY∧OpTyB B W8 Y∧((ok=true∧mayOp Y cY=true∧opL Y cY=y)∨(ok=false∧NoOp y)):=by
  rcases hO with ⟨Y,cY,rfl,oY,tY,mY,lY⟩ | ⟨rfl,n1⟩
  ·exact⟨true,Y,cY,rfl,oY,tY,.inl ⟨rfl,mY,lY⟩⟩
  exact⟨false,zeroV,⟨[],[],[]⟩,rfl,⟨Rd.nil _ _,Rd.nil _ _,Rd.nil _ _,Nat.zero_le _,Nat.zero_le _,Nat.zero_le _⟩,⟨fun h=>absurd h (Nat.lt_irrefl 0),fun h=>absurd h (Nat.lt_irrefl 0),fun h=>absurd h (Nat.lt_irrefl 0)⟩,.inr ⟨rfl,n1⟩⟩
 clear hO hR7 q7 hb7 hb8'
 have HA:=hid hans
 clear hans
 unfold OV.val
 go_upto_region 6 with (refine wpList_store_new rfl rfl rfl rfl (by kernel_rfl) rfl (by kernel_rfl) ?_;go_simp)
 generalize hg:W8.alloc _=W9
 have e9:W8.alloc Y.box=W9:=hg
 have hb9:Below W8.heap.size W8 W9:=by rw[←e9];exact (Below.refl _ _).alloc (Nat.le_refl _) _
 have q9y:W9.heap[W8.heap.size]?=some Y.box:=by rw[←e9];show (W8.heap.push _)[W8.heap.size]?=some _;exact Array.getElem?_push_size
 have q9:W9.heap[ob]?=some (RV.box ⟨n1,n2,zeroV⟩):=(hb9.block _ (Array.getElem?_eq_some_iff.1 q8).1).trans q8
 have hR9:=hR8.later hb9
 have hb9':=hb8.trans (hb9.mono hb8.size)
 have oY9:=oY.later hb9
 have tY9:=tY.kpb (KeepB.of_below hb9)
 clear hg e9 q8 oY tY hR8 hb8 hb9
 generalize W8.heap.size=yb at *
 obtain⟨d0,d1,d2,d3,d4,d5,d6,d7,d8,d9⟩:=rbox_all q9
 unfold zeroV at d2 d3 d4 d5 d6 d7 d8
 dsimp only at d0 d1 d2 d3 d4 d5 d6 d7 d8
 go_upto_region 7 with (refine wpList_load_row q9y rfl rfl rfl (by kernel_rfl) (by kernel_rfl) ?_;go_simp)
 generalize hg:World.setCell _ _ _=WA
 have eA:setOp2 W9 ob Y=WA:=hg
 have hkA:∀k,k≠ob→WA.heap[k]?=W9.heap[k]?:=fun k hk=>by rw[←eA];exact setOp2_other hk
 have hsA:WA.heap.size=W9.heap.size:=by rw[←eA];exact setOp2_size
 have qA:WA.heap[ob]?=some (RV.box ⟨n1,n2,Y⟩):=by rw[←eA];exact setOp2_at q9
 have hkrA:=kpb_req q9 (Nat.le_of_eq hsA.symm) hkA hBo
 have hbA:Below W0.heap.size W0 WA:=by rw[←eA];exact hb9'.trans (setOp2_below (Below.refl _ _) hob)
 have oYA:=oY9.kpb tY9 hkrA
 have tYA:=tY9.kpb hkrA
 have hgrA:W9.grownBy WA (some ob):=by
  have hB:Below ob W9 WA:=by rw[←eA];exact setOp2_below (Below.refl _ _) (Nat.le_refl _)
  exact⟨hB.os,hB.tape,hB.output,hB.size,fun k _ hne=>hkA k (fun e=>hne (by rw[e]))⟩
 have hRA:=hR9.grown hgrA q9 (fun c fr h=>by cases h) hgo hBo
 clear hg eA d0 d1 d2 d3 d4 d5 d6 d7 d8 d9 hkA hsA hkrA oY9 tY9 hb9' hgrA q9 q9y hR9
 have hrz:WA.heap[w.heap.size]?=some zeroR.box:=(hbA.block _ (by omega)).trans k0f
 have hbel:=hb0.trans (hbA.mono (by omega))
 have hfin:∀cs:Array Value,(WA.setRow w.heap.size cs).heap[w.heap.size]?=some (.cells cs 43)∧Below w.heap.size w (WA.setRow w.heap.size cs):=fun cs=>
  ⟨setRow_at' hrz,below_setRow hbel (Nat.le_refl _) cs⟩
 rcases HA.out with ⟨rfl,mY,lY⟩ | ⟨rfl,nY⟩
 ·have HM:=hid (And.intro mY lY)
  clear mY lY
  go_wp2_with fail
  refine (rfdone_any B g s3 WA hRA).mono ?_
  rintro e w9 ⟨rfl,rfl⟩
  by_cases he:s3.bad=false∧s3.l=[]
  ·have f0:decide (s3.bad=false∧s3.l=[])=true:=decide_eq_true he
   obtain⟨hd,h64,u64⟩:=req_done T1 T2 T3 he.1 he.2
   have hout:U64R ⟨n1,n2,Y⟩∧reqL ⟨n1,n2,Y⟩ (opL Y cY)=b:=by
    refine⟨⟨by dsimp only;omega,by dsimp only;omega,by dsimp only;omega,by dsimp only;omega⟩,?_⟩
    rw[hd,req_split,HM.out.2]
    rfl
   have HO:=hid hout
   obtain⟨f1,f2⟩:=hfin (RV.cells ⟨n1,n2,Y⟩)
   have hkr:=kpb_req (B:=B) hrz (below_setRow (Below.refl w.heap.size WA) (Nat.le_refl _) (RV.cells ⟨n1,n2,Y⟩)).size (fun k hk=>setRow_other WA w.heap.size k (RV.cells ⟨n1,n2,Y⟩) hk) hB
   have oF:=oYA.kpb tYA hkr
   have tF:=tYA.kpb hkr
   clear hout hd he
   go_wp2_with (first | (refine wpList_load_row qA rfl rfl rfl (by kernel_rfl) (by kernel_rfl) ?_;go_simp) | (refine wpList_store_row hrz rfl rfl rfl rfl (by kernel_rfl) rfl (by kernel_rfl) ?_;go_simp))
   exact bodyPost_ret (w:=WA.setRow w.heap.size (RV.cells ⟨n1,n2,Y⟩)) (results_row2 (i:=2) (j:=3) (t:=43) rfl rfl rfl (by kernel_rfl) (by kernel_rfl) f1) rfl ⟨f2,.inl ⟨_,cY,rfl,oF,tF,HO.out.1,HM.out.1,HO.out.2⟩⟩
  have f0:decide (s3.bad=false∧s3.l=[])=false:=decide_eq_false he
  have hno:=req_none T1 T2 T3 (.inl (by
   cases hb:s3.bad with
   | true=>exact .inl rfl
   | false=>exact .inr (List.length_pos_iff.2 (fun h=>he ⟨hb,h⟩))))
  obtain⟨f1,f2⟩:=hfin zeroR.cells
  clear he
  go_wp2_with (refine wpList_store_row hrz rfl rfl rfl rfl (by kernel_rfl) rfl (by kernel_rfl) ?_;go_simp)
  refine bodyPost_ret (w:=WA.setRow w.heap.size zeroR.cells) (results_row2 (i:=2) (j:=3) (t:=43) rfl rfl rfl (by kernel_rfl) (by kernel_rfl) f1) rfl ⟨f2,.inr ⟨rfl,hno⟩⟩
 have hno:=req_none T1 T2 T3 (.inr nY)
 obtain⟨f1,f2⟩:=hfin zeroR.cells
 go_wp2_with (refine wpList_store_row hrz rfl rfl rfl rfl (by kernel_rfl) rfl (by kernel_rfl) ?_;go_simp)
 refine bodyPost_ret (w:=WA.setRow w.heap.size zeroR.cells) (results_row2 (i:=2) (j:=3) (t:=43) rfl rfl rfl (by kernel_rfl) (by kernel_rfl) f1) rfl ⟨f2,.inr ⟨rfl,hno⟩⟩
open Go.ChangeShapes Go.WideShapes Go.Deep
def sameReq (r:RV)(c:OC)(r':RV)(c':OC):Bool:=decide (r.cl=r'.cl)&&decide (r.nu=r'.nu)&&sameOp r.op c r'.op c'
set_option maxRecDepth 100000 in
theorem rSameReq_any (r r':RV)(c c':OC)(w:World)(h:OpAt w r.op c)(h':OpAt w r'.op c') :
  Calls Tryz.prog 23 #[r.val,r'.val] w (GivesB (sameReq r c r' c') w):=by
 have hb0:Below w.heap.size w ((w.alloc r.box).alloc r'.box):=below_two w _ _
 obtain⟨k1,k2⟩:=two_boxes w r.box r'.box
 have hsame:=rSameOp_any r.op r'.op c c' _ (h.later hb0) (h'.later hb0)
 unfold RV.box RV.cells at hb0 k1 k2 hsame
 unfold OV.val at hsame
 unfold RV.val RV.cells
 by_cases e1:r.cl=r'.cl
 case neg=>
  have f1:(r.cl==r'.cl)=false:=by simp[e1]
  have Hs:Hid (sameReq r c r' c'=false):=hid (by unfold sameReq;rw[decide_eq_false e1];simp)
  clear e1 hsame
  go_enter Tryz.func23,Tryz.ntmps23
  go_wp2_with fail
  go_ret
  exact⟨by rw[Hs.out];rfl,hb0⟩
 have f1:(r.cl==r'.cl)=true:=by simp[e1]
 by_cases e2:r.nu=r'.nu
 case neg=>
  have f2:(r.nu==r'.nu)=false:=by simp[e2]
  have Hs:Hid (sameReq r c r' c'=false):=hid (by unfold sameReq;rw[decide_eq_false e2];simp)
  clear e1 e2 hsame
  go_enter Tryz.func23,Tryz.ntmps23
  go_wp2_with fail
  go_ret
  exact⟨by rw[Hs.out];rfl,hb0⟩
 have f2:(r.nu==r'.nu)=true:=by simp[e2]
 have Hs:Hid (sameReq r c r' c'=sameOp r.op c r'.op c'):=hid (by unfold sameReq;rw[decide_eq_true e1,decide_eq_true e2];simp)
 clear e1 e2
 go_enter Tryz.func23,Tryz.ntmps23
 go_wp2_with fail
 refine hsame.mono ?_
 rintro e w1 ⟨rfl,hb1⟩
 rw[←Hs.out]
 go_wp2_with fail
 go_ret
 exact⟨rfl,hb0.trans (hb1.mono hb0.size)⟩
set_option maxRecDepth 100000 in
theorem pSameReq_any (r r':RV)(c c':OC)(w:World)(h:OpAt w r.op c)(h':OpAt w r'.op c') :
  Calls Tryz.prog 22 #[r.val,r'.val] w (GivesB (sameReq r c r' c') w):=by
 have hb0:Below w.heap.size w ((w.alloc r.box).alloc r'.box):=below_two w _ _
 obtain⟨k1,k2⟩:=two_boxes w r.box r'.box
 have hsame:=sameOp_any r.op r'.op c c' _ (h.later hb0) (h'.later hb0)
 unfold RV.box RV.cells at hb0 k1 k2 hsame
 unfold OV.val at hsame
 unfold RV.val RV.cells
 by_cases e1:r.cl=r'.cl
 case neg=>
  have f1:(r.cl==r'.cl)=false:=by simp[e1]
  have Hs:Hid (sameReq r c r' c'=false):=hid (by unfold sameReq;rw[decide_eq_false e1];simp)
  clear e1 hsame
  go_enter Tryz.func22,Tryz.ntmps22
  go_wp2_with fail
  go_ret
  exact⟨by rw[Hs.out];rfl,hb0⟩
 have f1:(r.cl==r'.cl)=true:=by simp[e1]
 by_cases e2:r.nu=r'.nu
 case neg=>
  have f2:(r.nu==r'.nu)=false:=by simp[e2]
  have Hs:Hid (sameReq r c r' c'=false):=hid (by unfold sameReq;rw[decide_eq_false e2];simp)
  clear e1 e2 hsame
  go_enter Tryz.func22,Tryz.ntmps22
  go_wp2_with fail
  go_ret
  exact⟨by rw[Hs.out];rfl,hb0⟩
 have f2:(r.nu==r'.nu)=true:=by simp[e2]
 have Hs:Hid (sameReq r c r' c'=sameOp r.op c r'.op c'):=hid (by unfold sameReq;rw[decide_eq_true e1,decide_eq_true e2];simp)
 clear e1 e2
 go_enter Tryz.func22,Tryz.ntmps22
 go_wp2_with fail
 refine hsame.mono ?_
 rintro e w1 ⟨rfl,hb1⟩
 rw[←Hs.out]
 go_wp2_with fail
 go_ret
 exact⟨rfl,hb0.trans (hb1.mono hb0.size)⟩
theorem U64R.of {p:RP}(h:FitP p):U64R p.1:=⟨h.c0,h.c1,h.n0,h.n1⟩
section
variable {H:Type} {enc:TypeId×Value→H} {W:World}
end
end Go.Proofs.YtgeafnggodkpaaaGreat.Msg
