/-
  A part of the proof.
-/
import Derived.Test.YtfmmandlmbcncaaGreatDoorKbaj
import Derived.Test.YtfmmandlmbcncaaGreatDoorKbar
import Derived.Test.YtfmmandlmbcncaaGreatDoorKbab
import Derived.Test.YtfmmandlmbcncaaGreatDoorKbak
import Derived.Test.YtfmmandlmbcncaaGreatDoorKbay
import Derived.Test.YtfmmandlmbcncaaGreatDoorKbas
set_option maxHeartbeats 40000000
namespace Go.Proofs.YtfmmandlmbcncaaGreatDoor.Msg
open Go.RowKit Go.Lib Go.Proofs.YtfmmandlmbcncaaGreatDoor.Mem Go.Proofs.YtfmmandlmbcncaaGreatDoor.Utf Go.Proofs.YtfmmandlmbcncaaGreatDoor.Tlv
theorem own_lt {W:World}{B size n:Nat}{e:TypeId}{v:Value}{xs:List Value}(h:W.ownsRow B e size v n xs):∀k,v.ownBlock=some k→k<W.heap.size:=by
 intro k hk
 rcases h.2 with ⟨rfl,-⟩ | ⟨g,cap,cur,rfl,-,hg,-⟩
 ·cases hk
 have:g=k:=by simpa [Value.ownBlock] using hk
 subst this
 exact (Array.getElem?_eq_some_iff.1 hg).1
theorem opBy_yes {v:OV}{c:OC}(h:mayOp v c=true):opBy v c=opL v c:=by unfold opBy;rw[if_pos h]
end Go.Proofs.YtfmmandlmbcncaaGreatDoor.Msg
namespace Go.Proofs.YtfmmandlmbcncaaGreatDoor.Msg
open Go.RowKit Go.Lib Go.Proofs.YtfmmandlmbcncaaGreatDoor.Mem Go.Proofs.YtfmmandlmbcncaaGreatDoor.Tlv
structure U64R (r:RV):Prop where
 c0:0≤r.cl
 c1:r.cl<18446744073709551616
 n0:0≤r.nu
 n1:r.nu<18446744073709551616
def NoReq (b:List UInt8):Prop:=∀W r c,OpAt W r.op c→mayOp r.op c=true→U64R r→reqL r (opL r.op c)≠b
theorem opL_len {W:World}{v:OV}{c:OC}(ho:OpAt W v c)(hm:mayOp v c=true):(opL v c).length≤4000000:=by
 have:=(opC_all W v c ho).len
 rw[opBy_yes hm] at this
 exact this
theorem req_split (r:RV)(bl:List UInt8):reqL r bl=val 1 (num8 r.cl.toNat)++(val 2 (num8 r.nu.toNat)++(val 3 bl++[])):=by unfold reqL;simp
theorem req_inj {W W':World}{r r':RV}{c c':OC}(ho:OpAt W r.op c)(ho':OpAt W' r'.op c')(hm:mayOp r.op c=true)(hm':mayOp r'.op c'=true)(hu:U64R r)(hu':U64R r')(h:reqL r (opL r.op c)=reqL r' (opL r'.op c')):r.cl=r'.cl∧r.nu=r'.nu∧sameOp r.op c r'.op c'=true:=by
 have l1:=opL_len ho hm
 have l2:=opL_len ho' hm'
 rw[req_split,req_split] at h
 obtain⟨h1,h⟩:=val_inj (by decide) (by rw[num8_len];omega) (by rw[num8_len];omega) h
 obtain⟨h2,h⟩:=val_inj (by decide) (by rw[num8_len];omega) (by rw[num8_len];omega) h
 obtain⟨h3,-⟩:=val_inj (by decide) (by omega) (by omega) h
 have a0:=hu.c0;have a1:=hu.c1;have a2:=hu.n0;have a3:=hu.n1
 have b0:=hu'.c0;have b1:=hu'.c1;have b2:=hu'.n0;have b3:=hu'.n1
 have e1:=num8_inj (by omega) (by omega) h1
 have e2:=num8_inj (by omega) (by omega) h2
 exact⟨by omega,by omega,op_inj ho ho' hm hm' h3⟩
section
variable {b y:List UInt8} {s1 s2 s3:RS} {n1 n2:Nat}
 (T1:Took (fun n:Nat=>val 1 (num8 n)) (fun n=>n<18446744073709551616) (fun n=>n<18446744073709551616) ⟨b,false⟩ n1 s1)
 (T2:Took (fun n:Nat=>val 2 (num8 n)) (fun n=>n<18446744073709551616) (fun n=>n<18446744073709551616) s1 n2 s2)
 (T3:Took (val 3) (fun z=>z.length≤4194304) (fun z=>z.length≤4194304) s2 y s3)
include T1 T2 T3
theorem req_none (h:(s3.bad=true∨0<s3.l.length)∨NoOp y):NoReq b:=by
 intro W r c ho hm hu e
 have lo:=opL_len ho hm
 rw[req_split] at e
 have a0:=hu.c0;have a1:=hu.c1;have a2:=hu.n0;have a3:=hu.n1
 cases h1:s1.bad with
 | true=>
  rcases T1.no h1 with h | h
  ·cases h
  exact h r.cl.toNat _ (by omega) e.symm
 | false=>
  obtain⟨-,e1,g1⟩:=T1.yes h1
  dsimp only at e1
  rw[e1] at e
  obtain⟨-,e⟩:=val_inj (by decide) (by rw[num8_len];omega) (by rw[num8_len];omega) e
  cases h2:s2.bad with
  | true=>
   rcases T2.no h2 with h | h
   ·rw[h1] at h;cases h
   exact h r.nu.toNat _ (by omega) e.symm
  | false=>
   obtain⟨-,e2,g2⟩:=T2.yes h2
   rw[e2] at e
   obtain⟨-,e⟩:=val_inj (by decide) (by rw[num8_len];omega) (by rw[num8_len];omega) e
   cases h3:s3.bad with
   | true=>
    rcases T3.no h3 with h | h
    ·rw[h2] at h;cases h
    exact h (opL r.op c) [] (by omega) e.symm
   | false=>
    obtain⟨-,e3,g3⟩:=T3.yes h3
    rw[e3] at e
    obtain⟨ey,e⟩:=val_inj (by decide) (by omega) g3 e
    rcases h with (h | h) | h
    ·rw[h3] at h;cases h
    ·rw[←e] at h;simp at h
    exact h W r.op c ho hm ey
theorem req_done (h3:s3.bad=false)(hl:s3.l=[]):b=val 1 (num8 n1)++(val 2 (num8 n2)++(val 3 y++[]))∧n1<18446744073709551616∧n2<18446744073709551616:=by
 obtain⟨h2,e3,-⟩:=T3.yes h3
 obtain⟨h1,e2,g2⟩:=T2.yes h2
 obtain⟨-,e1,g1⟩:=T1.yes h1
 dsimp only at e1
 exact⟨by rw[e1,e2,e3,hl],g1,g2⟩
end
def GivesRq (T:World→OV→Prop)(ok bad:Value)(b:List UInt8)(w:World)(e:Ending)(w':World):Prop:=Below w.heap.size w w' ∧
 ((∃r c,e=.returned (.tuple #[RV.val r,ok])∧OpAt w' r.op c∧T w' r.op∧U64R r∧mayOp r.op c=true∧reqL r (opL r.op c)=b)∨(e=.returned (.tuple #[zeroR.val,bad])∧NoReq b))
theorem setOp2_other {W:World}{b k:Nat}{u:OV}(h:k≠b):(setOp2 W b u).heap[k]?=W.heap[k]?:=by
 unfold setOp2
 simp only[show ∀(X:World) (i:Nat) (x:Value),(X.setCell ⟨b,i,none⟩ x).heap[k]?=X.heap[k]? from fun X i x=>Below.heap_setCell X ⟨b,i,none⟩ x k h]
theorem kpr_req {W W':World}{b:Nat}{r:RV}(h:W.heap[b]?=some r.box)(hs:W.heap.size≤W'.heap.size)(ho:∀k,k≠b→W'.heap[k]?=W.heap[k]?):KeepR W W':=by
 refine⟨hs,fun k c t fr ht hk=>?_⟩
 have hne:k≠b:=fun e=>by
  subst e
  rw[h] at hk
  cases hk
  rcases ht with h | h | h<;>exact absurd h (by decide)
 exact (ho k hne).trans hk
theorem setOp2_size {W:World}{b:Nat}{u:OV}:(setOp2 W b u).heap.size=W.heap.size:=by unfold setOp2;simp only[World.size_setCell]
set_option maxRecDepth 100000 in
theorem requestOf_any (b:List UInt8)(ao:Option Addr)(n cap:Nat)(w:World)(hr:Rd w 1 ao n cap (byV b))(hn:n≤100000000) :
  Calls Tryz.prog 193 #[.slice ao n cap] w (GivesRq OpTy (.int .i64 0) (.int .i64 4) b w):=by
 have hbn:b.length=n:=by have:=hr.1;rw[byV_len] at this;omega
 have hb0:Below w.heap.size w (w.alloc zeroR.box):=(Below.refl _ _).alloc (Nat.le_refl _) _
 have k0:(w.alloc zeroR.box).heap[w.heap.size]?=some zeroR.box:=by show (w.heap.push _)[w.heap.size]?=some _;exact Array.getElem?_push_size
 have hz0:(w.alloc zeroR.box).heap.size=w.heap.size+1:=by simp
 have hr0:=hr.later hb0
 unfold zeroR zeroV RV.box RV.cells at hb0 k0 hz0 hr0
 dsimp only at hb0 k0 hz0 hr0
 clear hr
 go_enter Tryz.func193,Tryz.ntmps193
 go_upto_region 1 with fail
 generalize hg:w.alloc _=W0 at *
 have k0f:W0.heap[w.heap.size]?=some zeroR.box:=k0
 clear hg k0
 go_wp2_with fail
 refine (read_any ao n cap b W0 hr0 (by omega)).mono ?_
 rintro e W1 ⟨g,rfl,hr1,hb1⟩
 have hg0:W0.heap.size≤g:=by obtain⟨_,_,h⟩:=hr1;exact h.le
 have T1:=took_num ⟨b,false⟩ 1 (by decide)
 have hnum1:=rnum_any W0.heap.size g ⟨b,false⟩ 1 W1 hr1 (by dsimp only;omega)
 unfold GivesR at hnum1
 generalize RS.num ⟨b,false⟩ 1=nm at *
 obtain⟨n1,s1⟩:=nm
 dsimp only at T1 hnum1
 go_wp2_with fail
 refine hnum1.mono ?_
 rintro e W2 ⟨rfl,hr2,hg2⟩
 have T2:=took_num s1 2 (by decide)
 have l1:=T1.le
 dsimp only at l1
 have hnum2:=rnum_any W0.heap.size g s1 2 W2 hr2 (by omega)
 unfold GivesR at hnum2
 generalize RS.num s1 2=nm at *
 obtain⟨n2,s2⟩:=nm
 dsimp only at T2 hnum2
 go_wp2_with fail
 refine hnum2.mono ?_
 rintro e W3 ⟨rfl,hr3,hg3⟩
 have l2:=T2.le
 have hb3:Below W0.heap.size W0 W3:=(hb1.trans (below_of_grown hg2 hg0 (by obtain⟨_,_,h⟩:=hr1;exact h.lt))).trans (below_of_grown hg3 hg0 (by obtain⟨_,_,h⟩:=hr2;exact h.lt))
 go_upto_region 3 with (refine wpList_store_new rfl rfl rfl rfl (by kernel_rfl) rfl (by kernel_rfl) ?_;go_simp)
 generalize hg:W3.alloc _=W4
 have e4:W3.alloc (RV.box ⟨n1,n2,zeroV⟩)=W4:=hg
 have hb4':Below W3.heap.size W3 W4:=by rw[←e4];exact (Below.refl _ _).alloc (Nat.le_refl _) _
 have q4:W4.heap[W3.heap.size]?=some (RV.box ⟨n1,n2,zeroV⟩):=by rw[←e4];show (W3.heap.push _)[W3.heap.size]?=some _;exact Array.getElem?_push_size
 have hr4:=hr3.later hb4'
 have hb4:=hb3.trans (hb4'.mono hb3.size)
 have hob:W0.heap.size≤W3.heap.size:=hb3.size
 have hgo:g≠W3.heap.size:=by obtain⟨_,_,h⟩:=hr3;have:=h.lt;omega
 clear hg e4 hnum1 hnum2 hb1 hr1 hr2 hr3 hg2 hg3 hb3 hb4'
 generalize W3.heap.size=ob at *
 have T3:=took_bytes s2 3 (by decide)
 have hl3:=bytes_le s2 3
 have hby:=rbytes2_any W0.heap.size g s2 3 W4 hr4 (by omega)
 generalize RS.bytes s2 3=y at *
 obtain⟨y,s3⟩:=y
 dsimp only at T3 hby hl3
 go_wp2_with fail
 refine hby.mono ?_
 rintro e W5 ⟨a5,c5,rfl,hrd5,hty5,hr5,hg5⟩
 have hb5:Below W0.heap.size W0 W5:=hb4.trans (below_of_grown hg5 hg0 (by obtain⟨_,_,h⟩:=hr4;exact h.lt))
 have q5:W5.heap[ob]?=some (RV.box ⟨n1,n2,zeroV⟩):=(hg5.block _ (Array.getElem?_eq_some_iff.1 q4).1 (fun e=>hgo (Option.some.inj e).symm)).trans q4
 clear hby q4 hr4 hb4 hg5
 go_wp2_with fail
 refine (opOf_any y a5 y.length c5 W5 hrd5 (by omega)).mono ?_
 rintro e W6 ⟨hb6,hO⟩
 have hr6:=hr5.later hb6
 have q6:W6.heap[ob]?=some (RV.box ⟨n1,n2,zeroV⟩):=(hb6.block _ (Array.getElem?_eq_some_iff.1 q5).1).trans q5
 have hb6':=hb5.trans (hb6.mono hb5.size)
 obtain⟨f,Y,cY,rfl,oY,tY,hans⟩:∃(f:Int) (Y:OV) (cY:OC),e=.returned (.tuple #[Y.val,.int .i64 f])∧OpAt W6 Y cY∧OpTy W6 Y∧((f=0∧mayOp Y cY=true∧opL Y cY=y)∨(f=4∧NoOp y)):=by
  rcases hO with ⟨Y,cY,rfl,oY,tY,mY,lY⟩ | ⟨rfl,n1⟩
  ·exact⟨0,Y,cY,rfl,oY,tY,.inl ⟨rfl,mY,lY⟩⟩
  exact⟨4,zeroV,⟨[],[],[]⟩,rfl,⟨Rd.nil _ _,Rd.nil _ _,Rd.nil _ _,Nat.zero_le _,Nat.zero_le _,Nat.zero_le _⟩,⟨fun h=>absurd h (Nat.lt_irrefl 0),fun h=>absurd h (Nat.lt_irrefl 0),fun h=>absurd h (Nat.lt_irrefl 0)⟩,.inr ⟨rfl,n1⟩⟩
 clear hO hr5 q5 hb5 hb6
 have HA:=hid hans
 clear hans
 have hrz6:W6.heap[w.heap.size]?=some zeroR.box:=(hb6'.block _ (by omega)).trans k0f
 obtain⟨d0,d1,d2,d3,d4,d5,d6,d7,d8,d9⟩:=rbox_all q6
 dsimp only at d0 d1 d2 d3 d4 d5 d6 d7 d8
 unfold OV.val
 go_upto_region 4 with (refine wpList_store_new rfl rfl rfl rfl (by kernel_rfl) rfl (by kernel_rfl) ?_;go_simp)
 generalize hg:W6.alloc _=W7
 have e7:W6.alloc Y.box=W7:=hg
 have hb7:Below W6.heap.size W6 W7:=by rw[←e7];exact (Below.refl _ _).alloc (Nat.le_refl _) _
 have q7y:W7.heap[W6.heap.size]?=some Y.box:=by rw[←e7];show (W6.heap.push _)[W6.heap.size]?=some _;exact Array.getElem?_push_size
 have q7:W7.heap[ob]?=some (RV.box ⟨n1,n2,zeroV⟩):=(hb7.block _ (Array.getElem?_eq_some_iff.1 q6).1).trans q6
 have hr7:=hr6.later hb7
 have hb7':=hb6'.trans (hb7.mono hb6'.size)
 have oY7:=oY.later hb7
 have tY7:=tY.kpr (KeepR.of_below hb7)
 have hzy:ob≠W6.heap.size:=by have:=(Array.getElem?_eq_some_iff.1 q6).1;omega
 clear hg e7 d0 d1 d2 d3 d4 d5 d6 d7 d8 d9 q6 oY tY hr6 hrz6 hb6' hb7
 generalize W6.heap.size=yb at *
 obtain⟨d0,d1,d2,d3,d4,d5,d6,d7,d8,d9⟩:=rbox_all q7
 dsimp only at d0 d1 d2 d3 d4 d5 d6 d7 d8
 go_upto_region 5 with (refine wpList_load_row q7y rfl rfl rfl (by kernel_rfl) (by kernel_rfl) ?_;go_simp)
 generalize hg:World.setCell _ _ _=W8
 have e8:setOp2 W7 ob Y=W8:=hg
 have hk8:∀k,k≠ob→W8.heap[k]?=W7.heap[k]?:=fun k hk=>by rw[←e8];exact setOp2_other hk
 have hs8:W8.heap.size=W7.heap.size:=by rw[←e8];exact setOp2_size
 have q8:W8.heap[ob]?=some (RV.box ⟨n1,n2,Y⟩):=by rw[←e8];exact setOp2_at q7
 have hkr8:=kpr_req q7 (Nat.le_of_eq hs8.symm) hk8
 have hb8:Below W0.heap.size W0 W8:=by rw[←e8];exact hb7'.trans (setOp2_below (Below.refl _ _) hob)
 have oY8:=oY7.kpr tY7 hkr8
 have tY8:=tY7.kpr hkr8
 have hgr8:W7.grownBy W8 (some ob):=by
  have hB:Below ob W7 W8:=by rw[←e8];exact setOp2_below (Below.refl _ _) (Nat.le_refl _)
  exact⟨hB.os,hB.tape,hB.output,hB.size,fun k _ hne=>hk8 k (fun e=>hne (by rw[e]))⟩
 have hr8:=hr7.grown hgr8 q7 (fun c fr h=>by cases h) hgo
 clear hg e8 d0 d1 d2 d3 d4 d5 d6 d7 d8 d9 hk8 hs8 hkr8 oY7 tY7 hb7' hgr8 q7 q7y hr7
 have hrz:W8.heap[w.heap.size]?=some zeroR.box:=(hb8.block _ (by omega)).trans k0f
 have hbel:=hb0.trans (hb8.mono (by omega))
 have hfin:∀cs:Array Value,(W8.setRow w.heap.size cs).heap[w.heap.size]?=some (.cells cs 55)∧Below w.heap.size w (W8.setRow w.heap.size cs):=fun cs=>
  ⟨setRow_at' hrz,below_setRow hbel (Nat.le_refl _) cs⟩
 rcases HA.out with ⟨rfl,mY,lY⟩ | ⟨rfl,nY⟩
 ·have HM:=hid (And.intro mY lY)
  clear mY lY
  go_wp2_with fail
  refine (rend_any W0.heap.size g s3 W8 hr8).mono ?_
  rintro e w9 ⟨rfl,rfl⟩
  by_cases he:s3.bad=true∨0<s3.l.length
  ·have e4:s3.ends=4:=if_pos he
   have hno:=req_none T1 T2 T3 (.inl he)
   rw[e4]
   obtain⟨f1,f2⟩:=hfin zeroR.cells
   go_wp2_with (refine wpList_store_row hrz rfl rfl rfl rfl (by kernel_rfl) rfl (by kernel_rfl) ?_;go_simp)
   refine bodyPost_ret (w:=W8.setRow w.heap.size zeroR.cells) (results_row2 (i:=2) (j:=3) (t:=55) rfl rfl rfl (by kernel_rfl) (by kernel_rfl) f1) rfl ⟨f2,.inr ⟨rfl,hno⟩⟩
  have e4:s3.ends=0:=if_neg he
  have hs1:s3.bad=false:=by cases h:s3.bad with
   | true=>exact absurd (.inl h) he
   | false=>rfl
  have hs2:s3.l=[]:=List.eq_nil_of_length_eq_zero (by
   have:¬0<s3.l.length:=fun h=>he (.inr h)
   omega)
  rw[e4]
  obtain⟨hd,h64,u64⟩:=req_done T1 T2 T3 hs1 hs2
  have hout:U64R ⟨n1,n2,Y⟩∧reqL ⟨n1,n2,Y⟩ (opL Y cY)=b:=by
   refine⟨⟨by dsimp only;omega,by dsimp only;omega,by dsimp only;omega,by dsimp only;omega⟩,?_⟩
   rw[hd,req_split,HM.out.2]
   rfl
  have HO:=hid hout
  obtain⟨f1,f2⟩:=hfin (RV.cells ⟨n1,n2,Y⟩)
  have hkr:=kpr_req hrz (below_setRow (Below.refl w.heap.size W8) (Nat.le_refl _) (RV.cells ⟨n1,n2,Y⟩)).size (fun k hk=>setRow_other W8 w.heap.size k (RV.cells ⟨n1,n2,Y⟩) hk)
  have oF:=oY8.kpr tY8 hkr
  have tF:=tY8.kpr hkr
  clear hout hd
  go_wp2_with (first | (refine wpList_load_row q8 rfl rfl rfl (by kernel_rfl) (by kernel_rfl) ?_;go_simp) | (refine wpList_store_row hrz rfl rfl rfl rfl (by kernel_rfl) rfl (by kernel_rfl) ?_;go_simp))
  exact bodyPost_ret (w:=W8.setRow w.heap.size (RV.cells ⟨n1,n2,Y⟩)) (results_row2 (i:=2) (j:=3) (t:=55) rfl rfl rfl (by kernel_rfl) (by kernel_rfl) f1) rfl ⟨f2,.inl ⟨_,cY,rfl,oF,tF,HO.out.1,HM.out.1,HO.out.2⟩⟩
 have hno:=req_none T1 T2 T3 (.inr nY)
 obtain⟨f1,f2⟩:=hfin zeroR.cells
 go_wp2_with (refine wpList_store_row hrz rfl rfl rfl rfl (by kernel_rfl) rfl (by kernel_rfl) ?_;go_simp)
 refine bodyPost_ret (w:=W8.setRow w.heap.size zeroR.cells) (results_row2 (i:=2) (j:=3) (t:=55) rfl rfl rfl (by kernel_rfl) (by kernel_rfl) f1) rfl ⟨f2,.inr ⟨rfl,hno⟩⟩
open Go.ChangeShapes Go.WideShapes Go.Deep
def sameReq (r:RV)(c:OC)(r':RV)(c':OC):Bool:=decide (r.cl=r'.cl)&&decide (r.nu=r'.nu)&&sameOp r.op c r'.op c'
set_option maxRecDepth 100000 in
theorem rSameReq_any (r r':RV)(c c':OC)(w:World)(h:OpAt w r.op c)(h':OpAt w r'.op c') :
  Calls Tryz.prog 63 #[r.val,r'.val] w (GivesB (sameReq r c r' c') w):=by
 have hb0:Below w.heap.size w ((w.alloc r.box).alloc r'.box):=below_two w _ _
 obtain⟨k1,k2⟩:=two_boxes w r.box r'.box
 have hsame:=rSameOp_any r.op r'.op c c' _ (h.later hb0) (h'.later hb0)
 unfold RV.box RV.cells at hb0 k1 k2 hsame
 unfold OV.val at hsame
 unfold RV.val RV.cells
 by_cases e1:r.cl=r'.cl
 case neg=>
  have f1:(r.cl==r'.cl)=false:=by simp[e1]
  have Hs:Hid (sameReq r c r' c'=false):=Lib.hid (by unfold sameReq;rw[decide_eq_false e1];simp)
  clear e1 hsame
  go_enter Tryz.func63,Tryz.ntmps63
  go_wp2_with fail
  go_ret
  exact⟨by rw[Hs.out];rfl,hb0⟩
 have f1:(r.cl==r'.cl)=true:=by simp[e1]
 by_cases e2:r.nu=r'.nu
 case neg=>
  have f2:(r.nu==r'.nu)=false:=by simp[e2]
  have Hs:Hid (sameReq r c r' c'=false):=Lib.hid (by unfold sameReq;rw[decide_eq_false e2];simp)
  clear e1 e2 hsame
  go_enter Tryz.func63,Tryz.ntmps63
  go_wp2_with fail
  go_ret
  exact⟨by rw[Hs.out];rfl,hb0⟩
 have f2:(r.nu==r'.nu)=true:=by simp[e2]
 have Hs:Hid (sameReq r c r' c'=sameOp r.op c r'.op c'):=Lib.hid (by unfold sameReq;rw[decide_eq_true e1,decide_eq_true e2];simp)
 clear e1 e2
 go_enter Tryz.func63,Tryz.ntmps63
 go_wp2_with fail
 refine hsame.mono ?_
 rintro e w1 ⟨rfl,hb1⟩
 rw[←Hs.out]
 go_wp2_with fail
 go_ret
 exact⟨rfl,hb0.trans (hb1.mono hb0.size)⟩
set_option maxRecDepth 100000 in
theorem pSameReq_any (r r':RV)(c c':OC)(w:World)(h:OpAt w r.op c)(h':OpAt w r'.op c') :
  Calls Tryz.prog 138 #[r.val,r'.val] w (GivesB (sameReq r c r' c') w):=by
 have hb0:Below w.heap.size w ((w.alloc r.box).alloc r'.box):=below_two w _ _
 obtain⟨k1,k2⟩:=two_boxes w r.box r'.box
 have hsame:=sameOp_any r.op r'.op c c' _ (h.later hb0) (h'.later hb0)
 unfold RV.box RV.cells at hb0 k1 k2 hsame
 unfold OV.val at hsame
 unfold RV.val RV.cells
 by_cases e1:r.cl=r'.cl
 case neg=>
  have f1:(r.cl==r'.cl)=false:=by simp[e1]
  have Hs:Hid (sameReq r c r' c'=false):=Lib.hid (by unfold sameReq;rw[decide_eq_false e1];simp)
  clear e1 hsame
  go_enter Tryz.func138,Tryz.ntmps138
  go_wp2_with fail
  go_ret
  exact⟨by rw[Hs.out];rfl,hb0⟩
 have f1:(r.cl==r'.cl)=true:=by simp[e1]
 by_cases e2:r.nu=r'.nu
 case neg=>
  have f2:(r.nu==r'.nu)=false:=by simp[e2]
  have Hs:Hid (sameReq r c r' c'=false):=Lib.hid (by unfold sameReq;rw[decide_eq_false e2];simp)
  clear e1 e2 hsame
  go_enter Tryz.func138,Tryz.ntmps138
  go_wp2_with fail
  go_ret
  exact⟨by rw[Hs.out];rfl,hb0⟩
 have f2:(r.nu==r'.nu)=true:=by simp[e2]
 have Hs:Hid (sameReq r c r' c'=sameOp r.op c r'.op c'):=Lib.hid (by unfold sameReq;rw[decide_eq_true e1,decide_eq_true e2];simp)
 clear e1 e2
 go_enter Tryz.func138,Tryz.ntmps138
 go_wp2_with fail
 refine hsame.mono ?_
 rintro e w1 ⟨rfl,hb1⟩
 rw[←Hs.out]
 go_wp2_with fail
 go_ret
 exact⟨rfl,hb0.trans (hb1.mono hb0.size)⟩
theorem U64R.of {p:RP}(h:FitP p):U64R p.1:=⟨h.c0,h.c1,h.n0,h.n1⟩
section
variable {H:Type} {enc:TypeId×Value→H} {W:World}
end
end Go.Proofs.YtfmmandlmbcncaaGreatDoor.Msg
