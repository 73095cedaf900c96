/-
  A part of the proof.
-/
import Derived.Test.YtfmmandlmbcncaaGreatDoorKbbc
import Derived.Test.YtfmmandlmbcncaaGreatDoorKbbb
import Derived.Test.YtfmmandlmbcncaaGreatDoorKbay
import Derived.Test.YtfmmandlmbcncaaGreatDoorKbab
set_option maxHeartbeats 40000000
namespace Go.Proofs.YtfmmandlmbcncaaGreatDoor.Msg
open Go.RowKit Go.Lib Go.Proofs.YtfmmandlmbcncaaGreatDoor.Mem Go.Proofs.YtfmmandlmbcncaaGreatDoor.Tlv
def NoEnt (b:List UInt8):Prop:=∀v x,mayEntry v x=true→entL v x≠b
theorem ent_split (v:EV)(x:List (ByteArray×ByteArray)):entL v x=val 1 v.name.data.toList++(val 2 (attB x)++[]):=by unfold entL;simp
theorem mayEntry_name {v v':EV}{x:List (ByteArray×ByteArray)}(h:v.name=v'.name):mayEntry v x=mayEntry v' x:=by unfold mayEntry;rw[h]
theorem ent_inj {v v':EV}{x x':List (ByteArray×ByteArray)}(hm:mayEntry v x=true)(hm':mayEntry v' x'=true)(h:entL v x=entL v' x'):sameEntry v x v' x'=true:=by
 have f:=FitE.of hm
 have f':=FitE.of hm'
 have n1:=f.name;have n2:=f'.name;have a1:=f.len;have a2:=f'.len
 have z1:v.name.data.toList.length=v.name.size:=sz_len _
 have z2:v'.name.data.toList.length=v'.name.size:=sz_len _
 rw[ent_split,ent_split] at h
 obtain⟨h1,h⟩:=val_inj (by decide) (by omega) (by omega) h
 obtain⟨h2,-⟩:=val_inj (by decide) (by omega) (by omega) h
 have h3:=attB_inj x x' (by omega) (by omega) h2
 unfold sameEntry
 rw[decide_eq_true (ba_data h1),decide_eq_true h3]
 rfl
section
variable {b y:List UInt8} {s1 s2:RS} {xs:List (ByteArray×ByteArray)}
 (T1:Took (val 1) (fun z=>z.length≤4194304) (fun z=>z.length≤4194304) ⟨b,false⟩ y s1)
 (T2:Took (fun ys=>val 2 (attB ys)) (fun ys=>mayAttrs ys=true∧(attB ys).length≤4194304) (fun ys=>(attB ys).length≤4194304) s1 xs s2)
include T1 T2
theorem ent_none {v0:EV}(hv:v0.name=⟨y.toArray⟩)(h:(s2.bad=true∨0<s2.l.length)∨mayEntry v0 xs=false):NoEnt b:=by
 intro v x hm e
 have f:=FitE.of hm
 have n1:=f.name;have a1:=f.len
 have z1:v.name.data.toList.length=v.name.size:=sz_len _
 have hma:mayAttrs x=true:=by
  unfold mayEntry at hm
  simp only[Bool.and_eq_true] at hm
  exact hm.2
 rw[ent_split] at e
 cases h1:s1.bad with
 | true=>
  rcases T1.no h1 with h | h
  ·cases h
  exact h _ _ (by omega) e.symm
 | false=>
  obtain⟨-,e1,g1⟩:=T1.yes h1
  dsimp only at e1
  rw[e1] at e
  obtain⟨en,e⟩:=val_inj (by decide) (by omega) g1 e
  cases h2:s2.bad with
  | true=>
   rcases T2.no h2 with h | h
   ·rw[h1] at h;cases h
   exact h x [] ⟨hma,by omega⟩ e.symm
  | false=>
   obtain⟨-,e2,g2⟩:=T2.yes h2
   rw[e2] at e
   obtain⟨ea,e⟩:=val_inj (by decide) (by omega) g2 e
   have hx:=attB_inj x xs (by omega) g2 ea
   rcases h with (h | h) | h
   ·rw[h2] at h;cases h
   ·rw[←e] at h;simp at h
   have hn:v.name=v0.name:=by
    rw[hv]
    refine ba_data ?_
    rw[en]
   rw[←hx,←mayEntry_name hn,hm] at h
   cases h
theorem ent_done {v0:EV}(hv:v0.name=⟨y.toArray⟩)(h2:s2.bad=false)(hl:s2.l=[]):entL v0 xs=b:=by
 obtain⟨h1,e2,-⟩:=T2.yes h2
 obtain⟨-,e1,-⟩:=T1.yes h1
 dsimp only at e1
 rw[ent_split,hv,e1,e2,hl]
end
theorem took_weaken {α:Type}{body:α→List UInt8}{may may' good good':α→Prop}{s s':RS}{y:α}(h:Took body may good s y s')(h1:∀z,may' z→may z)(h2:∀z,good z→good' z):Took body may' good' s y s':=
 ⟨fun hb=>by obtain⟨a,b,c⟩:=h.yes hb;exact⟨a,b,h2 _ c⟩,fun hb=>(h.no hb).imp id (fun k z r hz=>k z r (h1 z hz)),h.le⟩
def GivesEo (ok bad:Value)(b:List UInt8)(w:World)(e:Ending)(w':World):Prop:=Below w.heap.size w w' ∧
 ((∃v x,e=.returned (.tuple #[EV.val v,ok])∧EAt w' v x∧TyX 106 w' v.ao v.ac∧mayEntry v x=true∧entL v x=b)∨(e=.returned (.tuple #[zeroE.val,bad])∧NoEnt b))
theorem kpr_ent {W W':World}{b:Nat}{r:EV}(h:W.heap[b]?=some r.box)(hs:W.heap.size≤W'.heap.size)(ho:∀k,k≠b→W'.heap[k]?=W.heap[k]?):KeepR W W':=by
 refine⟨hs,fun k c t fr ht hk=>?_⟩
 have hne:k≠b:=fun e=>by
  subst e
  rw[h] at hk
  cases hk
  rcases ht with h | h | h<;>exact absurd h (by decide)
 exact (ho k hne).trans hk
set_option maxRecDepth 100000 in
theorem entOf_any (b:List UInt8)(ao:Option Addr)(n cap:Nat)(w:World)(hr:Rd w 1 ao n cap (byV b))(hn:n≤100000000) :
  Calls Tryz.prog 231 #[.slice ao n cap] w (GivesEo (.int .i64 0) (.int .i64 4) b w):=by
 have hbn:b.length=n:=by have:=hr.1;rw[byV_len] at this;omega
 have hb0:Below w.heap.size w (w.alloc zeroE.box):=(Below.refl _ _).alloc (Nat.le_refl _) _
 have k0:(w.alloc zeroE.box).heap[w.heap.size]?=some zeroE.box:=by show (w.heap.push _)[w.heap.size]?=some _;exact Array.getElem?_push_size
 have hz0:(w.alloc zeroE.box).heap.size=w.heap.size+1:=by simp
 have hr0:=hr.later hb0
 unfold zeroE EV.box EV.cells at hb0 k0 hz0 hr0
 dsimp only at hb0 k0 hz0 hr0
 clear hr
 go_enter Tryz.func231,Tryz.ntmps231
 go_upto_region 1 with fail
 generalize hg:w.alloc _=W0 at *
 have k0f:W0.heap[w.heap.size]?=some zeroE.box:=k0
 clear hg k0
 go_wp2_with fail
 refine (read_any ao n cap b W0 hr0 (by omega)).mono ?_
 rintro e W1 ⟨g,rfl,hr1,hb1⟩
 have hg0:W0.heap.size≤g:=by obtain⟨_,_,h⟩:=hr1;exact h.le
 have T1:=took_bytes ⟨b,false⟩ 1 (by decide)
 have htx:=rtext_any W0.heap.size g ⟨b,false⟩ 1 W1 hr1 (by dsimp only;omega)
 generalize RS.bytes ⟨b,false⟩ 1=nm at *
 obtain⟨y,s1⟩:=nm
 dsimp only at T1 htx
 go_wp2_with fail
 refine htx.mono ?_
 rintro e W2 ⟨rfl,hr2,hg2⟩
 have l1:=T1.le
 dsimp only at l1
 have hb2:Below W0.heap.size W0 W2:=hb1.trans (below_of_grown hg2 hg0 (by obtain⟨_,_,h⟩:=hr1;exact h.lt))
 go_wp2_with fail
 refine (entTake_any W0.heap.size g s1 2 W2 (by decide) hr2 (by omega)).mono ?_
 rintro e W3 ⟨a3,n3,c3,xs,s2,rfl,hrd3,hn3,hty3,hr3,hg3,T2'⟩
 have T2:=took_weaken T2' (may':=fun ys=>mayAttrs ys=true∧(attB ys).length≤4194304) (good':=fun ys=>(attB ys).length≤4194304) (fun _ h=>h) (fun _ h=>h.2)
 have hb3:Below W0.heap.size W0 W3:=hb2.trans (below_of_grown hg3 hg0 (by obtain⟨_,_,h⟩:=hr2;exact h.lt))
 clear T2' htx hg2 hg3 hr1 hr2 hb1 hb2
 go_upto_region 3 with (refine wpList_store_new rfl rfl rfl rfl (by kernel_rfl) rfl (by kernel_rfl) ?_;go_simp)
 generalize hg:W3.alloc _=W4
 have e4:W3.alloc (EV.box ⟨⟨y.toArray⟩,a3,n3,c3⟩)=W4:=hg
 have hb4':Below W3.heap.size W3 W4:=by rw[←e4];exact (Below.refl _ _).alloc (Nat.le_refl _) _
 have q4:W4.heap[W3.heap.size]?=some (EV.box ⟨⟨y.toArray⟩,a3,n3,c3⟩):=by rw[←e4];show (W3.heap.push _)[W3.heap.size]?=some _;exact Array.getElem?_push_size
 have hr4:=hr3.later hb4'
 have hb4:=hb3.trans (hb4'.mono hb3.size)
 have hE:EAt W4 ⟨⟨y.toArray⟩,a3,n3,c3⟩ xs:=⟨hrd3.later hb4',by dsimp only;omega⟩
 have hT:TyX 106 W4 a3 c3:=hty3.kpr (.inr (.inr rfl)) (KeepR.of_below hb4')
 clear hg e4 hr3 hb3 hb4' hrd3 hty3
 generalize W3.heap.size=ob at *
 have hrz:W4.heap[w.heap.size]?=some zeroE.box:=(hb4.block _ (by omega)).trans k0f
 have hbel:=hb0.trans (hb4.mono (by omega))
 go_wp2_with fail
 refine (rend_any W0.heap.size g s2 W4 hr4).mono ?_
 rintro e w9 ⟨rfl,rfl⟩
 by_cases he:s2.bad=true∨0<s2.l.length
 ·have e4:s2.ends=4:=if_pos he
  have hno:=ent_none T1 T2 (v0:=⟨⟨y.toArray⟩,a3,n3,c3⟩) rfl (.inl he)
  rw[e4]
  have f1:(W4.setRow w.heap.size zeroE.cells).heap[w.heap.size]?=some (.cells zeroE.cells 124):=setRow_at' hrz
  have f2:=below_setRow hbel (Nat.le_refl _) zeroE.cells
  go_wp2_with (refine wpList_store_row hrz rfl rfl rfl rfl (by kernel_rfl) rfl (by kernel_rfl) ?_;go_simp)
  exact bodyPost_ret (w:=W4.setRow w.heap.size zeroE.cells) (results_row2 (i:=2) (j:=3) (t:=124) rfl rfl rfl (by kernel_rfl) (by kernel_rfl) f1) rfl ⟨f2,.inr ⟨rfl,hno⟩⟩
 have e4:s2.ends=0:=if_neg he
 have hs1:s2.bad=false:=by cases h:s2.bad with
  | true=>exact absurd (.inl h) he
  | false=>rfl
 have hs2:s2.l=[]:=List.eq_nil_of_length_eq_zero (by
  have:¬0<s2.l.length:=fun h=>he (.inr h)
  omega)
 rw[e4]
 have hdone:=ent_done T1 T2 (v0:=⟨⟨y.toArray⟩,a3,n3,c3⟩) rfl hs1 hs2
 have HD:=hid hdone
 have hme:=mayEntry_any ⟨⟨y.toArray⟩,a3,n3,c3⟩ xs W4 hE
 have HN:mayEntry ⟨⟨y.toArray⟩,a3,n3,c3⟩ xs=false→NoEnt b:=fun h=>ent_none T1 T2 (v0:=⟨⟨y.toArray⟩,a3,n3,c3⟩) rfl (.inr h)
 have HNo:=hid HN
 clear hdone he HN T1 T2
 unfold EV.val EV.cells at hme
 go_wp2_with (refine wpList_load_row q4 rfl rfl rfl (by kernel_rfl) (by kernel_rfl) ?_;go_simp)
 refine hme.mono ?_
 rintro e W5 ⟨rfl,hb5⟩
 have hrz5:=(hb5.block _ (Array.getElem?_eq_some_iff.1 hrz).1).trans hrz
 have q5:=(hb5.block _ (Array.getElem?_eq_some_iff.1 q4).1).trans q4
 have hbel5:=hbel.trans (hb5.mono hbel.size)
 have hE5:=hE.later hb5
 have hT5:TyX 106 W5 a3 c3:=hT.kpr (.inr (.inr rfl)) (KeepR.of_below hb5)
 clear hme hE hT hrz q4 hbel hb5
 cases hm:mayEntry ⟨⟨y.toArray⟩,a3,n3,c3⟩ xs with
 | false=>
  have hno:=HNo.out hm
  have f1:(W5.setRow w.heap.size zeroE.cells).heap[w.heap.size]?=some (.cells zeroE.cells 124):=setRow_at' hrz5
  have f2:=below_setRow hbel5 (Nat.le_refl _) zeroE.cells
  clear hm
  go_wp2_with (refine wpList_store_row hrz5 rfl rfl rfl rfl (by kernel_rfl) rfl (by kernel_rfl) ?_;go_simp)
  exact bodyPost_ret (w:=W5.setRow w.heap.size zeroE.cells) (results_row2 (i:=2) (j:=3) (t:=124) rfl rfl rfl (by kernel_rfl) (by kernel_rfl) f1) rfl ⟨f2,.inr ⟨rfl,hno⟩⟩
 | true=>
  have HM:=hid hm
  have f1:(W5.setRow w.heap.size (EV.cells ⟨⟨y.toArray⟩,a3,n3,c3⟩)).heap[w.heap.size]?=some (.cells (EV.cells ⟨⟨y.toArray⟩,a3,n3,c3⟩) 124):=setRow_at' hrz5
  have f2:=below_setRow hbel5 (Nat.le_refl _) (EV.cells ⟨⟨y.toArray⟩,a3,n3,c3⟩)
  have hkr:=kpr_ent hrz5 (below_setRow (Below.refl w.heap.size W5) (Nat.le_refl _) (EV.cells ⟨⟨y.toArray⟩,a3,n3,c3⟩)).size (fun k hk=>setRow_other W5 w.heap.size k (EV.cells ⟨⟨y.toArray⟩,a3,n3,c3⟩) hk)
  have hEF:EAt (W5.setRow w.heap.size (EV.cells ⟨⟨y.toArray⟩,a3,n3,c3⟩)) ⟨⟨y.toArray⟩,a3,n3,c3⟩ xs:=⟨rd_kpr (.inr (.inr rfl)) hE5.a hT5 hkr,hE5.la⟩
  have hTF:TyX 106 (W5.setRow w.heap.size (EV.cells ⟨⟨y.toArray⟩,a3,n3,c3⟩)) a3 c3:=hT5.kpr (.inr (.inr rfl)) hkr
  clear hm
  go_wp2_with (first | (refine wpList_load_row q5 rfl rfl rfl (by kernel_rfl) (by kernel_rfl) ?_;go_simp) | (refine wpList_store_row hrz5 rfl rfl rfl rfl (by kernel_rfl) rfl (by kernel_rfl) ?_;go_simp))
  exact bodyPost_ret (w:=W5.setRow w.heap.size (EV.cells ⟨⟨y.toArray⟩,a3,n3,c3⟩)) (results_row2 (i:=2) (j:=3) (t:=124) rfl rfl rfl (by kernel_rfl) (by kernel_rfl) f1) rfl ⟨f2,.inl ⟨_,xs,rfl,hEF,hTF,HM.out,HD.out⟩⟩
def entsB (l:List EP):List UInt8:=l.flatMap fun p=>val 1 (entL p.1 p.2)
theorem entsB_cons (p:EP)(l:List EP):entsB (p::l)=val 1 (entL p.1 p.2)++entsB l:=rfl
theorem entsB_snoc (l:List EP)(p:EP):entsB (l++[p])=entsB l++val 1 (entL p.1 p.2):=by simp[entsB]
def resL (v:QV)(c:QC):List UInt8:=val 1 (num8 v.code.toNat)++(val 2 [if v.yes then 1 else 0]++(val 3 (entsB c.ents)++(val 4 c.cursor++[])))
def zeroQ:QV:=⟨0,false,none,0,0,none,0,0⟩
def bareQ (k:Int):QV:=⟨k,false,none,0,0,none,0,0⟩
def mayRes (v:QV)(c:QC):Bool:=
 if v.code=0 then !(decide (1000<v.en)||(c.ents.any fun u=>!mayEntry u.1 u.2)||decide (4000<v.cn))&&decide ((entsB c.ents).length≤4194304)
 else decide (0<v.code)&&decide (v.code≤14)&&sameRes v c (bareQ v.code) ⟨[],[]⟩
theorem ents_inj:∀(l m:List EP),(∀p∈l,mayEntry p.1 p.2=true)→(∀p∈m,mayEntry p.1 p.2=true)→entsB l=entsB m→sameEnts l m=true
 | [],[],_,_,_=>rfl
 | [],p::m,_,_,h=>by
  have:=congrArg List.length h
  rw[entsB_cons,List.length_append,val_len] at this
  have e0:(entsB []).length=0:=rfl
  omega
 | p::l,[],_,_,h=>by
  have:=congrArg List.length h
  rw[entsB_cons,List.length_append,val_len] at this
  have e0:(entsB []).length=0:=rfl
  omega
 | p::l,q::m,hl,hm,h=>by
  rw[entsB_cons,entsB_cons] at h
  have l1:=entL_len (hl p (by simp))
  have l2:=entL_len (hm q (by simp))
  obtain⟨h1,h2⟩:=val_inj (by decide) (by omega) (by omega) h
  unfold sameEnts
  rw[ent_inj (hl p (by simp)) (hm q (by simp)) h1,Bool.true_and]
  exact ents_inj l m (fun x hx=>hl x (by simp[hx])) (fun x hx=>hm x (by simp[hx])) h2
set_option maxRecDepth 100000 in
theorem resb1_any (B g rb:Nat)(st:WS)(v:QV)(l:List EP)(k:Nat)(p:EP)(W:World)(hw:WrS B g st W)(hl:st.l.length≤100000000)(hrb:W.heap[rb]?=some v.box)(he:EnAt W v.eo v.en v.ec l)(hp:l[k]?=some p)(hm:mayEntry p.1 p.2=true) :
  Calls Tryz.prog 177 #[.pointer (some ⟨g,0,none⟩),.int .i64 (k:Int),.pointer (some ⟨rb,0,none⟩)] W fun e w'=>(∃r,e=.returned r)∧WrS B g (st.put 1 (entL p.1 p.2)) w'∧Below B W w':=by
 have hkn:k<v.en:=by have:=he.len;have:=(List.getElem?_eq_some_iff.1 hp).1;omega
 obtain⟨b1,o1,hao,hl1,hc1⟩:=he.r.some (by have:=he.r.le;omega)
 obtain⟨v1,v2⟩:=enV_at l k p hp
 have x0:=hc1 (k*2) _ v1
 have x1:W.cell? ⟨b1,o1+k*2+1,none⟩=_:=hc1 (k*2+1) _ v2
 obtain⟨c0,c1,c2,c3,-⟩:=qbox_all hrb
 rw[hao] at c2
 have hE:=he.each p (List.mem_of_getElem? hp)
 have hc:=entBytes_any p.1 p.2 W hE
 have hB:=hw.le
 unfold EV.val EV.cells at hc
 have i0:(0:Int)≤(k:Int):=by omega
 have i1:(k:Int)<(v.en:Int):=by omega
 have HM:=hid hm
 clear hm hc1 v1 v2 he hp hkn hao
 go_enter Tryz.func177,Tryz.ntmps177
 go_wp2_with fail
 refine hc.mono ?_
 rintro e W1 ⟨lx,ax,cx,ex,rfl,hrx,hb1,hfr,hx1,-⟩
 obtain⟨rfl,rfl⟩:=hx1 HM.out
 have hln:=entL_len HM.out
 have hw1:=hw.later hb1
 clear hc x0 x1 c0 c1 c2 c3 hx1
 go_wp2_with fail
 refine (wput_any B g st 1 (entL p.1 p.2) ax _ cx W1 hw1 hl (by omega) hrx (fun h0 a ha u hu e=>?_)).mono ?_
 ·have h1:=hfr a ha
  obtain⟨u0,hu0⟩:=hw
  have hh:=hu0.at_
  have h2:=hu.at_
  rw[(hb1.block _ (Array.getElem?_eq_some_iff.1 hh).1).trans hh] at h2
  cases h2
  have:=own_lt hu0.own a.block e.symm
  omega
 rintro e W2 ⟨rfl,hw2,hb2,-⟩
 go_wp2_with fail
 refine bodyPost_end (results_none rfl _ _ _) rfl ?_
 exact⟨⟨_,rfl⟩,hw2,(hb1.mono hB).trans hb2⟩
end Go.Proofs.YtfmmandlmbcncaaGreatDoor.Msg
namespace Go.Proofs.YtfmmandlmbcncaaGreatDoor.Msg
open Go.RowKit Go.Lib Go.Proofs.YtfmmandlmbcncaaGreatDoor.Mem Go.Proofs.YtfmmandlmbcncaaGreatDoor.Utf Go.Proofs.YtfmmandlmbcncaaGreatDoor.Tlv
structure QbAt (w:World)(v:QV)(W:World):Prop where
 o:W.heap[w.heap.size]?=some v.box
 bel:Below w.heap.size w W
theorem QbAt.step {w W W':World}{v:QV}(h:QbAt w v W)(hb:Below W.heap.size W W'):QbAt w v W':=⟨(hb.block _ (Array.getElem?_eq_some_iff.1 h.o).1).trans h.o,h.bel.trans (hb.mono h.bel.size)⟩
theorem QbAt.turn {w W W':World}{v:QV}{B:Nat}(h:QbAt w v W)(hb:Below B W W')(hB:w.heap.size<B):QbAt w v W':=⟨(hb.block _ hB).trans h.o,h.bel.trans (hb.mono (by omega))⟩
def enE (l:List EP)(i:Nat):List UInt8:=val 1 (match l[i]? with | some p=>entL p.1 p.2 | none=>[])
theorem enE_all (l:List EP):∀n,n≤l.length→allIt (enE l) n=entsB (l.take n)
 | 0,_=>by simp[allIt,entsB]
 | n+1,h=>by
  have hn:l[n]?=some l[n]:=List.getElem?_eq_getElem (by omega)
  rw[allIt_succ,enE_all l n (by omega),List.take_add_one,hn]
  simp only[Option.toList_some]
  rw[entsB_snoc]
  simp[enE,hn]
set_option maxRecDepth 100000 in
theorem resBytes_any (v:QV)(c:QC)(w:World)(h:QAt w v c)(h0:0≤v.code)(h1:v.code≤255)(hn:v.en≤1000)(hall:∀p∈c.ents,mayEntry p.1 p.2=true)(hlen:(entsB c.ents).length≤4194304)(hcn:v.cn≤4000) :
  Calls Tryz.prog 146 #[v.val] w fun e w'=>∃ao cap,e=.returned (.tuple #[.slice ao (resL v c).length cap,.int .i64 0])∧Rd w' 1 ao (resL v c).length cap (byV (resL v c))∧Below w.heap.size w w'∧∀a,ao=some a→w.heap.size≤a.block:=by
 have hmo:Tryz.prog.follows .mixedOrders=true:=by kernel_rfl
 have lx:=h.e.len
 have lc:c.cursor.length=v.cn:=by have:=h.c.1;rw[byV_len] at this;omega
 obtain⟨cn,hcd⟩:∃n:Nat,v.code=(n:Int):=⟨v.code.toNat,by omega⟩
 have hcw:IntKind.wrap .u64 v.code=(cn:Int):=by rw[hcd,IntKind.wrap_u64];omega
 have hall2:allIt (enE c.ents) v.en=entsB c.ents:=by rw[enE_all c.ents v.en (by omega),List.take_of_length_le (by omega)]
 have hres:resL v c=val 1 (num8 cn)++(val 2 [if v.yes then 1 else 0]++(val 3 (entsB c.ents)++(val 4 c.cursor++[]))):=by unfold resL;rw[show v.code.toNat=cn by omega]
 have HR:=hid hres
 have HA:=hid hall2
 have HL:=hid hlen
 have LX:=hid lx
 have LC:=hid lc
 clear hres hall2 hlen lx lc hcd h0 h1
 have hb0:Below w.heap.size w (w.alloc v.box):=(Below.refl _ _).alloc (Nat.le_refl _) _
 have k0:(w.alloc v.box).heap[w.heap.size]?=some v.box:=by show (w.heap.push _)[w.heap.size]?=some _;exact Array.getElem?_push_size
 unfold QV.box QV.cells at hb0 k0
 unfold QV.val QV.cells
 go_enter Tryz.func146,Tryz.ntmps146
 go_upto_region 1 with fail
 generalize hg:w.alloc _=W0 at *
 have s0:QbAt w v W0.drew:=(⟨k0,hb0⟩:QbAt w v W0).step (Below.refl _ _).drew
 clear hg k0 hb0
 refine wp_region_held (S:=QbAt w v) hmo ?_
 change wpAnyH _ _ _ _ _ _ _ _ (World.drew W0)
 generalize World.drew W0=X0 at *
 refine zHp 1 (.pointer (some ⟨w.heap.size,0,none⟩)) rfl s0 ?_
 go_simp
 refine zHa 2 (.int .i64 v.code) rfl (by rintro w2 h2;obtain⟨c0,c1,c2,c3,-⟩:=qbox_all h2.o;go_simp) s0 ?_
 go_simp
 refine zHa 3 (.int .u64 (cn:Int)) rfl (by rintro w2 h2;obtain⟨c0,c1,c2,c3,-⟩:=qbox_all h2.o;go_simp) s0 ?_
 go_simp
 refine zHp 5 (.pointer (some ⟨w.heap.size,1,none⟩)) rfl s0 ?_
 go_simp
 refine zHa 6 (.bool v.yes) rfl (by rintro w2 h2;obtain⟨c0,c1,c2,c3,-⟩:=qbox_all h2.o;go_simp) s0 ?_
 go_simp
 refine zHp 8 (.pointer (some ⟨w.heap.size,2,none⟩)) rfl s0 ?_
 go_simp
 refine zHa 9 (.slice v.eo v.en v.ec) rfl (by rintro w2 h2;obtain⟨c0,c1,c2,c3,-⟩:=qbox_all h2.o;go_simp) s0 ?_
 go_simp
 refine zHa 10 (.int .i64 (v.en:Int)) rfl (by rintro w2 h2;obtain⟨c0,c1,c2,c3,-⟩:=qbox_all h2.o;go_simp) s0 ?_
 go_simp
 refine zHa 11 (.func (.func 177) #[] #[.pointer (some ⟨w.heap.size,0,none⟩)]) rfl (by rintro w2 h2;obtain⟨c0,c1,c2,c3,-⟩:=qbox_all h2.o;go_simp) s0 ?_
 go_simp
 refine zHp 13 (.pointer (some ⟨w.heap.size,3,none⟩)) rfl s0 ?_
 go_simp
 refine zHa 14 (.slice v.co v.cn v.cc) rfl (by rintro w2 h2;obtain⟨c0,c1,c2,c3,-⟩:=qbox_all h2.o;go_simp) s0 ?_
 go_simp
 refine zH1 0 rfl (fun K hK=>?_)
 go_simp
 have g0:WrS X0.heap.size X0.heap.size ⟨[],0⟩ (X0.alloc (.cells #[.slice none 0 0,.int .i64 0] 177)):=⟨_,by show (X0.heap.push _)[X0.heap.size]?=some _;exact Array.getElem?_push_size,Nat.le_refl _,World.ownsRow_nil _ _ _ _⟩
 have s1:QbAt w v (X0.alloc (.cells #[.slice none 0 0,.int .i64 0] 177)):=s0.step ((Below.refl _ _).alloc (Nat.le_refl _) _)
 have hlt:w.heap.size<X0.heap.size:=(Array.getElem?_eq_some_iff.1 s0.o).1
 refine hK _ _ ⟨s1,?_⟩
 clear hK K
 refine zH1 4 rfl (fun K hK=>?_)
 go_simp
 refine (wnum_any X0.heap.size X0.heap.size ⟨[],0⟩ 1 cn _ g0 (by decide)).mono ?_
 rintro e X2 ⟨rfl,g1,hb2,-⟩
 have s2:=s1.turn hb2 hlt
 go_simp
 refine hK _ _ ⟨s2,?_⟩
 clear hK K
 refine zH1 7 rfl (fun K hK=>?_)
 go_simp
 refine (wflag_any X0.heap.size X0.heap.size _ 2 v.yes _ g1 (by simp[WS.put,val_len,num8_len])).mono ?_
 rintro e X3 ⟨rfl,g2,hb3,-⟩
 have s3:=s2.turn hb3 hlt
 go_simp
 refine hK _ _ ⟨s3,?_⟩
 clear hK K
 refine zH1 12 rfl (fun K hK=>?_)
 go_simp
 have hW:=wlist_ok X0.heap.size X0.heap.size _ 3 v.en 177 #[.pointer (some ⟨w.heap.size,0,none⟩)] (enE c.ents) X3 g2 rfl (by omega) (enters_of Tryz.func177 (by kernel_rfl) rfl)
  (fun i hi=>by
   obtain⟨p,hi2⟩:∃p,c.ents[i]?=some p:=⟨_,List.getElem?_eq_getElem (by rw[LX.out];exact hi)⟩
   have hl:=entL_len (hall p (List.mem_of_getElem? hi2))
   unfold enE
   rw[hi2]
   exact⟨manyOf_val 1 _ (by decide) (by dsimp only;omega),by rw[val_len];omega⟩)
  (by rw[HA.out];exact HL.out) (by simp[WS.put,val_len,num8_len])
  (fun i W1 hi hb1 hwr=>by
   obtain⟨p,hi2⟩:∃p,c.ents[i]?=some p:=⟨_,List.getElem?_eq_getElem (by rw[LX.out];exact hi)⟩
   have s4:=s3.step hb1
   have hm:=allIt_mono (enE c.ents) (Nat.le_of_lt hi)
   rw[HA.out] at hm
   have hL:=HL.out
   refine (resb1_any X3.heap.size X3.heap.size w.heap.size _ v c.ents i _ W1 hwr (by dsimp only;omega) s4.o (h.later s4.bel).e hi2 (hall p (List.mem_of_getElem? hi2))).mono ?_
   rintro e1 w1 ⟨q1,q2,q3⟩
   refine⟨q1,?_,q3⟩
   rw[allIt_succ]
   have e5:enE c.ents i=val 1 (entL p.1 p.2):=by unfold enE;rw[hi2]
   rw[e5]
   simpa [WS.put] using q2)
 rw[HA.out] at hW
 refine hW.mono ?_
 rintro e X4 ⟨rfl,g3,hb4,-⟩
 have s4:=s3.turn hb4 hlt
 clear hW
 go_simp
 refine hK _ _ ⟨s4,?_⟩
 clear hK K
 refine zH1 15 rfl (fun K hK=>?_)
 go_simp
 refine (wput_any X0.heap.size X0.heap.size _ 4 c.cursor v.co _ v.cc _ g3 (by have:=HL.out;simp[WS.put,val_len,num8_len];omega) (by omega) (h.later s4.bel).c (fun h0 a ha u hu e=>by have:=h.c.lt h0 a ha;have h9:=own_blk hu.own e.symm;have:=s0.bel.size;omega)).mono ?_
 rintro e X5 ⟨rfl,g4,hb5,-⟩
 have s5:=s4.turn hb5 hlt
 go_simp
 refine hK _ _ ⟨s5,?_⟩
 clear hK K
 refine zH1 16 rfl (fun K hK=>?_)
 go_simp
 have g5:WrS X0.heap.size X0.heap.size ⟨resL v c,0⟩ X5:=by rw[HR.out];simpa [WS.put] using g4
 obtain⟨y,hy⟩:=g5
 have hrl:(resL v c).length≤100000000:=by have:=HL.out;have:=LC.out;rw[HR.out];simp only[List.length_append,val_len,num8_len,List.length_cons,List.length_nil];omega
 refine (wend_ok _ _ _ _ _ hy hrl).mono ?_
 rintro e X6 ⟨z,rfl,hz6,hb6⟩
 obtain⟨ao6,cap6,rfl,hr6⟩:=Rd.of_own hz6
 have s6:=s5.step hb6
 go_simp
 refine hK _ _ ⟨s6,?_⟩
 clear hK K
 refine zHa 17 (.slice ao6 (resL v c).length cap6) rfl (by rintro w2 h2;obtain⟨c0,c1,c2,c3,-⟩:=qbox_all h2.o;go_simp) s6 ?_
 go_simp
 refine zHa 18 (.int .i64 0) rfl (by rintro w2 h2;obtain⟨c0,c1,c2,c3,-⟩:=qbox_all h2.o;go_simp) s6 ?_
 go_simp
 refine zHp 19 (.slice ao6 (resL v c).length cap6) rfl s6 ?_
 go_simp
 refine zHp 20 (.int .i64 0) rfl s6 ?_
 go_simp
 refine wpAnyH_done (by kernel_rfl) ?_ _
 go_wp2_with fail
 go_ret2
 exact⟨ao6,cap6,rfl,hr6,s6.bel,fun a ha=>Nat.le_trans s5.bel.size (own_fresh hz6 a ha)⟩
end Go.Proofs.YtfmmandlmbcncaaGreatDoor.Msg
