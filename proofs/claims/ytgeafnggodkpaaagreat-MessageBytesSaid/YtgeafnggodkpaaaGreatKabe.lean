/-
  A part of the proof.
-/
import Derived.Test.YtgeafnggodkpaaaGreatKaav
import Derived.Test.YtgeafnggodkpaaaGreatKaal
import Derived.Test.YtgeafnggodkpaaaGreatKabd
import Derived.Test.YtgeafnggodkpaaaGreatKaab
import Derived.Test.YtgeafnggodkpaaaGreatKaax
import Derived.Test.YtgeafnggodkpaaaGreatKaaw
import Derived.Test.YtgeafnggodkpaaaGreatKaaz
set_option maxHeartbeats 40000000
namespace Go.Proofs.YtgeafnggodkpaaaGreat.Msg
open Go.RowKit Go.Lib Go.Proofs.YtgeafnggodkpaaaGreat.Mem Go.Proofs.YtgeafnggodkpaaaGreat.Tlv
theorem mayAttrs_len {x:List (ByteArray×ByteArray)}(h:mayAttrs x=true):x.length≤50:=by
 unfold mayAttrs at h
 simp only[Bool.and_eq_true,decide_eq_true_eq] at h
 exact h.2
def NoEnt (b:List UInt8):Prop:=∀v x,mayEntry v x=true→entL v x≠b
theorem ent_split (v:EV)(x:List (ByteArray×ByteArray)):entL v x=val 1 v.name.data.toList++(val 2 (attB x)++[]):=by unfold entL;simp
theorem mayEntry_name {v v':EV}{x:List (ByteArray×ByteArray)}(h:v.name=v'.name):mayEntry v x=mayEntry v' x:=by unfold mayEntry;rw[h]
theorem ent_inj {v v':EV}{x x':List (ByteArray×ByteArray)}(hm:mayEntry v x=true)(hm':mayEntry v' x'=true)(h:entL v x=entL v' x'):sameEntry v x v' x'=true:=by
 have f:=FitE.of hm
 have f':=FitE.of hm'
 have n1:=f.name;have n2:=f'.name;have a1:=f.len;have a2:=f'.len
 have z1:v.name.data.toList.length=v.name.size:=sz_len _
 have z2:v'.name.data.toList.length=v'.name.size:=sz_len _
 rw[ent_split,ent_split] at h
 obtain⟨h1,h⟩:=val_inj (by decide) (by omega) (by omega) h
 obtain⟨h2,-⟩:=val_inj (by decide) (by omega) (by omega) h
 have h3:=attB_inj x x' (by omega) (by omega) h2
 unfold sameEntry
 rw[decide_eq_true (ba_data h1),decide_eq_true h3]
 rfl
section
variable {b y:List UInt8} {s1 s2:RS} {xs:List (ByteArray×ByteArray)}
 (T1:Took (val 1) (fun z=>z.length≤4194304) (fun z=>z.length≤4194304) ⟨b,false⟩ y s1)
 (T2:Took (fun ys=>val 2 (attB ys)) (fun ys=>mayAttrs ys=true∧(attB ys).length≤4194304) (fun ys=>(attB ys).length≤4194304) s1 xs s2)
include T1 T2
theorem ent_none {v0:EV}(hv:v0.name=⟨y.toArray⟩)(h:(s2.bad=true∨0<s2.l.length)∨mayEntry v0 xs=false):NoEnt b:=by
 intro v x hm e
 have f:=FitE.of hm
 have n1:=f.name;have a1:=f.len
 have z1:v.name.data.toList.length=v.name.size:=sz_len _
 have hma:mayAttrs x=true:=by
  unfold mayEntry at hm
  simp only[Bool.and_eq_true] at hm
  exact hm.2
 rw[ent_split] at e
 cases h1:s1.bad with
 | true=>
  rcases T1.no h1 with h | h
  ·cases h
  exact h _ _ (by omega) e.symm
 | false=>
  obtain⟨-,e1,g1⟩:=T1.yes h1
  dsimp only at e1
  rw[e1] at e
  obtain⟨en,e⟩:=val_inj (by decide) (by omega) g1 e
  cases h2:s2.bad with
  | true=>
   rcases T2.no h2 with h | h
   ·rw[h1] at h;cases h
   exact h x [] ⟨hma,by omega⟩ e.symm
  | false=>
   obtain⟨-,e2,g2⟩:=T2.yes h2
   rw[e2] at e
   obtain⟨ea,e⟩:=val_inj (by decide) (by omega) g2 e
   have hx:=attB_inj x xs (by omega) g2 ea
   rcases h with (h | h) | h
   ·rw[h2] at h;cases h
   ·rw[←e] at h;simp at h
   have hn:v.name=v0.name:=by
    rw[hv]
    refine ba_data ?_
    rw[en]
   rw[←hx,←mayEntry_name hn,hm] at h
   cases h
theorem ent_done {v0:EV}(hv:v0.name=⟨y.toArray⟩)(h2:s2.bad=false)(hl:s2.l=[]):entL v0 xs=b:=by
 obtain⟨h1,e2,-⟩:=T2.yes h2
 obtain⟨-,e1,-⟩:=T1.yes h1
 dsimp only at e1
 rw[ent_split,hv,e1,e2,hl]
end
theorem took_weaken {α:Type}{body:α→List UInt8}{may may' good good':α→Prop}{s s':RS}{y:α}(h:Took body may good s y s')(h1:∀z,may' z→may z)(h2:∀z,good z→good' z):Took body may' good' s y s':=
 ⟨fun hb=>by obtain⟨a,b,c⟩:=h.yes hb;exact⟨a,b,h2 _ c⟩,fun hb=>(h.no hb).imp id (fun k z r hz=>k z r (h1 z hz)),h.le⟩
def GivesEo (ok bad:Value)(b:List UInt8)(w:World)(e:Ending)(w':World):Prop:=Below w.heap.size w w' ∧
 ((∃v x,e=.returned (.tuple #[EV.val v,ok])∧EAt w' v x∧TyX 53 w' v.ao v.ac∧mayEntry v x=true∧entL v x=b)∨(e=.returned (.tuple #[zeroE.val,bad])∧NoEnt b))
theorem kpr_ent {W W':World}{b:Nat}{r:EV}(h:W.heap[b]?=some r.box)(hs:W.heap.size≤W'.heap.size)(ho:∀k,k≠b→W'.heap[k]?=W.heap[k]?):KeepR W W':=by
 refine⟨hs,fun k c t fr ht hk=>?_⟩
 have hne:k≠b:=fun e=>by
  subst e
  rw[h] at hk
  cases hk
  rcases ht with h | h | h<;>exact absurd h (by decide)
 exact (ho k hne).trans hk
def entsB (l:List EP):List UInt8:=l.flatMap fun p=>val 1 (entL p.1 p.2)
theorem entsB_cons (p:EP)(l:List EP):entsB (p::l)=val 1 (entL p.1 p.2)++entsB l:=rfl
theorem entsB_snoc (l:List EP)(p:EP):entsB (l++[p])=entsB l++val 1 (entL p.1 p.2):=by simp[entsB]
def resL (v:QV)(c:QC):List UInt8:=val 1 (num8 v.code.toNat)++(val 2 [if v.yes then 1 else 0]++(val 3 (entsB c.ents)++(val 4 c.cursor++[])))
def zeroQ:QV:=⟨0,false,none,0,0,none,0,0⟩
def bareQ (k:Int):QV:=⟨k,false,none,0,0,none,0,0⟩
def mayRes (v:QV)(c:QC):Bool:=
 if v.code=0 then !(decide (1000<v.en)||(c.ents.any fun u=>!mayEntry u.1 u.2)||decide (4000<v.cn))&&decide ((entsB c.ents).length≤4194304)
 else decide (0<v.code)&&decide (v.code≤14)&&sameRes v c (bareQ v.code) ⟨[],[]⟩
theorem ents_inj:∀(l m:List EP),(∀p∈l,mayEntry p.1 p.2=true)→(∀p∈m,mayEntry p.1 p.2=true)→entsB l=entsB m→sameEnts l m=true
 | [],[],_,_,_=>rfl
 | [],p::m,_,_,h=>by
  have:=congrArg List.length h
  rw[entsB_cons,List.length_append,val_len] at this
  have e0:(entsB []).length=0:=rfl
  omega
 | p::l,[],_,_,h=>by
  have:=congrArg List.length h
  rw[entsB_cons,List.length_append,val_len] at this
  have e0:(entsB []).length=0:=rfl
  omega
 | p::l,q::m,hl,hm,h=>by
  rw[entsB_cons,entsB_cons] at h
  have l1:=entL_len (hl p (by simp))
  have l2:=entL_len (hm q (by simp))
  obtain⟨h1,h2⟩:=val_inj (by decide) (by omega) (by omega) h
  unfold sameEnts
  rw[ent_inj (hl p (by simp)) (hm q (by simp)) h1,Bool.true_and]
  exact ents_inj l m (fun x hx=>hl x (by simp[hx])) (fun x hx=>hm x (by simp[hx])) h2
set_option maxRecDepth 100000 in
theorem resb1_any (B g rb:Nat)(st:WS)(v:QV)(l:List EP)(k:Nat)(p:EP)(W:World)(hw:WrS B g st W)(hl:st.l.length≤100000000)(hrb:W.heap[rb]?=some v.box)(he:EnAt W v.eo v.en v.ec l)(hp:l[k]?=some p)(hm:mayEntry p.1 p.2=true) :
  Calls Tryz.prog 132 #[.pointer (some ⟨g,0,none⟩),.int .i64 (k:Int),.pointer (some ⟨rb,0,none⟩)] W fun e w'=>(∃r,e=.returned r)∧WrS B g (st.put 1 (entL p.1 p.2)) w'∧Below B W w':=by
 have hkn:k<v.en:=by have:=he.len;have:=(List.getElem?_eq_some_iff.1 hp).1;omega
 obtain⟨b1,o1,hao,hl1,hc1⟩:=he.r.some (by have:=he.r.le;omega)
 obtain⟨v1,v2⟩:=enV_at l k p hp
 have x0:=hc1 (k*2) _ v1
 have x1:W.cell? ⟨b1,o1+k*2+1,none⟩=_:=hc1 (k*2+1) _ v2
 obtain⟨c0,c1,c2,c3,-⟩:=qbox_all hrb
 rw[hao] at c2
 have hE:=he.each p (List.mem_of_getElem? hp)
 have hc:=entBytes_any p.1 p.2 W hE
 have hB:=hw.le
 unfold EV.val EV.cells at hc
 have i0:(0:Int)≤(k:Int):=by omega
 have i1:(k:Int)<(v.en:Int):=by omega
 have HM:=hid hm
 clear hm hc1 v1 v2 he hp hkn hao
 go_enter Tryz.func132,Tryz.ntmps132
 go_wp2_with fail
 refine hc.mono ?_
 rintro e W1 ⟨lx,ax,cx,ex,rfl,hrx,hb1,hfr,hx1,-⟩
 obtain⟨rfl,rfl⟩:=hx1 HM.out
 have hln:=entL_len HM.out
 have hw1:=hw.later hb1
 clear hc x0 x1 c0 c1 c2 c3 hx1
 go_wp2_with fail
 refine (wput_any B g st 1 (entL p.1 p.2) ax _ cx W1 hw1 hl (by omega) hrx (fun h0 a ha u hu e=>?_)).mono ?_
 ·have h1:=hfr a ha
  obtain⟨u0,hu0⟩:=hw
  have hh:=hu0.at_
  have h2:=hu.at_
  rw[(hb1.block _ (Array.getElem?_eq_some_iff.1 hh).1).trans hh] at h2
  cases h2
  have:=own_lt hu0.own a.block e.symm
  omega
 rintro e W2 ⟨rfl,hw2,hb2,-⟩
 go_wp2_with fail
 refine bodyPost_end (results_none rfl _ _ _) rfl ?_
 exact⟨⟨_,rfl⟩,hw2,(hb1.mono hB).trans hb2⟩
end Go.Proofs.YtgeafnggodkpaaaGreat.Msg
namespace Go.Proofs.YtgeafnggodkpaaaGreat.Msg
open Go.RowKit Go.Lib Go.Proofs.YtgeafnggodkpaaaGreat.Mem Go.Proofs.YtgeafnggodkpaaaGreat.Utf Go.Proofs.YtgeafnggodkpaaaGreat.Tlv
structure QbAt (w:World)(v:QV)(W:World):Prop where
 o:W.heap[w.heap.size]?=some v.box
 bel:Below w.heap.size w W
theorem QbAt.step {w W W':World}{v:QV}(h:QbAt w v W)(hb:Below W.heap.size W W'):QbAt w v W':=⟨(hb.block _ (Array.getElem?_eq_some_iff.1 h.o).1).trans h.o,h.bel.trans (hb.mono h.bel.size)⟩
theorem QbAt.turn {w W W':World}{v:QV}{B:Nat}(h:QbAt w v W)(hb:Below B W W')(hB:w.heap.size<B):QbAt w v W':=⟨(hb.block _ hB).trans h.o,h.bel.trans (hb.mono (by omega))⟩
def enE (l:List EP)(i:Nat):List UInt8:=val 1 (match l[i]? with | some p=>entL p.1 p.2 | none=>[])
theorem enE_all (l:List EP):∀n,n≤l.length→allIt (enE l) n=entsB (l.take n)
 | 0,_=>by simp[allIt,entsB]
 | n+1,h=>by
  have hn:l[n]?=some l[n]:=List.getElem?_eq_getElem (by omega)
  rw[allIt_succ,enE_all l n (by omega),List.take_add_one,hn]
  simp only[Option.toList_some]
  rw[entsB_snoc]
  simp[enE,hn]
set_option maxRecDepth 100000 in
theorem resBytes_any (v:QV)(c:QC)(w:World)(h:QAt w v c)(h0:0≤v.code)(h1:v.code≤255)(hn:v.en≤1000)(hall:∀p∈c.ents,mayEntry p.1 p.2=true)(hlen:(entsB c.ents).length≤4194304)(hcn:v.cn≤4000) :
  Calls Tryz.prog 85 #[v.val] w fun e w'=>∃ao cap,e=.returned (.tuple #[.slice ao (resL v c).length cap,.int .i64 0])∧Rd w' 1 ao (resL v c).length cap (byV (resL v c))∧Below w.heap.size w w'∧∀a,ao=some a→w.heap.size≤a.block:=by
 have hmo:Tryz.prog.follows .mixedOrders=true:=by kernel_rfl
 have lx:=h.e.len
 have lc:c.cursor.length=v.cn:=by have:=h.c.1;rw[byV_len] at this;omega
 obtain⟨cn,hcd⟩:∃n:Nat,v.code=(n:Int):=⟨v.code.toNat,by omega⟩
 have hcw:IntKind.wrap .u64 v.code=(cn:Int):=by rw[hcd,IntKind.wrap_u64];omega
 have hall2:allIt (enE c.ents) v.en=entsB c.ents:=by rw[enE_all c.ents v.en (by omega),List.take_of_length_le (by omega)]
 have hres:resL v c=val 1 (num8 cn)++(val 2 [if v.yes then 1 else 0]++(val 3 (entsB c.ents)++(val 4 c.cursor++[]))):=by unfold resL;rw[show v.code.toNat=cn by omega]
 have HR:=hid hres
 have HA:=hid hall2
 have HL:=hid hlen
 have LX:=hid lx
 have LC:=hid lc
 clear hres hall2 hlen lx lc hcd h0 h1
 have hb0:Below w.heap.size w (w.alloc v.box):=(Below.refl _ _).alloc (Nat.le_refl _) _
 have k0:(w.alloc v.box).heap[w.heap.size]?=some v.box:=by show (w.heap.push _)[w.heap.size]?=some _;exact Array.getElem?_push_size
 unfold QV.box QV.cells at hb0 k0
 unfold QV.val QV.cells
 go_enter Tryz.func85,Tryz.ntmps85
 go_upto_region 1 with fail
 generalize hg:w.alloc _=W0 at *
 have s0:QbAt w v W0.drew:=(⟨k0,hb0⟩:QbAt w v W0).step (Below.refl _ _).drew
 clear hg k0 hb0
 refine wp_region_held (S:=QbAt w v) hmo ?_
 change wpAnyH _ _ _ _ _ _ _ _ (World.drew W0)
 generalize World.drew W0=X0 at *
 refine zHp 1 (.pointer (some ⟨w.heap.size,0,none⟩)) rfl s0 ?_
 go_simp
 refine zHa 2 (.int .i64 v.code) rfl (by rintro w2 h2;obtain⟨c0,c1,c2,c3,-⟩:=qbox_all h2.o;go_simp) s0 ?_
 go_simp
 refine zHa 3 (.int .u64 (cn:Int)) rfl (by rintro w2 h2;obtain⟨c0,c1,c2,c3,-⟩:=qbox_all h2.o;go_simp) s0 ?_
 go_simp
 refine zHp 5 (.pointer (some ⟨w.heap.size,1,none⟩)) rfl s0 ?_
 go_simp
 refine zHa 6 (.bool v.yes) rfl (by rintro w2 h2;obtain⟨c0,c1,c2,c3,-⟩:=qbox_all h2.o;go_simp) s0 ?_
 go_simp
 refine zHp 8 (.pointer (some ⟨w.heap.size,2,none⟩)) rfl s0 ?_
 go_simp
 refine zHa 9 (.slice v.eo v.en v.ec) rfl (by rintro w2 h2;obtain⟨c0,c1,c2,c3,-⟩:=qbox_all h2.o;go_simp) s0 ?_
 go_simp
 refine zHa 10 (.int .i64 (v.en:Int)) rfl (by rintro w2 h2;obtain⟨c0,c1,c2,c3,-⟩:=qbox_all h2.o;go_simp) s0 ?_
 go_simp
 refine zHa 11 (.func (.func 132) #[] #[.pointer (some ⟨w.heap.size,0,none⟩)]) rfl (by rintro w2 h2;obtain⟨c0,c1,c2,c3,-⟩:=qbox_all h2.o;go_simp) s0 ?_
 go_simp
 refine zHp 13 (.pointer (some ⟨w.heap.size,3,none⟩)) rfl s0 ?_
 go_simp
 refine zHa 14 (.slice v.co v.cn v.cc) rfl (by rintro w2 h2;obtain⟨c0,c1,c2,c3,-⟩:=qbox_all h2.o;go_simp) s0 ?_
 go_simp
 refine zH1 0 rfl (fun K hK=>?_)
 go_simp
 have g0:WrS X0.heap.size X0.heap.size ⟨[],0⟩ (X0.alloc (.cells #[.slice none 0 0,.int .i64 0] 114)):=⟨_,by show (X0.heap.push _)[X0.heap.size]?=some _;exact Array.getElem?_push_size,Nat.le_refl _,World.ownsRow_nil _ _ _ _⟩
 have s1:QbAt w v (X0.alloc (.cells #[.slice none 0 0,.int .i64 0] 114)):=s0.step ((Below.refl _ _).alloc (Nat.le_refl _) _)
 have hlt:w.heap.size<X0.heap.size:=(Array.getElem?_eq_some_iff.1 s0.o).1
 refine hK _ _ ⟨s1,?_⟩
 clear hK K
 refine zH1 4 rfl (fun K hK=>?_)
 go_simp
 refine (wnum_any X0.heap.size X0.heap.size ⟨[],0⟩ 1 cn _ g0 (by decide)).mono ?_
 rintro e X2 ⟨rfl,g1,hb2,-⟩
 have s2:=s1.turn hb2 hlt
 go_simp
 refine hK _ _ ⟨s2,?_⟩
 clear hK K
 refine zH1 7 rfl (fun K hK=>?_)
 go_simp
 refine (wflag_any X0.heap.size X0.heap.size _ 2 v.yes _ g1 (by simp[WS.put,val_len,num8_len])).mono ?_
 rintro e X3 ⟨rfl,g2,hb3,-⟩
 have s3:=s2.turn hb3 hlt
 go_simp
 refine hK _ _ ⟨s3,?_⟩
 clear hK K
 refine zH1 12 rfl (fun K hK=>?_)
 go_simp
 have hW:=wlist_ok X0.heap.size X0.heap.size _ 3 v.en 132 #[.pointer (some ⟨w.heap.size,0,none⟩)] (enE c.ents) X3 g2 rfl (by omega) (enters_of Tryz.func132 (by kernel_rfl) rfl)
  (fun i hi=>by
   obtain⟨p,hi2⟩:∃p,c.ents[i]?=some p:=⟨_,List.getElem?_eq_getElem (by rw[LX.out];exact hi)⟩
   have hl:=entL_len (hall p (List.mem_of_getElem? hi2))
   unfold enE
   rw[hi2]
   exact⟨manyOf_val 1 _ (by decide) (by dsimp only;omega),by rw[val_len];omega⟩)
  (by rw[HA.out];exact HL.out) (by simp[WS.put,val_len,num8_len])
  (fun i W1 hi hb1 hwr=>by
   obtain⟨p,hi2⟩:∃p,c.ents[i]?=some p:=⟨_,List.getElem?_eq_getElem (by rw[LX.out];exact hi)⟩
   have s4:=s3.step hb1
   have hm:=allIt_mono (enE c.ents) (Nat.le_of_lt hi)
   rw[HA.out] at hm
   have hL:=HL.out
   refine (resb1_any X3.heap.size X3.heap.size w.heap.size _ v c.ents i _ W1 hwr (by dsimp only;omega) s4.o (h.later s4.bel).e hi2 (hall p (List.mem_of_getElem? hi2))).mono ?_
   rintro e1 w1 ⟨q1,q2,q3⟩
   refine⟨q1,?_,q3⟩
   rw[allIt_succ]
   have e5:enE c.ents i=val 1 (entL p.1 p.2):=by unfold enE;rw[hi2]
   rw[e5]
   simpa [WS.put] using q2)
 rw[HA.out] at hW
 refine hW.mono ?_
 rintro e X4 ⟨rfl,g3,hb4,-⟩
 have s4:=s3.turn hb4 hlt
 clear hW
 go_simp
 refine hK _ _ ⟨s4,?_⟩
 clear hK K
 refine zH1 15 rfl (fun K hK=>?_)
 go_simp
 refine (wput_any X0.heap.size X0.heap.size _ 4 c.cursor v.co _ v.cc _ g3 (by have:=HL.out;simp[WS.put,val_len,num8_len];omega) (by omega) (h.later s4.bel).c (fun h0 a ha u hu e=>by have:=h.c.lt h0 a ha;have h9:=own_blk hu.own e.symm;have:=s0.bel.size;omega)).mono ?_
 rintro e X5 ⟨rfl,g4,hb5,-⟩
 have s5:=s4.turn hb5 hlt
 go_simp
 refine hK _ _ ⟨s5,?_⟩
 clear hK K
 refine zH1 16 rfl (fun K hK=>?_)
 go_simp
 have g5:WrS X0.heap.size X0.heap.size ⟨resL v c,0⟩ X5:=by rw[HR.out];simpa [WS.put] using g4
 obtain⟨y,hy⟩:=g5
 have hrl:(resL v c).length≤100000000:=by have:=HL.out;have:=LC.out;rw[HR.out];simp only[List.length_append,val_len,num8_len,List.length_cons,List.length_nil];omega
 refine (wend_ok _ _ _ _ _ hy hrl).mono ?_
 rintro e X6 ⟨z,rfl,hz6,hb6⟩
 obtain⟨ao6,cap6,rfl,hr6⟩:=Rd.of_own hz6
 have s6:=s5.step hb6
 go_simp
 refine hK _ _ ⟨s6,?_⟩
 clear hK K
 refine zHa 17 (.slice ao6 (resL v c).length cap6) rfl (by rintro w2 h2;obtain⟨c0,c1,c2,c3,-⟩:=qbox_all h2.o;go_simp) s6 ?_
 go_simp
 refine zHa 18 (.int .i64 0) rfl (by rintro w2 h2;obtain⟨c0,c1,c2,c3,-⟩:=qbox_all h2.o;go_simp) s6 ?_
 go_simp
 refine zHp 19 (.slice ao6 (resL v c).length cap6) rfl s6 ?_
 go_simp
 refine zHp 20 (.int .i64 0) rfl s6 ?_
 go_simp
 refine wpAnyH_done (by kernel_rfl) ?_ _
 go_wp2_with fail
 go_ret2
 exact⟨ao6,cap6,rfl,hr6,s6.bel,fun a ha=>Nat.le_trans s5.bel.size (own_fresh hz6 a ha)⟩
end Go.Proofs.YtgeafnggodkpaaaGreat.Msg
namespace Go.Proofs.YtgeafnggodkpaaaGreat.Msg
open Go.RowKit Go.Lib Go.Proofs.YtgeafnggodkpaaaGreat.Mem Go.Proofs.YtgeafnggodkpaaaGreat.Tlv
theorem bareQ_at (W:World)(k:Int):QAt W (bareQ k) ⟨[],[]⟩:=⟨⟨Rd.nil _ _,fun _ hp=>absurd hp List.not_mem_nil⟩,Rd.nil _ _,Nat.zero_le _⟩
def ShortQ (c:QC):Prop:=(∀p∈c.ents,mayEntry p.1 p.2=true)→(entsB c.ents).length≤4194304
theorem mayRes_zero {v:QV}{c:QC}(h:v.code=0)(hl:ShortQ c):mayRes v c=!(decide (1000<v.en)||(c.ents.any fun u=>!mayEntry u.1 u.2)||decide (4000<v.cn)):=by
 unfold mayRes
 rw[if_pos h]
 cases ha:(c.ents.any fun u=>!mayEntry u.1 u.2) with
 | true=>simp
 | false=>
  have hall:∀p∈c.ents,mayEntry p.1 p.2=true:=fun p hp=>by
   have:=List.any_eq_false.1 ha p hp
   simpa using this
  rw[decide_eq_true (hl hall),Bool.and_true]
set_option maxRecDepth 100000 in
theorem mayRes_any (v:QV)(c:QC)(w:World)(h:QAt w v c)(hlen:ShortQ c):Calls Tryz.prog 31 #[v.val] w (GivesB (mayRes v c) w):=by
 have hb0:Below w.heap.size w (w.alloc v.box):=(Below.refl _ _).alloc (Nat.le_refl _) _
 have k0:(w.alloc v.box).heap[w.heap.size]?=some v.box:=by show (w.heap.push _)[w.heap.size]?=some _;exact Array.getElem?_push_size
 unfold QV.box QV.cells at hb0 k0
 unfold QV.val QV.cells
 by_cases hc0:v.code=0
 case neg=>
  have f1:(v.code==0)=false:=by simp[hc0]
  have g1:(v.code != 0)=true:=by simp[hc0]
  have HM:Hid (mayRes v c=(decide (0<v.code)&&decide (v.code≤14)&&sameRes v c (bareQ v.code) ⟨[],[]⟩)):=hid (by unfold mayRes;rw[if_neg hc0])
  clear hc0
  go_enter Tryz.func31,Tryz.ntmps31
  go_upto_region 1 with fail
  generalize hg:w.alloc _=W0 at *
  have q0:W0.heap[w.heap.size]?=some v.box:=k0
  clear hg k0
  obtain⟨c0,c1,c2,c3,-⟩:=qbox_all q0
  by_cases h1:0<v.code
  ·have f2:decide (0<v.code)=true:=decide_eq_true h1
   have H1:=hid h1
   clear h1
   by_cases h2:v.code≤14
   ·have f3:decide (v.code≤14)=true:=decide_eq_true h2
    have H2:=hid h2
    clear h2
    have hs:=sameRes_any v (bareQ v.code) c ⟨[],[]⟩ W0 (h.later hb0) (bareQ_at _ _)
    unfold QV.val QV.cells bareQ at hs
    dsimp only at hs
    go_wp2_with fail
    refine hs.mono ?_
    rintro e W1 ⟨rfl,hb1⟩
    go_wp2_with fail
    go_ret
    exact⟨by rw[HM.out,decide_eq_true H1.out,decide_eq_true H2.out];simp only[Bool.true_and];rfl,hb0.trans (hb1.mono hb0.size)⟩
   have f3:decide (v.code≤14)=false:=decide_eq_false h2
   have H2:=hid h2
   clear h2
   go_wp2_with fail
   go_ret
   exact⟨by rw[HM.out,decide_eq_false (by have:=H2.out;omega:¬v.code≤14)];simp,hb0⟩
  have f2:decide (0<v.code)=false:=decide_eq_false h1
  have H1:=hid h1
  clear h1
  go_wp2_with fail
  go_ret
  exact⟨by rw[HM.out,decide_eq_false (by have:=H1.out;omega:¬0<v.code)];simp,hb0⟩
 have f1:(v.code==0)=true:=by simp[hc0]
 have g1:(v.code != 0)=false:=by simp[hc0]
 have HM:Hid (mayRes v c=!(decide (1000<v.en)||(c.ents.any fun u=>!mayEntry u.1 u.2)||decide (4000<v.cn))):=hid (mayRes_zero hc0 hlen)
 have HC:=hid hc0
 clear hc0
 go_enter Tryz.func31,Tryz.ntmps31
 go_upto_region 1 with fail
 generalize hg:w.alloc _=W0 at *
 have q0:W0.heap[w.heap.size]?=some v.box:=k0
 clear hg k0
 obtain⟨c0,c1,c2,c3,-⟩:=qbox_all q0
 by_cases hn:1000<v.en
 case pos=>
  have f2:decide ((1000:Int)<(v.en:Int))=true:=decide_eq_true (by omega)
  have HN:=hid hn
  clear hn
  go_wp2_with fail
  go_ret
  exact⟨by rw[HM.out,decide_eq_true HN.out];simp,hb0⟩
 have f2:decide ((1000:Int)<(v.en:Int))=false:=decide_eq_false (by omega)
 have HN:=hid hn
 clear hn
 go_wp2_with fail
 refine (contains_ent v.eo v.en v.ec c.ents W0 (h.later hb0).e).mono ?_
 rintro e W1 ⟨rfl,hb1⟩
 have q1:=(hb1.block _ (Array.getElem?_eq_some_iff.1 q0).1).trans q0
 have hbel:=hb0.trans (hb1.mono hb0.size)
 clear c0 c1 c2 c3
 obtain⟨c0,c1,c2,c3,-⟩:=qbox_all q1
 cases ha:(c.ents.any fun u=>!mayEntry u.1 u.2) with
 | true=>
  have HA:=hid ha
  clear ha
  go_wp2_with fail
  go_ret
  exact⟨by rw[HM.out,HA.out];simp,hbel⟩
 | false=>
  have HA:=hid ha
  clear ha
  by_cases hcn:4000<v.cn
  ·have f3:decide ((4000:Int)<(v.cn:Int))=true:=decide_eq_true (by omega)
   have HK:=hid hcn
   clear hcn
   go_wp2_with fail
   go_ret
   exact⟨by rw[HM.out,decide_eq_true HK.out];simp,hbel⟩
  have f3:decide ((4000:Int)<(v.cn:Int))=false:=decide_eq_false (by omega)
  have HK:=hid hcn
  have hrb:=resBytes_any v c W1 (h.later hbel) (by rw[HC.out];decide) (by rw[HC.out];decide) (by have:=HN.out;omega) (fun p hp=>by
   have:=List.any_eq_false.1 HA.out p hp
   simpa using this) (hlen (fun p hp=>by
   have:=List.any_eq_false.1 HA.out p hp
   simpa using this)) (by omega)
  unfold QV.val QV.cells at hrb
  clear hcn
  go_wp2_with (refine wpList_load_row q1 rfl rfl rfl (by kernel_rfl) (by kernel_rfl) ?_;go_simp)
  refine hrb.mono ?_
  rintro e W2 ⟨a2,x2,rfl,-,hb2,-⟩
  go_wp2_with fail
  go_ret
  exact⟨by rw[HM.out,HA.out,decide_eq_false (by have:=HK.out;omega:¬4000<v.cn),decide_eq_false (by have:=HN.out;omega:¬1000<v.en)];rfl,hbel.trans (hb2.mono hbel.size)⟩
structure FitQ (v:QV)(c:QC):Prop where
 c0:0≤v.code
 c14:v.code≤14
 en:v.en≤1000
 all:∀p∈c.ents,mayEntry p.1 p.2=true
 len:(entsB c.ents).length≤4194304
 cn:v.cn≤4000
theorem sameEnts_nil:∀ {l:List EP},sameEnts l []=true→l=[]
 | [],_=>rfl
 | _::_,h=>by simp[sameEnts] at h
theorem FitQ.of {W:World}{v:QV}{c:QC}(h:QAt W v c)(hm:mayRes v c=true):FitQ v c:=by
 have lx:=h.e.len
 have lc:c.cursor.length=v.cn:=by have:=h.c.1;rw[byV_len] at this;omega
 unfold mayRes at hm
 by_cases h0:v.code=0
 ·rw[if_pos h0] at hm
  simp only[Bool.and_eq_true,Bool.not_eq_true',Bool.or_eq_false_iff,decide_eq_false_iff_not,decide_eq_true_eq] at hm
  obtain⟨⟨⟨h1,h2⟩,h3⟩,h4⟩:=hm
  exact⟨by omega,by omega,by omega,fun p hp=>(by
   have:=List.any_eq_false.1 h2 p hp
   simpa using this),h4,by omega⟩
 rw[if_neg h0] at hm
 simp only[Bool.and_eq_true,decide_eq_true_eq] at hm
 obtain⟨⟨h1,h2⟩,h3⟩:=hm
 unfold sameRes at h3
 simp only[Bool.and_eq_true,decide_eq_true_eq] at h3
 obtain⟨-,-,h4,h5⟩:=h3
 have e1:=sameEnts_nil h4
 rw[e1] at lx
 rw[h5] at lc
 have l0:([]:List EP).length=0:=rfl
 have l1:([]:List UInt8).length=0:=rfl
 refine⟨by omega,by omega,by omega,fun p hp=>?_,?_,by omega⟩
 ·rw[e1] at hp;cases hp
 rw[e1];exact Nat.zero_le _
def GivesRB (v:QV)(c:QC)(w:World)(e:Ending)(w':World):Prop:=∃(l:List UInt8) (ax:Option Addr) (cx:Nat) (ex:Int),e=.returned (.tuple #[.slice ax l.length cx,.int .i64 ex])∧Rd w' 1 ax l.length cx (byV l)∧Below w.heap.size w w'∧(∀a,ax=some a→w.heap.size≤a.block)∧(mayRes v c=true→l=resL v c∧ex=0)∧(mayRes v c=false→l=[]∧ex=2)
theorem resL_len {v:QV}{c:QC}:(resL v c).length=29+(entsB c.ents).length+c.cursor.length:=by unfold resL;simp only[List.length_append,val_len,num8_len,List.length_cons,List.length_nil];omega
set_option maxRecDepth 100000 in
theorem resBytesE_any (v:QV)(c:QC)(w:World)(h:QAt w v c)(hs:ShortQ c):Calls Tryz.prog 27 #[v.val] w (GivesRB v c w):=by
 have hb0:Below w.heap.size w (w.alloc v.box):=(Below.refl _ _).alloc (Nat.le_refl _) _
 have k0:(w.alloc v.box).heap[w.heap.size]?=some v.box:=by show (w.heap.push _)[w.heap.size]?=some _;exact Array.getElem?_push_size
 unfold QV.box QV.cells at hb0 k0
 unfold QV.val QV.cells
 go_enter Tryz.func27,Tryz.ntmps27
 go_upto_region 1 with fail
 generalize hg:w.alloc _=W0 at *
 have q0:W0.heap[w.heap.size]?=some v.box:=k0
 have hm0:=mayRes_any v c W0 (h.later hb0) hs
 unfold QV.val QV.cells at hm0
 clear hg k0
 obtain⟨c0,c1,c2,c3,-⟩:=qbox_all q0
 go_wp2_with fail
 refine hm0.mono ?_
 rintro e W1 ⟨rfl,hb1⟩
 have q1:=(hb1.block _ (Array.getElem?_eq_some_iff.1 q0).1).trans q0
 have hbel:=hb0.trans (hb1.mono hb0.size)
 clear c0 c1 c2 c3 hm0
 cases hm:mayRes v c with
 | false=>
  have HM:=hid hm
  clear hm
  go_wp2_with fail
  go_ret2
  exact⟨[],none,0,2,rfl,Rd.nil _ _,hbel,(fun a ha=>by cases ha),fun h=>(by rw[HM.out] at h;cases h),fun _=>⟨rfl,rfl⟩⟩
 | true=>
  have F:=FitQ.of h hm
  have HM:=hid hm
  have hr:=resBytes_any v c W1 (h.later hbel) F.c0 (by have:=F.c14;omega) F.en F.all F.len F.cn
  unfold QV.val QV.cells at hr
  clear hm F
  go_wp2_with (refine wpList_load_row q1 rfl rfl rfl (by kernel_rfl) (by kernel_rfl) ?_;go_simp)
  refine hr.mono ?_
  rintro e W2 ⟨ax,cx,rfl,hrd,hb2,hfr⟩
  go_wp2_with fail
  go_ret2
  exact⟨_,ax,cx,0,rfl,hrd,hbel.trans (hb2.mono hbel.size),fun a ha=>Nat.le_trans hbel.size (hfr a ha),fun _=>⟨rfl,rfl⟩,fun h=>(by rw[HM.out] at h;cases h)⟩
theorem sameEntry_may {v v':EV}{x x':List (ByteArray×ByteArray)}(h:sameEntry v x v' x'=true):mayEntry v x=mayEntry v' x'∧entL v x=entL v' x':=by
 unfold sameEntry at h
 simp only[Bool.and_eq_true,decide_eq_true_eq] at h
 obtain⟨h1,rfl⟩:=h
 unfold mayEntry entL
 rw[h1]
 exact⟨rfl,rfl⟩
theorem sameEnts_may:∀ {l m:List EP},sameEnts l m=true→(l.any fun u=>!mayEntry u.1 u.2)=(m.any fun u=>!mayEntry u.1 u.2)∧entsB l=entsB m
 | [],[],_=>⟨rfl,rfl⟩
 | [],_::_,h=>by simp[sameEnts] at h
 | _::_,[],h=>by simp[sameEnts] at h
 | p::l,q::m,h=>by
  unfold sameEnts at h
  simp only[Bool.and_eq_true] at h
  obtain⟨h1,h2⟩:=h
  obtain⟨a1,a2⟩:=sameEntry_may h1
  obtain⟨b1,b2⟩:=sameEnts_may h2
  rw[List.any_cons,List.any_cons,a1,b1,entsB_cons,entsB_cons,a2,b2]
  exact⟨rfl,rfl⟩
theorem sameEnts_empty {l m:List EP}(h:sameEnts l m=true):sameEnts l []=sameEnts m []:=by
 have:=sameEnts_len h
 cases l with
 | nil=>cases m with
  | nil=>rfl
  | cons q m=>simp at this
 | cons p l=>cases m with
  | nil=>simp at this
  | cons q m=>rfl
theorem mayRes_same {W W':World}{v v':QV}{c c':QC}(h:QAt W v c)(h':QAt W' v' c')(hs:sameRes v c v' c'=true):mayRes v c=mayRes v' c':=by
 have lx:=h.e.len
 have lx':=h'.e.len
 have lc:c.cursor.length=v.cn:=by have:=h.c.1;rw[byV_len] at this;omega
 have lc':c'.cursor.length=v'.cn:=by have:=h'.c.1;rw[byV_len] at this;omega
 unfold sameRes at hs
 simp only[Bool.and_eq_true,decide_eq_true_eq] at hs
 obtain⟨h1,h2,h3,h4⟩:=hs
 obtain⟨a1,a2⟩:=sameEnts_may h3
 have e1:v.en=v'.en:=by have:=sameEnts_len h3;omega
 have e2:v.cn=v'.cn:=by rw[←lc,←lc',h4]
 unfold mayRes sameRes bareQ
 dsimp only
 rw[h1,h2,e1,e2,a1,a2,h4,sameEnts_empty h3]
theorem res_inj {W W':World}{v v':QV}{c c':QC}(h:QAt W v c)(h':QAt W' v' c')(hm:mayRes v c=true)(hm':mayRes v' c'=true)(e:resL v c=resL v' c'):sameRes v c v' c'=true:=by
 have F:=FitQ.of h hm
 have F':=FitQ.of h' hm'
 have lc:c.cursor.length=v.cn:=by have:=h.c.1;rw[byV_len] at this;omega
 have lc':c'.cursor.length=v'.cn:=by have:=h'.c.1;rw[byV_len] at this;omega
 have a0:=F.c0;have a1:=F.c14;have a2:=F.len;have a3:=F.cn
 have b0:=F'.c0;have b1:=F'.c14;have b2:=F'.len;have b3:=F'.cn
 unfold resL at e
 obtain⟨h1,e⟩:=val_inj (by decide) (by rw[num8_len];omega) (by rw[num8_len];omega) e
 obtain⟨h2,e⟩:=val_inj (by decide) (by simp) (by simp) e
 obtain⟨h3,e⟩:=val_inj (by decide) (by omega) (by omega) e
 obtain⟨h4,-⟩:=val_inj (by decide) (by omega) (by omega) e
 have e1:=num8_inj (by omega) (by omega) h1
 have e2:v.yes=v'.yes:=by
  cases hy:v.yes<;>cases hy':v'.yes<;>rw[hy,hy'] at h2<;>first | rfl | (simp at h2)
 have e3:=ents_inj _ _ F.all F'.all h3
 unfold sameRes
 rw[decide_eq_true (show v.code=v'.code by omega),decide_eq_true e2,e3,decide_eq_true h4]
 rfl
def NoRes (b:List UInt8):Prop:=∀W v c,QAt W v c→mayRes v c=true→resL v c≠b
theorem took_map {α β:Type}{body:α→List UInt8}{may good:α→Prop}{body':β→List UInt8}{may' good':β→Prop}{f:α→β}{s s':RS}{y:α}(h:Took body may good s y s')(hb:∀z,body z=body' (f z))(hm:∀Y,may' Y→∃z,may z∧f z=Y)(hg:∀z,good z→good' (f z)):Took body' may' good' s (f y) s':=
 ⟨fun h1=>by obtain⟨a,b,c⟩:=h.yes h1;exact⟨a,by rw[←hb];exact b,hg _ c⟩,fun h1=>(h.no h1).imp id (fun k Y r hY=>by obtain⟨z,hz,rfl⟩:=hm Y hY;rw[←hb];exact k z r hz),h.le⟩
def EntsOk (Y:List UInt8):Prop:=∃l:List EP,Y=entsB l∧(∀p∈l,mayEntry p.1 p.2=true)∧l.length≤1000∧(entsB l).length≤4194304
section
variable {b cur Y:List UInt8} {s1 s2 s3 s4:RS} {n1:Nat} {y2:Bool}
 (T1:Took (fun n:Nat=>val 1 (num8 n)) (fun n=>n≤14) (fun n=>n<18446744073709551616) ⟨b,false⟩ n1 s1)
 (T2:Took (fun y:Bool=>val 2 [if y then 1 else 0]) (fun _=>True) (fun _=>True) s1 y2 s2)
 (T3:Took (val 3) EntsOk (fun z=>z.length≤4194304) s2 Y s3)
 (T4:Took (val 4) (fun z=>z.length≤4194304) (fun z=>z.length≤4194304) s3 cur s4)
include T1 T2 T3 T4
theorem res_none (h:(s4.bad=true∨0<s4.l.length)∨∀W v c,QAt W v c→mayRes v c=true→v.code=(n1:Int)→v.yes=y2→entsB c.ents=Y→c.cursor=cur→False):NoRes b:=by
 intro W v c ho hm e
 have F:=FitQ.of ho hm
 have lx:=ho.e.len
 have lc:c.cursor.length=v.cn:=by have:=ho.c.1;rw[byV_len] at this;omega
 have a0:=F.c0;have a1:=F.c14;have a2:=F.len;have a3:=F.cn
 unfold resL at e
 cases h1:s1.bad with
 | true=>
  rcases T1.no h1 with h | h
  ·cases h
  exact h v.code.toNat _ (by omega) e.symm
 | false=>
  obtain⟨-,e1,g1⟩:=T1.yes h1
  dsimp only at e1
  rw[e1] at e
  obtain⟨k1,e⟩:=val_inj (by decide) (by rw[num8_len];omega) (by rw[num8_len];omega) e
  cases h2:s2.bad with
  | true=>
   rcases T2.no h2 with h | h
   ·rw[h1] at h;cases h
   exact h v.yes _ trivial e.symm
  | false=>
   obtain⟨-,e2,g2⟩:=T2.yes h2
   rw[e2] at e
   obtain⟨k2,e⟩:=val_inj (by decide) (by simp) (by simp) e
   cases h3:s3.bad with
   | true=>
    rcases T3.no h3 with h | h
    ·rw[h2] at h;cases h
    exact h (entsB c.ents) _ ⟨c.ents,rfl,F.all,by have:=F.en;omega,a2⟩ e.symm
   | false=>
    obtain⟨-,e3,g3⟩:=T3.yes h3
    rw[e3] at e
    obtain⟨k3,e⟩:=val_inj (by decide) (by omega) g3 e
    cases h4:s4.bad with
    | true=>
     rcases T4.no h4 with h | h
     ·rw[h3] at h;cases h
     exact h c.cursor [] (by omega) e.symm
    | false=>
     obtain⟨-,e4,g4⟩:=T4.yes h4
     rw[e4] at e
     obtain⟨k4,e⟩:=val_inj (by decide) (by omega) g4 e
     rcases h with (h | h) | h
     ·rw[h4] at h;cases h
     ·rw[←e] at h;simp at h
     have q1:=num8_inj (by omega) (by omega) k1
     have q2:v.yes=y2:=by
      cases hy:v.yes<;>cases hy':y2<;>rw[hy,hy'] at k2<;>first | rfl | (simp at k2)
     exact h W v c ho hm (by omega) q2 k3 k4
theorem res_done (h4:s4.bad=false)(hl:s4.l=[]):b=val 1 (num8 n1)++(val 2 [if y2 then 1 else 0]++(val 3 Y++(val 4 cur++[])))∧n1<18446744073709551616∧Y.length≤4194304∧cur.length≤4194304:=by
 obtain⟨h3,e4,g4⟩:=T4.yes h4
 obtain⟨h2,e3,g3⟩:=T3.yes h3
 obtain⟨h1,e2,-⟩:=T2.yes h2
 obtain⟨-,e1,g1⟩:=T1.yes h1
 dsimp only at e1
 exact⟨by rw[e1,e2,e3,e4,hl],g1,g3,g4⟩
end
end Go.Proofs.YtgeafnggodkpaaaGreat.Msg
namespace Go.Proofs.YtgeafnggodkpaaaGreat.Msg
open Go.RowKit Go.Lib Go.Proofs.YtgeafnggodkpaaaGreat.Mem Go.Proofs.YtgeafnggodkpaaaGreat.Utf Go.Proofs.YtgeafnggodkpaaaGreat.Tlv
theorem lsV_at (xs:List El)(k:Nat)(u:El)(h:xs[k]?=some u):(lsV xs)[k]?=some (.slice u.ao u.it.2.length u.cap):=by simp[lsV,h]
theorem lsV_len (xs:List El):(lsV xs).length=xs.length:=by simp[lsV]
def elB (xs:List El):List (List UInt8):=xs.map fun x=>x.it.2
theorem ofTag_next (xs:List El)(k:Nat)(u:El)(h:xs[k]?=some u):ofTag 1 (elB (xs.take (k+1)))=ofTag 1 (elB (xs.take k))++val 1 u.it.2:=by
 rw[List.take_add_one,h]
 simp[elB,ofTag]
theorem ofTag_le (xs:List El)(k:Nat):(ofTag 1 (elB (xs.take k))).length≤(ofTag 1 (elB xs)).length:=by
 have e:ofTag 1 (elB xs)=ofTag 1 (elB (xs.take k))++ofTag 1 (elB (xs.drop k)):=by
  unfold ofTag elB
  rw[←List.flatMap_append,←List.map_append,List.take_append_drop]
 rw[e,List.length_append];omega
theorem el_le:∀ {xs:List El} {u:El},u∈xs→u.it.2.length+5≤(ofTag 1 (elB xs)).length
 | [],_,h=>by cases h
 | x::xs,u,h=>by
  have e:ofTag 1 (elB (x::xs))=val 1 x.it.2++ofTag 1 (elB xs):=rfl
  rw[e,List.length_append,val_len]
  rcases List.mem_cons.1 h with rfl | h
  ·omega
  have:=el_le h;omega
theorem el_many:∀(xs:List El),5*xs.length≤(ofTag 1 (elB xs)).length
 | []=>Nat.zero_le _
 | x::xs=>by
  have e:ofTag 1 (elB (x::xs))=val 1 x.it.2++ofTag 1 (elB xs):=rfl
  have:=el_many xs
  rw[e,List.length_append,val_len,List.length_cons]
  omega
def GivesLst (l:List UInt8)(w:World)(e:Ending)(w':World):Prop:=∃v,e=.returned (.tuple #[v,.bool true])∧w'.ownsRow w.heap.size 5 1 v l.length (byV l)∧Below w.heap.size w w'
set_option maxRecDepth 100000 in
theorem rLst_any (t:UInt8)(ao:Option Addr)(n cap:Nat)(x:List El)(w:World)(hx:Rd w 1 ao n cap (lsV x))(hu:∀u∈x,elG u w)(hl:(ofTag 1 (elB x)).length≤4194304) :
  Calls Tryz.prog 88 #[.int .u8 (t.toNat:Int),.slice ao n cap] w (GivesLst (val t (ofTag 1 (elB x))) w):=by
 have lx:x.length=n:=by have:=hx.1;rw[lsV_len] at this;omega
 have hn:n≤1000000:=by have:=el_many x;omega
 have LX:=hid lx
 have HL:=hid hl
 clear lx hl
 have own0:w.ownsRow w.heap.size 5 1 (.slice none 0 0) (ofTag 1 (elB (x.take 0))).length (byV (ofTag 1 (elB (x.take 0)))):=World.ownsRow_nil _ _ _ _
 go_enter Tryz.func88,Tryz.ntmps88
 go_wp2_with fail
 go_loopw [6,7] (fun bv p wr=>∃k:Nat,k≤n∧p=.int .i64 (k:Int)∧wr.ownsRow w.heap.size 5 1 bv (ofTag 1 (elB (x.take k))).length (byV (ofTag 1 (elB (x.take k))))∧Below w.heap.size w wr) (fun _ p _=>n-(intOf p).toNat)
 case atStart=>exact⟨0,Nat.zero_le _,rfl,own0,Below.refl _ _⟩
 case round=>
  obtain⟨k,hk,rfl,own,hbr⟩:=hrel
  by_cases hkn:k<n
  ·obtain⟨b1,o1,rfl,hl1,hc1⟩:=hx.some (by have:=hx.le;omega)
   obtain⟨u,hue⟩:∃u,x[k]?=some u:=⟨_,List.getElem?_eq_getElem (by rw[LX.out];exact hkn)⟩
   have c1:=(hbr.cell (p:=⟨b1,o1+k,none⟩) hl1).trans (hc1 k _ (lsV_at x k u hue))
   have c2:wr.cell? ⟨b1,o1+k*1,none⟩=some (.slice u.ao u.it.2.length u.cap):=by rw[Nat.mul_one];exact c1
   have hr1:Rd wr 1 u.ao u.it.2.length u.cap (byV u.it.2):=Rd.later (hu u (List.mem_of_getElem? hue)) hbr
   have hn1:u.it.2.length≤4194304:=by have:=el_le (List.mem_of_getElem? hue);have:=HL.out;omega
   have hL:(ofTag 1 (elB (x.take k))).length≤4194304:=Nat.le_trans (ofTag_le x k) HL.out
   have hnext:=hid (ofTag_next x k u hue)
   obtain⟨V1,hv1⟩:∃V1,val 1 u.it.2=V1:=⟨_,rfl⟩
   obtain⟨A,hA⟩:∃A,ofTag 1 (elB (x.take k))=A:=⟨_,rfl⟩
   have hV1:V1.length=u.it.2.length+5:=by rw[←hv1,val_len];omega
   have hN:Hid (ofTag 1 (elB (x.take (k+1)))=A++V1):=hid (by rw[hnext.out,hv1,hA])
   rw[hA] at hL
   have h17:A.length+V1.length≤maxLen:=by rw[hV1];unfold maxLen;omega
   have h17b:(A.length+V1.length)*1≤140737488355328:=by rw[hV1];omega
   rw[hA] at own
   have Hv1:=hid hv1
   clear hv1 hA hL hnext hV1 hc1 hue
   have i0:(0:Int)≤(k:Int):=by omega
   have i1:(k:Int)<(n:Int):=by omega
   have z0:=hbr.size
   go_wp2_with fail
   refine (rvalue_any 1 u.it.2 _ _ _ wr hn1 hr1).mono ?_
   rintro e W2 ⟨v1,rfl,o2,hb2⟩
   rw[Hv1.out] at o2
   obtain⟨a2,k2,e2,r2⟩:=Rd.of_own o2
   subst e2
   have own2:=own_later own hb2
   have hB2:=hbr.trans (hb2.mono z0)
   have z2:=hB2.size
   clear c1 c2 own o2 hn1 hr1
   go_wp2_with (at_builtin;refine wpList_app _ rfl (.tmp 14) (.tmp 19) 25 rfl w.heap.size 5 (.int .u8 0) 1 1 Tlv.byT u6 _ _ rfl own2 a2 _ k2 _ rfl r2 (byV_one _) h17 h17b z2 ?_;intro ao3 cap3 W3 o3 _ hb3 _)
   have o4:W3.ownsRow w.heap.size 5 1 (.slice ao3 (A.length+V1.length) cap3) (ofTag 1 (elB (x.take (k+1)))).length (byV (ofTag 1 (elB (x.take (k+1))))):=by rw[hN.out,List.length_append,byV_app];exact o3
   clear h17 h17b
   go_roundw
   case rel=>exact⟨k+1,by omega,by go_num,o4,hB2.trans hb3⟩
   case measure=>simp[intOf];omega
  have hke:k=n:=by omega
  have hfull:x.take k=x:=List.take_of_length_le (by rw[LX.out];omega)
  rw[hfull] at own
  obtain⟨ao',cap',e',hr'⟩:=Rd.of_own own
  subst e'
  have z0:=hbr.size
  have hlen:=HL.out
  have f0:decide (((ofTag 1 (elB x)).length:Int)≤4194304)=true:=decide_eq_true (by omega)
  clear hke hfull
  obtain⟨A,hA⟩:∃A,ofTag 1 (elB x)=A:=⟨_,rfl⟩
  rw[hA] at f0 hr' hlen ⊢
  have HA:=hid hA
  clear hA own
  go_wp2_with fail
  refine (rvalue_any t A ao' _ cap' wr hlen hr').mono ?_
  rintro e W1 ⟨v1,rfl,o1,hb1⟩
  go_wp2_with fail
  go_ret2
  exact⟨v1,rfl,own_base (by rw[HA.out];exact o1) z0,hbr.trans (hb1.mono z0)⟩
end Go.Proofs.YtgeafnggodkpaaaGreat.Msg
