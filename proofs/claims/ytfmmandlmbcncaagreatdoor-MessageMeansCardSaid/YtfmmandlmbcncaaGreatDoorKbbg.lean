/-
  A part of the proof.
-/
import Derived.Test.YtfmmandlmbcncaaGreatDoorKbbf
set_option maxHeartbeats 40000000
namespace Go.Proofs.YtfmmandlmbcncaaGreatDoor.Msg
open Go.RowKit Go.Lib Go.Proofs.YtfmmandlmbcncaaGreatDoor.Mem Go.Proofs.YtfmmandlmbcncaaGreatDoor.Tlv
def RowT (t:TypeId):Prop:=t=5∨t=9∨t=106∨t=124∨t=55∨t=22
structure KeepM (W W':World):Prop where
 size:W.heap.size≤W'.heap.size
 rows:∀(k:Nat) (c:Array Value) (t:TypeId) (fr:Nat×Nat),RowT t→W.heap[k]?=some (Obj.cells c t fr)→W'.heap[k]?=some (Obj.cells c t fr)
theorem KeepM.of_below {a b:World}(h:Below a.heap.size a b):KeepM a b:=⟨h.size,fun k _ _ _ _ hk=>(h.block k (Array.getElem?_eq_some_iff.1 hk).1).trans hk⟩
theorem KeepM.kr {a b:World}(h:KeepM a b):KeepR a b:=⟨h.size,fun k c t fr ht hk=>h.rows k c t fr (by rcases ht with h | h | h<;>simp[RowT,h]) hk⟩
theorem KeepM.of_belX {a b:World}{xs:List Nat}(h:BelX a.heap.size xs a b)(hx:∀k∈xs,∃o,a.heap[k]?=some o∧∀(c:Array Value) (t:TypeId) (fr:Nat×Nat),RowT t→o≠.cells c t fr):KeepM a b:=by
 refine⟨h.size,fun k c t fr ht hk=>h.at_ hk (Array.getElem?_eq_some_iff.1 hk).1 (fun hm=>?_)⟩
 obtain⟨o,h1,h2⟩:=hx k hm
 rw[hk] at h1
 exact h2 c t fr ht (Option.some.inj h1).symm
theorem KeepM.box {a b:World}{j:Nat}{cs:Array Value}{t:TypeId}{fr:Nat×Nat}(h:a.heap[j]?=some (.cells cs t fr))(ht:¬RowT t)(hs:a.heap.size≤b.heap.size)(ho:∀k,k≠j→b.heap[k]?=a.heap[k]?):KeepM a b:=by
 refine⟨hs,fun k c t' fr' ht' hk=>?_⟩
 have hne:k≠j:=fun e=>by
  subst e
  rw[h] at hk
  cases hk
  exact ht ht'
 exact (ho k hne).trans hk
theorem KeepM.set {W:World}{b i:Nat}{cs:Array Value}{t:TypeId}{fr:Nat×Nat}{x:Value}(h:W.heap[b]?=some (.cells cs t fr))(ht:¬RowT t):KeepM W (W.setCell ⟨b,i,none⟩ x):=
 KeepM.box h ht (Nat.le_of_eq (World.size_setCell _ _ _).symm) (fun _ hk=>Below.heap_setCell _ _ _ _ hk)
theorem KeepM.grown {W W':World}{b:Nat}{cs:Array Value}{t:TypeId}{fr:Nat×Nat}(hg:W.grownBy W' (some b))(h:W.heap[b]?=some (.cells cs t fr))(ht:¬RowT t):KeepM W W':=by
 refine⟨hg.size,fun k c t' fr' ht' hk=>(hg.block k (Array.getElem?_eq_some_iff.1 hk).1 (fun e=>?_)).trans hk⟩
 have e:=Option.some.inj e
 subst e
 rw[h] at hk
 cases hk
 exact ht ht'
theorem rd_kpm {a b:World}{size:Nat}{ao:Option Addr}{n cap:Nat}{xs:List Value}{t:TypeId}(ht:RowT t)(h:Rd a size ao n cap xs)(hy:TyX t a ao cap)(hk:KeepM a b):Rd b size ao n cap xs:=by
 obtain⟨h1,h2,h3,h4,h5⟩:=h
 refine⟨h1,h2,h3,h4,fun h0 x hx=>?_⟩
 obtain⟨s1,l,c⟩:=h5 h0 x hx
 obtain⟨c',fr,h6⟩:=hy h0 x hx
 exact⟨s1,Nat.lt_of_lt_of_le l hk.size,fun j u hu=>(World.cell?_of_block (a:=⟨x.block,x.off+j,none⟩) ((hk.rows _ _ _ _ ht h6).trans h6.symm)).trans (c j u hu)⟩
theorem TyX.kpm {a b:World}{ao:Option Addr}{cap:Nat}{t:TypeId}(ht:RowT t)(hy:TyX t a ao cap)(hk:KeepM a b):TyX t b ao cap:=fun h0 x hx=>by
 obtain⟨c',fr,h6⟩:=hy h0 x hx
 exact⟨c',fr,hk.rows _ _ _ _ ht h6⟩
theorem rowT_u8:RowT 5:=.inl rfl
theorem rowT_ent:RowT 124:=.inr (.inr (.inr (.inl rfl)))
theorem rowT_req:RowT 55:=.inr (.inr (.inr (.inr (.inl rfl))))
theorem rowT_u64:RowT 22:=.inr (.inr (.inr (.inr (.inr rfl))))
theorem rowT_not_res:¬RowT 39:=fun h=>by rcases h with h | h | h | h | h | h<;>exact absurd h (by decide)
theorem rowT_not_rdr:¬RowT 237:=fun h=>by rcases h with h | h | h | h | h | h<;>exact absurd h (by decide)
structure QTy (W:World)(v:QV)(c:QC):Prop where
 e:TyX 124 W v.eo v.ec
 a:∀p∈c.ents,TyX 106 W p.1.ao p.1.ac
 c:TyX 5 W v.co v.cc
theorem QTy.kpm {a b:World}{v:QV}{c:QC}(h:QTy a v c)(hk:KeepM a b):QTy b v c:=⟨h.e.kpm rowT_ent hk,fun p hp=>(h.a p hp).kpr (.inr (.inr rfl)) hk.kr,h.c.kpm rowT_u8 hk⟩
theorem EnAt.kpm {a b:World}{ao:Option Addr}{n cap:Nat}{l:List EP}(h:EnAt a ao n cap l)(h1:TyX 124 a ao cap)(h2:∀p∈l,TyX 106 a p.1.ao p.1.ac)(hk:KeepM a b):EnAt b ao n cap l:=
 ⟨rd_kpm rowT_ent h.r h1 hk,fun p hp=>⟨rd_kpr (.inr (.inr rfl)) (h.each p hp).a (h2 p hp) hk.kr,(h.each p hp).la⟩⟩
theorem QAt.kpm {a b:World}{v:QV}{c:QC}(h:QAt a v c)(hy:QTy a v c)(hk:KeepM a b):QAt b v c:=⟨h.e.kpm hy.e hy.a hk,rd_kpm rowT_u8 h.c hy.c hk,h.lc⟩
theorem below_belX {M B:Nat}{xs:List Nat}{a b:World}(h:BelX M xs a b)(hM:B≤M)(hx:∀k∈xs,B≤k):Below B a b:=⟨h.os,h.tape,h.output,h.size,fun k hk=>h.block k (by omega) (fun hm=>by have:=hx k hm;omega)⟩
def GivesQo (T:World→QV→QC→Prop)(ok bad:Value)(b:List UInt8)(w:World)(e:Ending)(w':World):Prop:=Below w.heap.size w w' ∧
 ((∃v c,e=.returned (.tuple #[QV.val v,ok])∧QAt w' v c∧T w' v c∧mayRes v c=true∧resL v c=b)∨(e=.returned (.tuple #[zeroQ.val,bad])∧NoRes b))
theorem took_ents {s s':RS}{l:List EP}(T:Took (fun ys=>val 3 (flatE elE ys)) (fun ys=>(∀y∈ys,mayE y)∧ys.length≤1000∧(flatE elE ys).length≤4194304) (fun ys=>(∀y∈ys,mayE y)∧ys.length≤1000∧(flatE elE ys).length≤4194304) s l s'):Took (val 3) EntsOk (fun z=>z.length≤4194304) s (entsB l) s':=
 took_map (f:=entsB) T (fun _=>rfl) (fun _ ⟨m,h1,h2,h3,h4⟩=>⟨m,⟨h2,h3,h4⟩,h1.symm⟩) (fun _ h=>h.2.2)
theorem sameRes_of {v v':QV}{c c':QC}(h1:v.code=v'.code)(h2:v.yes=v'.yes)(h3:sameEnts c.ents c'.ents=true)(h4:c.cursor=c'.cursor):sameRes v c v' c'=true:=by
 unfold sameRes
 rw[decide_eq_true h1,decide_eq_true h2,h3,decide_eq_true h4]
 rfl
set_option maxRecDepth 100000 in
theorem resultOf_any (b:List UInt8)(ao:Option Addr)(n cap:Nat)(w:World)(hr:Rd w 1 ao n cap (byV b))(hn:n≤100000000) :
  Calls Tryz.prog 199 #[.slice ao n cap] w (GivesQo QTy (.int .i64 0) (.int .i64 4) b w):=by
 have hbn:b.length=n:=by have:=hr.1;rw[byV_len] at this;omega
 have hb0:Below w.heap.size w (w.alloc zeroQ.box):=(Below.refl _ _).alloc (Nat.le_refl _) _
 have k0:(w.alloc zeroQ.box).heap[w.heap.size]?=some zeroQ.box:=by show (w.heap.push _)[w.heap.size]?=some _;exact Array.getElem?_push_size
 have hz0:(w.alloc zeroQ.box).heap.size=w.heap.size+1:=by simp
 have hr0:=hr.later hb0
 unfold zeroQ QV.box QV.cells at hb0 k0 hz0 hr0
 dsimp only at hb0 k0 hz0 hr0
 clear hr
 go_enter Tryz.func199,Tryz.ntmps199
 go_upto_region 1 with fail
 generalize hg:w.alloc _=W0 at *
 have k0f:W0.heap[w.heap.size]?=some zeroQ.box:=k0
 clear hg k0
 go_wp2_with fail
 refine (read_any ao n cap b W0 hr0 (by omega)).mono ?_
 rintro e W1 ⟨g,rfl,hr1,hb1⟩
 have hg0:W0.heap.size≤g:=by obtain⟨_,_,h⟩:=hr1;exact h.le
 have T1:=took_weaken (took_numM ⟨b,false⟩ 1 255 (by decide) (by decide)) (may':=fun n=>n≤14) (good':=fun n=>n<18446744073709551616) (fun _ _=>by omega) (fun _ _=>by omega)
 have hle1:=numM_le ⟨b,false⟩ 1 255
 have hnum1:=number_any W0.heap.size g ⟨b,false⟩ 1 255 W1 hr1 (by dsimp only;omega) (by decide)
 generalize RS.numM ⟨b,false⟩ 1 255=nm at *
 obtain⟨n1,s1⟩:=nm
 dsimp only at T1 hnum1 hle1
 have l1:=T1.le
 dsimp only at l1
 have HT1:=hid T1
 clear T1
 go_wp2_with fail
 refine hnum1.mono ?_
 rintro e W2 ⟨rfl,hr2,hg2⟩
 have T2:=took_flag s1 2 (by decide)
 have hflag:=rflag2_any W0.heap.size g s1 2 W2 hr2 (by omega)
 unfold GivesR at hflag
 generalize RS.flag s1 2=fm at *
 obtain⟨y2,s2⟩:=fm
 dsimp only at T2 hflag
 have l2:=T2.le
 have HT2:=hid T2
 clear T2
 go_wp2_with fail
 refine hflag.mono ?_
 rintro e W3 ⟨rfl,hr3,hg3⟩
 have hb3:Below W0.heap.size W0 W3:=(hb1.trans (below_of_grown hg2 hg0 (by obtain⟨_,_,h⟩:=hr1;exact h.lt))).trans (below_of_grown hg3 hg0 (by obtain⟨_,_,h⟩:=hr2;exact h.lt))
 go_upto_region 3 with (refine wpList_store_new rfl rfl rfl rfl (by kernel_rfl) rfl (by kernel_rfl) ?_;go_simp)
 generalize hg:W3.alloc _=W4
 obtain⟨V,hV⟩:∃V:QV,V=⟨(n1:Int),y2,none,0,0,none,0,0⟩:=⟨_,rfl⟩
 have e4:W3.alloc V.box=W4:=by rw[hV];exact hg
 have hb4':Below W3.heap.size W3 W4:=by rw[←e4];exact (Below.refl _ _).alloc (Nat.le_refl _) _
 have q4:W4.heap[W3.heap.size]?=some V.box:=by rw[←e4];show (W3.heap.push _)[W3.heap.size]?=some _;exact Array.getElem?_push_size
 have hr4:=hr3.later hb4'
 have hb4:=hb3.trans (hb4'.mono hb3.size)
 have hob:W0.heap.size≤W3.heap.size:=hb3.size
 have hgo:g≠W3.heap.size:=by obtain⟨_,_,h⟩:=hr3;have:=h.lt;omega
 have HV:=hid hV
 clear hg e4 hnum1 hflag hb1 hr1 hr2 hr3 hg2 hg3 hb3 hb4' hV hle1
 generalize W3.heap.size=ob at *
 have hVn:V=V.ents none 0 0:=by rw[HV.out];rfl
 have q4':W4.heap[ob]?=some (V.ents none 0 0).box:=by rw[←hVn];exact q4
 clear hVn
 go_wp2_with fail
 refine (elist_any W0.heap.size g ob s2 3 V W4 (by decide) hr4 (by omega) q4' hgo).mono ?_
 rintro e W5 ⟨⟨r5,rfl⟩,s3,qb,l,hr5,hq5,hst5,hX5,hln5,T3'⟩
 obtain⟨⟨a5,k5,q5,own5⟩,ty5⟩:=hst5
 have T3:=took_ents T3'
 have l3:=T3.le
 have hb5:Below W0.heap.size W0 W5:=hb4.trans (below_belX hX5 hb4.size (fun k hk=>by simp only[List.mem_cons,List.not_mem_nil,or_false] at hk;omega))
 have HT3:=hid T3
 have HT3':=hid T3'
 clear T3 T3' q4 q4' hr4 hb4 hX5
 have T4:=took_bytes s3 4 (by decide)
 have hl4:=bytes_le s3 4
 have hby:=rbytes2_any W0.heap.size g s3 4 W5 hr5 (by omega)
 generalize RS.bytes s3 4=y at *
 obtain⟨cur,s4⟩:=y
 dsimp only at T4 hby hl4
 have HT4:=hid T4
 clear T4
 go_wp2_with fail
 refine hby.mono ?_
 rintro e W6 ⟨a6,c6,rfl,hrd6,hty6,hr6,hg6⟩
 have hb6:Below W0.heap.size W0 W6:=hb5.trans (below_of_grown hg6 hg0 (by obtain⟨_,_,h⟩:=hr5;exact h.lt))
 have q6:W6.heap[ob]?=some (V.ents a5 l.length k5).box:=(hg6.block _ (Array.getElem?_eq_some_iff.1 q5).1 (fun e=>hgo (Option.some.inj e).symm)).trans q5
 have own6:W6.ownsRow qb 124 2 (.slice a5 l.length k5) l.length (enV l):=own_kept own5 (fun k hk=>hg6.block k (own_blk own5 hk).2.1 (fun e=>by obtain⟨_,_,cur,h3⟩:=own_blk own5 hk;obtain⟨_,_,h⟩:=hr5;have h4:=h.at_;rw[←Option.some.inj e,h3] at h4;cases h4))
 have ty6:=ty5.kpr (kpr_g hr5 hg6)
 clear hby q5 own5 ty5 hr5 hb5 hg6
 obtain⟨d0,d1,d2,d3,d4⟩:=qbox_all q6
 go_upto_region 5 with fail
 have q7:(W6.setCell ⟨ob,3,none⟩ (.slice a6 cur.length c6)).heap[ob]?=some (QV.box ⟨(n1:Int),y2,a5,l.length,k5,a6,cur.length,c6⟩):=(at_set q6).trans (by rw[HV.out];kernel_rfl)
 have hr7:RdS W0.heap.size g s4 (W6.setCell ⟨ob,3,none⟩ (.slice a6 cur.length c6)):=hr6.grown (grown_set _ _ _ _) q6 (fun c fr h=>by cases h) hgo
 have hb7:=hb6.setCell (p:=⟨ob,3,none⟩) hob (.slice a6 cur.length c6)
 have hK7:KeepM W6 (W6.setCell ⟨ob,3,none⟩ (.slice a6 cur.length c6)):=KeepM.set q6 rowT_not_res
 have hty7:QTy (W6.setCell ⟨ob,3,none⟩ (.slice a6 cur.length c6)) ⟨(n1:Int),y2,a5,l.length,k5,a6,cur.length,c6⟩ ⟨l,cur⟩:=(show QTy W6 ⟨(n1:Int),y2,a5,l.length,k5,a6,cur.length,c6⟩ ⟨l,cur⟩ from ⟨TyX.of_own own6,fun p hp=>(ty6 p hp).2,hty6⟩).kpm hK7
 have hQ7:QAt (W6.setCell ⟨ob,3,none⟩ (.slice a6 cur.length c6)) ⟨(n1:Int),y2,a5,l.length,k5,a6,cur.length,c6⟩ ⟨l,cur⟩:=(show QAt W6 ⟨(n1:Int),y2,a5,l.length,k5,a6,cur.length,c6⟩ ⟨l,cur⟩ from ⟨⟨Rd.of_own_slice own6,fun p hp=>(ty6 p hp).1⟩,hrd6,by dsimp only;omega⟩).kpm ⟨TyX.of_own own6,fun p hp=>(ty6 p hp).2,hty6⟩ hK7
 generalize W6.setCell _ _=W7 at *
 clear d0 d1 d2 d3 d4 q6 own6 ty6 hrd6 hty6 hr6 hb6 hK7
 have hrz:W7.heap[w.heap.size]?=some zeroQ.box:=(hb7.block _ (by omega)).trans k0f
 have hbel:=hb0.trans (hb7.mono (by omega))
 go_wp2_with fail
 refine (rend_any W0.heap.size g s4 W7 hr7).mono ?_
 rintro e w9 ⟨rfl,rfl⟩
 have f1:(W7.setRow w.heap.size zeroQ.cells).heap[w.heap.size]?=some (.cells zeroQ.cells 39):=setRow_at' hrz
 have f2:=below_setRow hbel (Nat.le_refl _) zeroQ.cells
 by_cases he:s4.bad=true∨0<s4.l.length
 ·have e4:s4.ends=4:=if_pos he
  have hno:=hid (res_none HT1.out HT2.out HT3.out HT4.out (.inl he))
  rw[e4]
  clear he
  go_wp2_with (refine wpList_store_row hrz rfl rfl rfl rfl (by kernel_rfl) rfl (by kernel_rfl) ?_;go_simp)
  exact bodyPost_ret (w:=W7.setRow w.heap.size zeroQ.cells) (results_row2 (i:=2) (j:=3) (t:=39) rfl rfl rfl (by kernel_rfl) (by kernel_rfl) f1) rfl ⟨f2,.inr ⟨rfl,hno.out⟩⟩
 have e4:s4.ends=0:=if_neg he
 have hs1:s4.bad=false:=by cases h:s4.bad with
  | true=>exact absurd (.inl h) he
  | false=>rfl
 have hs2:s4.l=[]:=List.eq_nil_of_length_eq_zero (by
  have:¬0<s4.l.length:=fun h=>he (.inr h)
  omega)
 rw[e4]
 have hs3:s3.bad=false:=(HT4.out.yes hs1).1
 obtain⟨-,-,hall,-,hsh⟩:=HT3'.out.yes hs3
 have hdone:=res_done HT1.out HT2.out HT3.out HT4.out hs1 hs2
 have HD:Hid (resL ⟨(n1:Int),y2,a5,l.length,k5,a6,cur.length,c6⟩ ⟨l,cur⟩=b):=hid hdone.1.symm
 have HNo:Hid (mayRes ⟨(n1:Int),y2,a5,l.length,k5,a6,cur.length,c6⟩ ⟨l,cur⟩=false→NoRes b):=hid (fun hf=>res_none HT1.out HT2.out HT3.out HT4.out (.inr (fun W v c ho hm g1 g2 g3 g4=>by
  have F:=FitQ.of ho hm
  have:=mayRes_same ho hQ7 (sameRes_of g1 g2 (ents_inj _ _ F.all hall g3) g4)
  rw[hm,hf] at this
  cases this)))
 have hme:=mayRes_any ⟨(n1:Int),y2,a5,l.length,k5,a6,cur.length,c6⟩ ⟨l,cur⟩ W7 hQ7 (fun _=>hsh)
 clear he hdone hs1 hs2 hs3 hall hsh
 unfold QV.val QV.cells at hme
 go_wp2_with (refine wpList_load_row (ty:=39) q7 rfl rfl rfl (by kernel_rfl) (by kernel_rfl) ?_;go_simp)
 refine hme.mono ?_
 rintro e W8 ⟨rfl,hb8⟩
 have hrz8:=(hb8.block _ (Array.getElem?_eq_some_iff.1 hrz).1).trans hrz
 have q8:=(hb8.block _ (Array.getElem?_eq_some_iff.1 q7).1).trans q7
 have hbel8:=hbel.trans (hb8.mono hbel.size)
 have hQ8:=hQ7.later hb8
 have hty8:=hty7.kpm (KeepM.of_below hb8)
 clear hme hQ7 hty7 hrz q7 hbel hb8 f1 f2
 cases hm:mayRes ⟨(n1:Int),y2,a5,l.length,k5,a6,cur.length,c6⟩ ⟨l,cur⟩ with
 | false=>
  have hno:=HNo.out hm
  have f1:(W8.setRow w.heap.size zeroQ.cells).heap[w.heap.size]?=some (.cells zeroQ.cells 39):=setRow_at' hrz8
  have f2:=below_setRow hbel8 (Nat.le_refl _) zeroQ.cells
  clear hm
  go_wp2_with (refine wpList_store_row hrz8 rfl rfl rfl rfl (by kernel_rfl) rfl (by kernel_rfl) ?_;go_simp)
  exact bodyPost_ret (w:=W8.setRow w.heap.size zeroQ.cells) (results_row2 (i:=2) (j:=3) (t:=39) rfl rfl rfl (by kernel_rfl) (by kernel_rfl) f1) rfl ⟨f2,.inr ⟨rfl,hno⟩⟩
 | true=>
  have HM:=hid hm
  have f1:(W8.setRow w.heap.size (QV.cells ⟨(n1:Int),y2,a5,l.length,k5,a6,cur.length,c6⟩)).heap[w.heap.size]?=some (.cells (QV.cells ⟨(n1:Int),y2,a5,l.length,k5,a6,cur.length,c6⟩) 39):=setRow_at' hrz8
  have f2:=below_setRow hbel8 (Nat.le_refl _) (QV.cells ⟨(n1:Int),y2,a5,l.length,k5,a6,cur.length,c6⟩)
  have hK:=KeepM.box (b:=W8.setRow w.heap.size (QV.cells ⟨(n1:Int),y2,a5,l.length,k5,a6,cur.length,c6⟩)) hrz8 rowT_not_res (below_setRow (Below.refl w.heap.size W8) (Nat.le_refl _) (QV.cells ⟨(n1:Int),y2,a5,l.length,k5,a6,cur.length,c6⟩)).size (fun k hk=>setRow_other W8 w.heap.size k (QV.cells ⟨(n1:Int),y2,a5,l.length,k5,a6,cur.length,c6⟩) hk)
  have hQF:=hQ8.kpm hty8 hK
  have hTF:=hty8.kpm hK
  clear hm
  go_wp2_with (first | (refine wpList_load_row (ty:=39) q8 rfl rfl rfl (by kernel_rfl) (by kernel_rfl) ?_;go_simp) | (refine wpList_store_row hrz8 rfl rfl rfl rfl (by kernel_rfl) rfl (by kernel_rfl) ?_;go_simp))
  exact bodyPost_ret (w:=W8.setRow w.heap.size (QV.cells ⟨(n1:Int),y2,a5,l.length,k5,a6,cur.length,c6⟩)) (results_row2 (i:=2) (j:=3) (t:=39) rfl rfl rfl (by kernel_rfl) (by kernel_rfl) f1) rfl ⟨f2,.inl ⟨_,⟨l,cur⟩,rfl,hQF,hTF,HM.out,HD.out⟩⟩
end Go.Proofs.YtfmmandlmbcncaaGreatDoor.Msg
