/-
  A part of the proof.
-/
import Derived.Test.YtgeafnggodkpaaaGreatKaax
import Derived.Test.YtgeafnggodkpaaaGreatKaab
set_option maxHeartbeats 40000000
namespace Go.Proofs.YtgeafnggodkpaaaGreat.Msg
open Go.RowKit Go.Lib Go.Proofs.YtgeafnggodkpaaaGreat.Mem Go.Proofs.YtgeafnggodkpaaaGreat.Tlv
structure KeepB (B:Nat)(W W':World):Prop where
 kr:KeepR W W'
 low:∀k,k<B→k<W.heap.size→W'.heap[k]?=W.heap[k]?
theorem KeepB.of_below {B:Nat}{a b:World}(h:Below a.heap.size a b):KeepB B a b:=⟨KeepR.of_below h,fun k _ h2=>h.block k h2⟩
theorem TyB.kpb {B:Nat}{a b:World}{ao:Option Addr}{cap:Nat}(hy:TyB B a ao cap)(hk:KeepB B a b):TyB B b ao cap:=fun h0 x hx=>by
 rcases hy h0 x hx with h1 | ⟨c,fr,h1⟩
 ·exact .inl h1
 exact .inr ⟨c,fr,hk.kr.rows _ _ _ _ (.inl rfl) h1⟩
theorem rd_kpb {B:Nat}{a b:World}{ao:Option Addr}{n cap:Nat}{xs:List Value}(h:Rd a 1 ao n cap xs)(hy:TyB B a ao cap)(hk:KeepB B a b):Rd b 1 ao n cap xs:=by
 obtain⟨h1,h2,h3,h4,h5⟩:=h
 refine⟨h1,h2,h3,h4,fun h0 x hx=>?_⟩
 obtain⟨s1,l,c⟩:=h5 h0 x hx
 have he:b.heap[x.block]?=a.heap[x.block]?:=by
  rcases hy h0 x hx with h6 | ⟨c',fr,h6⟩
  ·exact hk.low _ h6 l
  exact (hk.kr.rows _ _ _ _ (.inl rfl) h6).trans h6.symm
 exact⟨s1,Nat.lt_of_lt_of_le l hk.kr.size,fun j u hu=>(World.cell?_of_block (a:=⟨x.block,x.off+j,none⟩) he).trans (c j u hu)⟩
structure OpTyB (B:Nat)(W:World)(v:OV):Prop where
 a:TyX 53 W v.ao v.ac
 b:TyX 9 W v.bo v.bc
 c:TyB B W v.co v.cc
theorem OpTyB.kpb {B:Nat}{a b:World}{v:OV}(h:OpTyB B a v)(hk:KeepB B a b):OpTyB B b v:=⟨h.a.kpr (.inr (.inr rfl)) hk.kr,h.b.kpr (.inr (.inl rfl)) hk.kr,TyB.kpb h.c hk⟩
theorem OpAt.kpb {B:Nat}{a b:World}{v:OV}{c:OC}(h:OpAt a v c)(hy:OpTyB B a v)(hk:KeepB B a b):OpAt b v c:=
 ⟨rd_kpr (.inr (.inr rfl)) h.a hy.a hk.kr,rd_kpr (.inr (.inl rfl)) h.b hy.b hk.kr,rd_kpb h.c hy.c hk,h.la,h.lb,h.lc⟩
structure OfGo (B g ob:Nat)(w:World)(b:List UInt8)(v:OV)(c:OC)(ls:List UInt8)(s:RS)(wr:World):Prop where
 bel:Below w.heap.size w wr
 box:InO ob v wr
 rd:RfS B g s wr
 at_:OpAt wr v c
 ty:OpTyB B wr v
 part:Part b v c ls s
theorem kpb_f {B g:Nat}{s:RS}{wr w1:World}(hr:RfS B g s wr)(hg:wr.grownBy w1 (some g)):KeepB B wr w1:=by
 have hle:=hr.le
 refine⟨KeepR.of_belX (BelX.of_grown hg) (fun k hk=>?_),fun k h1 h2=>hg.block k h2 (fun e=>by have:=Option.some.inj e;omega)⟩
 rw[List.mem_singleton.1 hk]
 obtain⟨_,_,h⟩:=hr
 refine⟨_,h.at_,fun c t fr ht e=>?_⟩
 cases e
 rcases ht with h | h | h<;>exact absurd h (by decide)
theorem kpb_box {B ob i:Nat}{v:OV}{w1:World}{x:Value}(hb:InO ob v w1)(hB:B≤ob):KeepB B w1 (w1.setCell ⟨ob,i,none⟩ x):=⟨kpr_box hb,fun k h1 _=>Below.heap_setCell _ _ _ _ (by show k≠ob;omega)⟩
theorem OfGo.next {B g ob:Nat}{w:World}{b:List UInt8}{v v':OV}{c c':OC}{ls ls':List UInt8}{s s':RS}{wr w1:World}{i:Nat}{x:Value}(h:OfGo B g ob w b v c ls s wr)(hg:wr.grownBy w1 (some g))(hr:RfS B g s' w1)(hgw:w.heap.size≤g)(how:w.heap.size≤ob)(hgo:g≠ob)(hBo:B≤ob)
  (hbox:(match v.box with | .cells cs t fr=>Obj.cells (cs.setIfInBounds i x) t fr | o=>o)=v'.box) (ha:OpAt w1 v' c') (ht:OpTyB B w1 v') (hp:Part b v' c' ls' s'):OfGo B g ob w b v' c' ls' s' (w1.setCell ⟨ob,i,none⟩ x):=by
 have hb1:InO ob v w1:=h.box.grown hg (fun e=>hgo (Option.some.inj e).symm)
 have hk:=kpb_box (i:=i) (x:=x) hb1 hBo
 refine⟨(h.bel.trans (below_of_grown hg hgw h.rd.lt)).setCell how x,?_,hr.grown (grown_set _ _ _ _) hb1 (fun c fr h=>by cases h) hgo hBo,ha.kpb ht hk,ht.kpb hk,hp⟩
 have h2:=at_set (i:=i) (x:=x) hb1
 unfold InO
 rw[←hbox]
 exact h2
theorem OfGo.kept {B g:Nat}{w:World}{b:List UInt8}{v:OV}{c:OC}{ls:List UInt8}{s:RS}{wr w1:World}{ob:Nat}(h:OfGo B g ob w b v c ls s wr)(hg:wr.grownBy w1 (some g)):OpAt w1 v c∧OpTyB B w1 v:=⟨h.at_.kpb h.ty (kpb_f h.rd hg),h.ty.kpb (kpb_f h.rd hg)⟩
theorem OfGo.later {B g ob:Nat}{w:World}{b:List UInt8}{v:OV}{c:OC}{ls:List UInt8}{s:RS}{wr w1:World}(h:OfGo B g ob w b v c ls s wr)(hb:Below wr.heap.size wr w1):OfGo B g ob w b v c ls s w1:=
 ⟨h.bel.trans (hb.mono h.bel.size),h.box.step hb,h.rd.later hb,h.at_.later hb,h.ty.kpb (KeepB.of_below hb),h.part⟩
theorem parB_ofTag (ys:List ByteArray):parB ys=ofTag 1 (ys.map fun y=>y.data.toList):=by
 unfold parB ofTag
 rw[List.flatMap_map]
theorem took_parts {s s1:RS}{L:List (List UInt8)}{t:UInt8}(T:Took (fun L=>val t (ofTag 1 L)) (fun L=>(ofTag 1 L).length≤4194304) (fun L=>(ofTag 1 L).length≤4194304) s L s1)(ys:List ByteArray)(hy:ys.map (fun y=>y.data.toList)=L) :
  Took (fun ys=>val t (parB ys)) (fun ys=>ys.length≤8∧(parB ys).length≤4194304) (fun ys=>(parB ys).length≤4194304) s ys s1:=by
 refine⟨fun hb=>?_,fun hb=>(T.no hb).imp id (fun h zs r hz=>?_),T.le⟩
 ·rw[parB_ofTag,hy]
  exact T.yes hb
 rw[parB_ofTag]
 exact h _ r (by rw[←parB_ofTag];exact hz.2)
structure PaAt (ob:Nat)(V:OV)(b1 o1:Nat)(u:El)(W:World):Prop where
 box:InO ob V W
 cell:W.cell? ⟨b1,o1,none⟩=some (.slice u.ao u.it.2.length u.cap)
 rd:Rd W 1 u.ao u.it.2.length u.cap (byV u.it.2)
theorem PaAt.step {ob:Nat}{V:OV}{b1 o1:Nat}{u:El}{W W':World}(h:PaAt ob V b1 o1 u W)(hb:Below W.heap.size W W'):PaAt ob V b1 o1 u W':=⟨h.box.step hb,cell_after hb h.cell,h.rd.later hb⟩
theorem PaAt.low {B ob:Nat}{V:OV}{b1 o1:Nat}{u:El}{W W':World}(h:PaAt ob V b1 o1 u W)(hb:Below B W W')(h1:ob<B)(h2:b1<B)(h3:0<u.cap→∀a,u.ao=some a→a.block<B):PaAt ob V b1 o1 u W':=⟨(hb.block _ h1).trans h.box,(hb.cell (p:=⟨b1,o1,none⟩) h2).trans h.cell,h.rd.below hb h3⟩
set_option maxRecDepth 100000 in
theorem rOpOf_any (B:Nat)(b:List UInt8)(ao:Option Addr)(n cap:Nat)(w:World)(hr:Rd w 1 ao n cap (byV b))(hB:B≤w.heap.size)(hty:TyB B w ao cap)(hn:n≤100000000) :
  Calls Tryz.prog 11 #[.slice ao n cap] w (GivesOp (OpTyB B) (.bool true) (.bool false) b w):=by
 have hmo:Tryz.prog.follows .mixedOrders=true:=by kernel_rfl
 have hbn:b.length=n:=by have:=hr.1;rw[byV_len] at this;omega
 have hb0:Below w.heap.size w (w.alloc zeroV.box):=(Below.refl _ _).alloc (Nat.le_refl _) _
 have k0:(w.alloc zeroV.box).heap[w.heap.size]?=some zeroV.box:=by show (w.heap.push _)[w.heap.size]?=some _;exact Array.getElem?_push_size
 have hz0:(w.alloc zeroV.box).heap.size=w.heap.size+1:=by simp
 have hr0:=hr.later hb0
 have ht0:=hty.later hb0
 unfold zeroV OV.box at hb0 k0 hz0 hr0 ht0
 dsimp only at hb0 k0 hz0 hr0 ht0
 clear hr hty
 go_enter Tryz.func11,Tryz.ntmps11
 go_upto_region 1 with fail
 generalize hg:w.alloc _=W0 at *
 have k0f:W0.heap[w.heap.size]?=some zeroV.box:=k0
 clear hg k0
 subst hbn
 have hBW0:B≤W0.heap.size:=Nat.le_trans hB hb0.size
 have hR:=rf_new hr0 hBW0 ht0
 have hbR:Below W0.heap.size W0 (W0.alloc (.cells #[.slice ao b.length cap,.bool false] 94)):=(Below.refl _ _).alloc (Nat.le_refl _) _
 go_upto_region 2 with fail
 generalize hg:W0.alloc _=W1 at *
 have hz1:W1.heap.size=W0.heap.size+1:=by rw[←hg];simp
 clear hg
 go_upto_region 3 with (refine wpList_store_new rfl rfl rfl rfl (by kernel_rfl) rfl (by kernel_rfl) ?_;go_simp)
 generalize hg:W1.alloc _=W2
 have e2:W1.alloc zeroV.box=W2:=hg
 have hb2:Below W1.heap.size W1 W2:=by rw[←e2];exact (Below.refl _ _).alloc (Nat.le_refl _) _
 have kb:InO W1.heap.size zeroV W2:=by rw[←e2];show (W1.heap.push _)[W1.heap.size]?=some _;exact Array.getElem?_push_size
 have hR2:=hR.later hb2
 have hbel2:Below W0.heap.size W0 W2:=hbR.trans (hb2.mono (by omega))
 clear hg e2 hb2 hR hbR hr0 ht0
 rw[hz0] at hR2
 rw[hz1,hz0] at kb
 clear hz1
 have T:=took_num ⟨b,false⟩ 1 (by decide)
 go_wp2_with fail
 generalize hgq:w.heap.size+1=g at *
 generalize hobq:g+1=ob at *
 have hg0:W0.heap.size≤g:=by omega
 have hob:W0.heap.size≤ob:=by omega
 have hgo:g≠ob:=by omega
 have hrbg:w.heap.size<g:=by omega
 have hrw:w.heap.size<W0.heap.size:=by omega
 clear hgq hobq
 have hBo:B≤ob:=Nat.le_trans hBW0 hob
 have hnum:=rfnum_any B g ⟨b,false⟩ 1 W2 hR2 (by dsimp only;omega)
 generalize RS.num ⟨b,false⟩ 1=nm at *
 obtain⟨kn,s0⟩:=nm
 dsimp only at T hnum
 refine hnum.mono ?_
 rintro e W3 ⟨rfl,hR3,hg3⟩
 have hbel3:Below W0.heap.size W0 W3:=hbel2.trans (below_of_grown hg3 hg0 hR2.lt)
 have kb3:InO ob zeroV W3:=kb.grown hg3 (fun e=>hgo (Option.some.inj e).symm)
 have hfin:∀(W:World),Below W0.heap.size W0 W→∀cs:Array Value,(W.heap[w.heap.size]?=some (.cells zeroV.cells 27 (0,0)))∧(W.setRow w.heap.size cs).heap[w.heap.size]?=some (.cells cs 27)∧Below w.heap.size w (W.setRow w.heap.size cs):=fun W hb cs=>by
  have h1:W.heap[w.heap.size]?=some (.cells zeroV.cells 27 (0,0)):=(hb.block _ hrw).trans k0f
  exact⟨h1,setRow_at' h1,below_setRow (hb0.trans (hb.mono (Nat.le_of_lt hrw))) (Nat.le_refl _) cs⟩
 clear hnum hbel2 kb hR2 hg3
 by_cases hkn:kn<1∨8<kn
 ·have hno:=Part.noKind T (hkn.symm)
  obtain⟨h1,f1,f2⟩:=hfin W3 hbel3 zeroV.cells
  have Hno:=hid hno
  clear T hno
  by_cases hk1:kn<1
  ·have g0:decide ((kn:Int)<1)=true:=decide_eq_true (by omega)
   clear hkn hk1
   go_wp2_with (first | (refine wpList_load_row kb3 rfl rfl rfl (by kernel_rfl) (by kernel_rfl) ?_;go_simp) | (refine wpList_store_row h1 rfl rfl rfl rfl (by kernel_rfl) rfl (by kernel_rfl) ?_;go_simp))
   exact bodyPost_ret (w:=W3.setRow w.heap.size zeroV.cells) (results_row2 (i:=2) (j:=3) (t:=27) rfl rfl rfl (by kernel_rfl) (by kernel_rfl) f1) rfl ⟨f2,.inr ⟨rfl,Hno.out⟩⟩
  have g0:decide ((kn:Int)<1)=false:=decide_eq_false (by omega)
  have g1:decide ((8:Int)<(kn:Int))=true:=decide_eq_true (by omega)
  clear hkn hk1
  go_wp2_with (first | (refine wpList_load_row kb3 rfl rfl rfl (by kernel_rfl) (by kernel_rfl) ?_;go_simp) | (refine wpList_store_row h1 rfl rfl rfl rfl (by kernel_rfl) rfl (by kernel_rfl) ?_;go_simp))
  exact bodyPost_ret (w:=W3.setRow w.heap.size zeroV.cells) (results_row2 (i:=2) (j:=3) (t:=27) rfl rfl rfl (by kernel_rfl) (by kernel_rfl) f1) rfl ⟨f2,.inr ⟨rfl,Hno.out⟩⟩
 have hP:=Part.start T (by omega)
 have ho4:OfGo B g ob W0 b ⟨(kn:Int),⟨#[]⟩,⟨#[]⟩,none,0,0,none,0,0,none,0,0,0⟩ ⟨[],[],[]⟩ [] s0 (W3.setCell ⟨ob,0,none⟩ (.int .i64 (kn:Int))):=by
  refine⟨hbel3.setCell hob _,at_set kb3,hR3.grown (grown_set _ _ _ _) kb3 (fun c fr h=>by cases h) hgo hBo,?_,?_,hP⟩
  ·exact⟨Rd.nil _ _,Rd.nil _ _,Rd.nil _ _,Nat.zero_le _,Nat.zero_le _,Nat.zero_le _⟩
  exact⟨fun h=>absurd h (Nat.lt_irrefl 0),fun h=>absurd h (Nat.lt_irrefl 0),fun h=>absurd h (Nat.lt_irrefl 0)⟩
 have Ho4:=hid ho4
 obtain⟨b0,b1,b2,b3,b4,b5,b6,b7⟩:=box_all kb3
 have hs0:s0.l.length≤100000000:=by have:=T.le;dsimp only at this;omega
 clear T hP ho4 hbel3
 rcases (by omega:kn=1∨kn=2∨kn=3∨kn=4∨kn=5∨kn=6∨kn=7∨kn=8) with rfl|rfl|rfl|rfl|rfl|rfl|rfl|rfl
 ·go_upto_region 7 with fail
  have ho:=Ho4.out
  clear Ho4
  generalize W3.setCell _ _=W4 at *
  clear b0 b1 b2 b3 b4 b5 b6 b7 kb3
  obtain⟨v,hv⟩:∃v:OV,(⟨((1:Nat):Int),⟨#[]⟩,⟨#[]⟩,none,0,0,none,0,0,none,0,0,0⟩:OV)=v:=⟨_,rfl⟩
  have hk:v.k=1:=by rw[←hv];rfl
  rw[hv] at ho
  clear hv
  obtain⟨s,hs⟩:∃s',s0=s':=⟨_,rfl⟩
  rw[hs] at ho
  clear hs
  obtain⟨c,ho⟩:∃c,OfGo B g ob W0 b v c [] s W4:=⟨_,ho⟩
  obtain⟨b0,b1,b2,b3,b4,b5,b6,b7⟩:=box_all ho.box
  go_wp2_with fail
  have T:=took_bytes s 2 (by decide)
  have hsl:s.l.length≤100000000:=by have:=ho.part.le;omega
  clear b0 b1 b2 b3 b4 b5 b6 b7
  refine (rftext_any B g s 2 _ ho.rd hsl).mono ?_
  generalize s.bytes 2=y at *
  rintro e W5 ⟨rfl,hr5,hg5⟩
  obtain⟨a5,t5⟩:=ho.kept hg5
  obtain⟨y,s⟩:=y
  dsimp only at T hr5
  have hN:=ho.next (v':=v.setName ⟨y.toArray⟩) (c':=c) (i:=1) (x:=.string ⟨y.toArray⟩) hg5 hr5 hg0 hob hgo hBo rfl ⟨a5.a,a5.b,a5.c,a5.la,a5.lb,a5.lc⟩ ⟨t5.a,t5.b,t5.c⟩ (ho.part.name (more:=[97]) T (by rw[hk];rfl) (by simp))
  have hk5:(v.setName ⟨y.toArray⟩).k=1:=hk
  have hb5:=ho.box.grown hg5 (fun e=>hgo (Option.some.inj e).symm)
  obtain⟨b0,b1,b2,b3,b4,b5,b6,b7⟩:=box_all hb5
  clear ho T hr5 hg5 a5 t5 hk
  go_upto_region 9 with fail
  generalize W5.setCell _ _=W6 at *
  clear b0 b1 b2 b3 b4 b5 b6 b7 hb5
  obtain⟨v,hv⟩:∃v':OV,v.setName ⟨y.toArray⟩=v':=⟨_,rfl⟩
  obtain⟨c,hc⟩:∃c':OC,c=c':=⟨_,rfl⟩
  rw[hv,hc] at hN
  rw[hv] at hk5
  clear hv hc
  have ho:OfGo B g ob W0 b v c [110] s W6:=hN
  have hk:=hk5
  clear hN hk5
  obtain⟨b0,b1,b2,b3,b4,b5,b6,b7⟩:=box_all ho.box
  go_wp2_with fail
  have hsl:s.l.length≤100000000:=by have:=ho.part.le;omega
  clear b0 b1 b2 b3 b4 b5 b6 b7
  refine (rTakeAttrs_any B g s 4 _ (by decide) ho.rd hsl).mono ?_
  rintro e W5 ⟨ao5,n5,cap5,xs5,s5,rfl,hrd5,hn5,hty5,hr5,hg5,T⟩
  obtain⟨a5,t5⟩:=ho.kept hg5
  have hN:=ho.next (v':=v.setAttrs ao5 n5 cap5) (c':=⟨xs5,c.parts,c.cursor⟩) (i:=3) (x:=.slice ao5 n5 cap5) hg5 hr5 hg0 hob hgo hBo rfl ⟨hrd5,a5.b,a5.c,(by show n5≤_;omega),a5.lb,a5.lc⟩ ⟨hty5,t5.b,t5.c⟩ (ho.part.attrs (more:=[]) T (by rw[hk];rfl) (by simp))
  have hk5:(v.setAttrs ao5 n5 cap5).k=1:=hk
  have hb5:=ho.box.grown hg5 (fun e=>hgo (Option.some.inj e).symm)
  obtain⟨b0,b1,b2,b3,b4,b5,b6,b7⟩:=box_all hb5
  clear ho T hr5 hg5 a5 t5 hk
  go_upto_region 13 with fail
  generalize W5.setCell _ _=W6 at *
  clear b0 b1 b2 b3 b4 b5 b6 b7 hb5
  obtain⟨v,hv⟩:∃v':OV,v.setAttrs ao5 n5 cap5=v':=⟨_,rfl⟩
  obtain⟨c,hc⟩:∃c':OC,⟨xs5,c.parts,c.cursor⟩=c':=⟨_,rfl⟩
  rw[hv,hc] at hN
  rw[hv] at hk5
  clear hv hc
  have ho:OfGo B g ob W0 b v c [110,97] s5 W6:=hN
  have hk:=hk5
  clear hN hk5
  obtain⟨b0,b1,b2,b3,b4,b5,b6,b7⟩:=box_all ho.box
  go_wp2_with fail
  obtain⟨s,hs⟩:∃s',s5=s':=⟨_,rfl⟩
  rw[hs] at ho
  clear hs
  obtain⟨c,ho⟩:∃c,OfGo B g ob W0 b v c (fieldsOf v.k) s W6:=⟨_,by rw[hk];exact ho⟩
  have hP:=ho.part
  have hbox:=ho.box
  refine (rfdone_any B g s W6 ho.rd).mono ?_
  rintro e w5 ⟨rfl,rfl⟩
  clear b0 b1 b2 b3 b4 b5 b6 b7 hk
  by_cases he:s.bad=false∧s.l=[]
  ·have f0:decide (s.bad=false∧s.l=[])=true:=decide_eq_true he
   have hmay:=rMayOp_any v c W6 ho.at_
   have HE:=hid he
   clear he
   unfold OV.val at hmay
   go_wp2_with (refine wpList_load_row hbox rfl rfl rfl (by kernel_rfl) (by kernel_rfl) ?_;go_simp)
   refine hmay.mono ?_
   rintro e w6 ⟨rfl,hb6⟩
   have ho6:=ho.later hb6
   have hbox6:=ho6.box
   obtain⟨h1,fz1,fz2⟩:=hfin w6 ho6.bel zeroV.cells
   obtain⟨_,fv1,fv2⟩:=hfin w6 ho6.bel v.cells
   have hkr:KeepB B w6 (w6.setRow w.heap.size v.cells):=by
    refine⟨⟨(below_setRow (Below.refl w.heap.size w6) (Nat.le_refl _) v.cells).size,fun k c t fr ht hk=>?_⟩,fun k h2 _=>setRow_other w6 w.heap.size k v.cells (by omega)⟩
    have hne:k≠w.heap.size:=fun e=>by
     subst e
     rw[h1] at hk
     cases hk
     rcases ht with h | h | h<;>exact absurd h (by decide)
    exact (setRow_other w6 w.heap.size k v.cells hne).trans hk
   have ha6:=ho6.at_.kpb ho6.ty hkr
   have ht6:=ho6.ty.kpb hkr
   cases hm:mayOp v c with
   | false=>
    have Hno:=hid (hP.notMay HE.out.1 HE.out.2 ho.at_ hm)
    clear hkr ha6 ht6 hP
    go_wp2_with (refine wpList_store_row h1 rfl rfl rfl rfl (by kernel_rfl) rfl (by kernel_rfl) ?_;go_simp)
    exact bodyPost_ret (w:=w6.setRow w.heap.size zeroV.cells) (results_row2 (i:=2) (j:=3) (t:=27) rfl rfl rfl (by kernel_rfl) (by kernel_rfl) fz1) rfl ⟨fz2,.inr ⟨rfl,Hno.out⟩⟩
   | true=>
    have Hyes:=hid (hP.done HE.out.1 HE.out.2)
    clear hkr hP
    go_wp2_with (first | (refine wpList_load_row hbox6 rfl rfl rfl (by kernel_rfl) (by kernel_rfl) ?_;go_simp) | (refine wpList_store_row h1 rfl rfl rfl rfl (by kernel_rfl) rfl (by kernel_rfl) ?_;go_simp))
    exact bodyPost_ret (w:=w6.setRow w.heap.size v.cells) (results_row2 (i:=2) (j:=3) (t:=27) rfl rfl rfl (by kernel_rfl) (by kernel_rfl) fv1) rfl ⟨fv2,.inl ⟨v,c,rfl,ha6,ht6,hm,Hyes.out⟩⟩
  have f0:decide (s.bad=false∧s.l=[])=false:=decide_eq_false he
  have Hno:=hid (hP.left (by
   cases hb:s.bad with
   | true=>exact .inl rfl
   | false=>exact .inr (List.length_pos_iff.2 (fun h=>he ⟨hb,h⟩))))
  obtain⟨h1,fz1,fz2⟩:=hfin W6 ho.bel zeroV.cells
  clear he hP
  go_wp2_with (refine wpList_store_row h1 rfl rfl rfl rfl (by kernel_rfl) rfl (by kernel_rfl) ?_;go_simp)
  exact bodyPost_ret (w:=W6.setRow w.heap.size zeroV.cells) (results_row2 (i:=2) (j:=3) (t:=27) rfl rfl rfl (by kernel_rfl) (by kernel_rfl) fz1) rfl ⟨fz2,.inr ⟨rfl,Hno.out⟩⟩
 ·go_upto_region 7 with fail
  have ho:=Ho4.out
  clear Ho4
  generalize W3.setCell _ _=W4 at *
  clear b0 b1 b2 b3 b4 b5 b6 b7 kb3
  obtain⟨v,hv⟩:∃v:OV,(⟨((2:Nat):Int),⟨#[]⟩,⟨#[]⟩,none,0,0,none,0,0,none,0,0,0⟩:OV)=v:=⟨_,rfl⟩
  have hk:v.k=2:=by rw[←hv];rfl
  rw[hv] at ho
  clear hv
  obtain⟨s,hs⟩:∃s',s0=s':=⟨_,rfl⟩
  rw[hs] at ho
  clear hs
  obtain⟨c,ho⟩:∃c,OfGo B g ob W0 b v c [] s W4:=⟨_,ho⟩
  obtain⟨b0,b1,b2,b3,b4,b5,b6,b7⟩:=box_all ho.box
  go_wp2_with fail
  have T:=took_bytes s 2 (by decide)
  have hsl:s.l.length≤100000000:=by have:=ho.part.le;omega
  clear b0 b1 b2 b3 b4 b5 b6 b7
  refine (rftext_any B g s 2 _ ho.rd hsl).mono ?_
  generalize s.bytes 2=y at *
  rintro e W5 ⟨rfl,hr5,hg5⟩
  obtain⟨a5,t5⟩:=ho.kept hg5
  obtain⟨y,s⟩:=y
  dsimp only at T hr5
  have hN:=ho.next (v':=v.setName ⟨y.toArray⟩) (c':=c) (i:=1) (x:=.string ⟨y.toArray⟩) hg5 hr5 hg0 hob hgo hBo rfl ⟨a5.a,a5.b,a5.c,a5.la,a5.lb,a5.lc⟩ ⟨t5.a,t5.b,t5.c⟩ (ho.part.name (more:=[]) T (by rw[hk];rfl) (by simp))
  have hk5:(v.setName ⟨y.toArray⟩).k=2:=hk
  have hb5:=ho.box.grown hg5 (fun e=>hgo (Option.some.inj e).symm)
  obtain⟨b0,b1,b2,b3,b4,b5,b6,b7⟩:=box_all hb5
  clear ho T hr5 hg5 a5 t5 hk
  go_upto_region 25 with fail
  generalize W5.setCell _ _=W6 at *
  clear b0 b1 b2 b3 b4 b5 b6 b7 hb5
  obtain⟨v,hv⟩:∃v':OV,v.setName ⟨y.toArray⟩=v':=⟨_,rfl⟩
  obtain⟨c,hc⟩:∃c':OC,c=c':=⟨_,rfl⟩
  rw[hv,hc] at hN
  rw[hv] at hk5
  clear hv hc
  have ho:OfGo B g ob W0 b v c [110] s W6:=hN
  have hk:=hk5
  clear hN hk5
  obtain⟨b0,b1,b2,b3,b4,b5,b6,b7⟩:=box_all ho.box
  go_wp2_with fail
  obtain⟨c,ho⟩:∃c,OfGo B g ob W0 b v c (fieldsOf v.k) s W6:=⟨_,by rw[hk];exact ho⟩
  have hP:=ho.part
  have hbox:=ho.box
  refine (rfdone_any B g s W6 ho.rd).mono ?_
  rintro e w5 ⟨rfl,rfl⟩
  clear b0 b1 b2 b3 b4 b5 b6 b7 hk
  by_cases he:s.bad=false∧s.l=[]
  ·have f0:decide (s.bad=false∧s.l=[])=true:=decide_eq_true he
   have hmay:=rMayOp_any v c W6 ho.at_
   have HE:=hid he
   clear he
   unfold OV.val at hmay
   go_wp2_with (refine wpList_load_row hbox rfl rfl rfl (by kernel_rfl) (by kernel_rfl) ?_;go_simp)
   refine hmay.mono ?_
   rintro e w6 ⟨rfl,hb6⟩
   have ho6:=ho.later hb6
   have hbox6:=ho6.box
   obtain⟨h1,fz1,fz2⟩:=hfin w6 ho6.bel zeroV.cells
   obtain⟨_,fv1,fv2⟩:=hfin w6 ho6.bel v.cells
   have hkr:KeepB B w6 (w6.setRow w.heap.size v.cells):=by
    refine⟨⟨(below_setRow (Below.refl w.heap.size w6) (Nat.le_refl _) v.cells).size,fun k c t fr ht hk=>?_⟩,fun k h2 _=>setRow_other w6 w.heap.size k v.cells (by omega)⟩
    have hne:k≠w.heap.size:=fun e=>by
     subst e
     rw[h1] at hk
     cases hk
     rcases ht with h | h | h<;>exact absurd h (by decide)
    exact (setRow_other w6 w.heap.size k v.cells hne).trans hk
   have ha6:=ho6.at_.kpb ho6.ty hkr
   have ht6:=ho6.ty.kpb hkr
   cases hm:mayOp v c with
   | false=>
    have Hno:=hid (hP.notMay HE.out.1 HE.out.2 ho.at_ hm)
    clear hkr ha6 ht6 hP
    go_wp2_with (refine wpList_store_row h1 rfl rfl rfl rfl (by kernel_rfl) rfl (by kernel_rfl) ?_;go_simp)
    exact bodyPost_ret (w:=w6.setRow w.heap.size zeroV.cells) (results_row2 (i:=2) (j:=3) (t:=27) rfl rfl rfl (by kernel_rfl) (by kernel_rfl) fz1) rfl ⟨fz2,.inr ⟨rfl,Hno.out⟩⟩
   | true=>
    have Hyes:=hid (hP.done HE.out.1 HE.out.2)
    clear hkr hP
    go_wp2_with (first | (refine wpList_load_row hbox6 rfl rfl rfl (by kernel_rfl) (by kernel_rfl) ?_;go_simp) | (refine wpList_store_row h1 rfl rfl rfl rfl (by kernel_rfl) rfl (by kernel_rfl) ?_;go_simp))
    exact bodyPost_ret (w:=w6.setRow w.heap.size v.cells) (results_row2 (i:=2) (j:=3) (t:=27) rfl rfl rfl (by kernel_rfl) (by kernel_rfl) fv1) rfl ⟨fv2,.inl ⟨v,c,rfl,ha6,ht6,hm,Hyes.out⟩⟩
  have f0:decide (s.bad=false∧s.l=[])=false:=decide_eq_false he
  have Hno:=hid (hP.left (by
   cases hb:s.bad with
   | true=>exact .inl rfl
   | false=>exact .inr (List.length_pos_iff.2 (fun h=>he ⟨hb,h⟩))))
  obtain⟨h1,fz1,fz2⟩:=hfin W6 ho.bel zeroV.cells
  clear he hP
  go_wp2_with (refine wpList_store_row h1 rfl rfl rfl rfl (by kernel_rfl) rfl (by kernel_rfl) ?_;go_simp)
  exact bodyPost_ret (w:=W6.setRow w.heap.size zeroV.cells) (results_row2 (i:=2) (j:=3) (t:=27) rfl rfl rfl (by kernel_rfl) (by kernel_rfl) fz1) rfl ⟨fz2,.inr ⟨rfl,Hno.out⟩⟩
 ·go_upto_region 7 with fail
  have ho:=Ho4.out
  clear Ho4
  generalize W3.setCell _ _=W4 at *
  clear b0 b1 b2 b3 b4 b5 b6 b7 kb3
  obtain⟨v,hv⟩:∃v:OV,(⟨((3:Nat):Int),⟨#[]⟩,⟨#[]⟩,none,0,0,none,0,0,none,0,0,0⟩:OV)=v:=⟨_,rfl⟩
  have hk:v.k=3:=by rw[←hv];rfl
  rw[hv] at ho
  clear hv
  obtain⟨s,hs⟩:∃s',s0=s':=⟨_,rfl⟩
  rw[hs] at ho
  clear hs
  obtain⟨c,ho⟩:∃c,OfGo B g ob W0 b v c [] s W4:=⟨_,ho⟩
  obtain⟨b0,b1,b2,b3,b4,b5,b6,b7⟩:=box_all ho.box
  go_wp2_with fail
  have T:=took_bytes s 2 (by decide)
  have hsl:s.l.length≤100000000:=by have:=ho.part.le;omega
  clear b0 b1 b2 b3 b4 b5 b6 b7
  refine (rftext_any B g s 2 _ ho.rd hsl).mono ?_
  generalize s.bytes 2=y at *
  rintro e W5 ⟨rfl,hr5,hg5⟩
  obtain⟨a5,t5⟩:=ho.kept hg5
  obtain⟨y,s⟩:=y
  dsimp only at T hr5
  have hN:=ho.next (v':=v.setName ⟨y.toArray⟩) (c':=c) (i:=1) (x:=.string ⟨y.toArray⟩) hg5 hr5 hg0 hob hgo hBo rfl ⟨a5.a,a5.b,a5.c,a5.la,a5.lb,a5.lc⟩ ⟨t5.a,t5.b,t5.c⟩ (ho.part.name (more:=[97]) T (by rw[hk];rfl) (by simp))
  have hk5:(v.setName ⟨y.toArray⟩).k=3:=hk
  have hb5:=ho.box.grown hg5 (fun e=>hgo (Option.some.inj e).symm)
  obtain⟨b0,b1,b2,b3,b4,b5,b6,b7⟩:=box_all hb5
  clear ho T hr5 hg5 a5 t5 hk
  go_upto_region 9 with fail
  generalize W5.setCell _ _=W6 at *
  clear b0 b1 b2 b3 b4 b5 b6 b7 hb5
  obtain⟨v,hv⟩:∃v':OV,v.setName ⟨y.toArray⟩=v':=⟨_,rfl⟩
  obtain⟨c,hc⟩:∃c':OC,c=c':=⟨_,rfl⟩
  rw[hv,hc] at hN
  rw[hv] at hk5
  clear hv hc
  have ho:OfGo B g ob W0 b v c [110] s W6:=hN
  have hk:=hk5
  clear hN hk5
  obtain⟨b0,b1,b2,b3,b4,b5,b6,b7⟩:=box_all ho.box
  go_wp2_with fail
  have hsl:s.l.length≤100000000:=by have:=ho.part.le;omega
  clear b0 b1 b2 b3 b4 b5 b6 b7
  refine (rTakeAttrs_any B g s 4 _ (by decide) ho.rd hsl).mono ?_
  rintro e W5 ⟨ao5,n5,cap5,xs5,s5,rfl,hrd5,hn5,hty5,hr5,hg5,T⟩
  obtain⟨a5,t5⟩:=ho.kept hg5
  have hN:=ho.next (v':=v.setAttrs ao5 n5 cap5) (c':=⟨xs5,c.parts,c.cursor⟩) (i:=3) (x:=.slice ao5 n5 cap5) hg5 hr5 hg0 hob hgo hBo rfl ⟨hrd5,a5.b,a5.c,(by show n5≤_;omega),a5.lb,a5.lc⟩ ⟨hty5,t5.b,t5.c⟩ (ho.part.attrs (more:=[]) T (by rw[hk];rfl) (by simp))
  have hk5:(v.setAttrs ao5 n5 cap5).k=3:=hk
  have hb5:=ho.box.grown hg5 (fun e=>hgo (Option.some.inj e).symm)
  obtain⟨b0,b1,b2,b3,b4,b5,b6,b7⟩:=box_all hb5
  clear ho T hr5 hg5 a5 t5 hk
  go_upto_region 13 with fail
  generalize W5.setCell _ _=W6 at *
  clear b0 b1 b2 b3 b4 b5 b6 b7 hb5
  obtain⟨v,hv⟩:∃v':OV,v.setAttrs ao5 n5 cap5=v':=⟨_,rfl⟩
  obtain⟨c,hc⟩:∃c':OC,⟨xs5,c.parts,c.cursor⟩=c':=⟨_,rfl⟩
  rw[hv,hc] at hN
  rw[hv] at hk5
  clear hv hc
  have ho:OfGo B g ob W0 b v c [110,97] s5 W6:=hN
  have hk:=hk5
  clear hN hk5
  obtain⟨b0,b1,b2,b3,b4,b5,b6,b7⟩:=box_all ho.box
  go_wp2_with fail
  obtain⟨s,hs⟩:∃s',s5=s':=⟨_,rfl⟩
  rw[hs] at ho
  clear hs
  obtain⟨c,ho⟩:∃c,OfGo B g ob W0 b v c (fieldsOf v.k) s W6:=⟨_,by rw[hk];exact ho⟩
  have hP:=ho.part
  have hbox:=ho.box
  refine (rfdone_any B g s W6 ho.rd).mono ?_
  rintro e w5 ⟨rfl,rfl⟩
  clear b0 b1 b2 b3 b4 b5 b6 b7 hk
  by_cases he:s.bad=false∧s.l=[]
  ·have f0:decide (s.bad=false∧s.l=[])=true:=decide_eq_true he
   have hmay:=rMayOp_any v c W6 ho.at_
   have HE:=hid he
   clear he
   unfold OV.val at hmay
   go_wp2_with (refine wpList_load_row hbox rfl rfl rfl (by kernel_rfl) (by kernel_rfl) ?_;go_simp)
   refine hmay.mono ?_
   rintro e w6 ⟨rfl,hb6⟩
   have ho6:=ho.later hb6
   have hbox6:=ho6.box
   obtain⟨h1,fz1,fz2⟩:=hfin w6 ho6.bel zeroV.cells
   obtain⟨_,fv1,fv2⟩:=hfin w6 ho6.bel v.cells
   have hkr:KeepB B w6 (w6.setRow w.heap.size v.cells):=by
    refine⟨⟨(below_setRow (Below.refl w.heap.size w6) (Nat.le_refl _) v.cells).size,fun k c t fr ht hk=>?_⟩,fun k h2 _=>setRow_other w6 w.heap.size k v.cells (by omega)⟩
    have hne:k≠w.heap.size:=fun e=>by
     subst e
     rw[h1] at hk
     cases hk
     rcases ht with h | h | h<;>exact absurd h (by decide)
    exact (setRow_other w6 w.heap.size k v.cells hne).trans hk
   have ha6:=ho6.at_.kpb ho6.ty hkr
   have ht6:=ho6.ty.kpb hkr
   cases hm:mayOp v c with
   | false=>
    have Hno:=hid (hP.notMay HE.out.1 HE.out.2 ho.at_ hm)
    clear hkr ha6 ht6 hP
    go_wp2_with (refine wpList_store_row h1 rfl rfl rfl rfl (by kernel_rfl) rfl (by kernel_rfl) ?_;go_simp)
    exact bodyPost_ret (w:=w6.setRow w.heap.size zeroV.cells) (results_row2 (i:=2) (j:=3) (t:=27) rfl rfl rfl (by kernel_rfl) (by kernel_rfl) fz1) rfl ⟨fz2,.inr ⟨rfl,Hno.out⟩⟩
   | true=>
    have Hyes:=hid (hP.done HE.out.1 HE.out.2)
    clear hkr hP
    go_wp2_with (first | (refine wpList_load_row hbox6 rfl rfl rfl (by kernel_rfl) (by kernel_rfl) ?_;go_simp) | (refine wpList_store_row h1 rfl rfl rfl rfl (by kernel_rfl) rfl (by kernel_rfl) ?_;go_simp))
    exact bodyPost_ret (w:=w6.setRow w.heap.size v.cells) (results_row2 (i:=2) (j:=3) (t:=27) rfl rfl rfl (by kernel_rfl) (by kernel_rfl) fv1) rfl ⟨fv2,.inl ⟨v,c,rfl,ha6,ht6,hm,Hyes.out⟩⟩
  have f0:decide (s.bad=false∧s.l=[])=false:=decide_eq_false he
  have Hno:=hid (hP.left (by
   cases hb:s.bad with
   | true=>exact .inl rfl
   | false=>exact .inr (List.length_pos_iff.2 (fun h=>he ⟨hb,h⟩))))
  obtain⟨h1,fz1,fz2⟩:=hfin W6 ho.bel zeroV.cells
  clear he hP
  go_wp2_with (refine wpList_store_row h1 rfl rfl rfl rfl (by kernel_rfl) rfl (by kernel_rfl) ?_;go_simp)
  exact bodyPost_ret (w:=W6.setRow w.heap.size zeroV.cells) (results_row2 (i:=2) (j:=3) (t:=27) rfl rfl rfl (by kernel_rfl) (by kernel_rfl) fz1) rfl ⟨fz2,.inr ⟨rfl,Hno.out⟩⟩
 ·go_upto_region 7 with fail
  have ho:=Ho4.out
  clear Ho4
  generalize W3.setCell _ _=W4 at *
  clear b0 b1 b2 b3 b4 b5 b6 b7 kb3
  obtain⟨v,hv⟩:∃v:OV,(⟨((4:Nat):Int),⟨#[]⟩,⟨#[]⟩,none,0,0,none,0,0,none,0,0,0⟩:OV)=v:=⟨_,rfl⟩
  have hk:v.k=4:=by rw[←hv];rfl
  rw[hv] at ho
  clear hv
  obtain⟨s,hs⟩:∃s',s0=s':=⟨_,rfl⟩
  rw[hs] at ho
  clear hs
  obtain⟨c,ho⟩:∃c,OfGo B g ob W0 b v c [] s W4:=⟨_,ho⟩
  obtain⟨b0,b1,b2,b3,b4,b5,b6,b7⟩:=box_all ho.box
  go_wp2_with fail
  have T:=took_bytes s 2 (by decide)
  have hsl:s.l.length≤100000000:=by have:=ho.part.le;omega
  clear b0 b1 b2 b3 b4 b5 b6 b7
  refine (rftext_any B g s 2 _ ho.rd hsl).mono ?_
  generalize s.bytes 2=y at *
  rintro e W5 ⟨rfl,hr5,hg5⟩
  obtain⟨a5,t5⟩:=ho.kept hg5
  obtain⟨y,s⟩:=y
  dsimp only at T hr5
  have hN:=ho.next (v':=v.setName ⟨y.toArray⟩) (c':=c) (i:=1) (x:=.string ⟨y.toArray⟩) hg5 hr5 hg0 hob hgo hBo rfl ⟨a5.a,a5.b,a5.c,a5.la,a5.lb,a5.lc⟩ ⟨t5.a,t5.b,t5.c⟩ (ho.part.name (more:=[116]) T (by rw[hk];rfl) (by simp))
  have hk5:(v.setName ⟨y.toArray⟩).k=4:=hk
  have hb5:=ho.box.grown hg5 (fun e=>hgo (Option.some.inj e).symm)
  obtain⟨b0,b1,b2,b3,b4,b5,b6,b7⟩:=box_all hb5
  clear ho T hr5 hg5 a5 t5 hk
  go_upto_region 9 with fail
  generalize W5.setCell _ _=W6 at *
  clear b0 b1 b2 b3 b4 b5 b6 b7 hb5
  obtain⟨v,hv⟩:∃v':OV,v.setName ⟨y.toArray⟩=v':=⟨_,rfl⟩
  obtain⟨c,hc⟩:∃c':OC,c=c':=⟨_,rfl⟩
  rw[hv,hc] at hN
  rw[hv] at hk5
  clear hv hc
  have ho:OfGo B g ob W0 b v c [110] s W6:=hN
  have hk:=hk5
  clear hN hk5
  obtain⟨b0,b1,b2,b3,b4,b5,b6,b7⟩:=box_all ho.box
  go_wp2_with fail
  have T:=took_bytes s 3 (by decide)
  have hsl:s.l.length≤100000000:=by have:=ho.part.le;omega
  clear b0 b1 b2 b3 b4 b5 b6 b7
  refine (rftext_any B g s 3 _ ho.rd hsl).mono ?_
  generalize s.bytes 3=y at *
  rintro e W5 ⟨rfl,hr5,hg5⟩
  obtain⟨a5,t5⟩:=ho.kept hg5
  obtain⟨y,s⟩:=y
  dsimp only at T hr5
  have hN:=ho.next (v':=v.setTo ⟨y.toArray⟩) (c':=c) (i:=2) (x:=.string ⟨y.toArray⟩) hg5 hr5 hg0 hob hgo hBo rfl ⟨a5.a,a5.b,a5.c,a5.la,a5.lb,a5.lc⟩ ⟨t5.a,t5.b,t5.c⟩ (ho.part.to_ (more:=[]) T (by rw[hk];rfl) (by simp))
  have hk5:(v.setTo ⟨y.toArray⟩).k=4:=hk
  have hb5:=ho.box.grown hg5 (fun e=>hgo (Option.some.inj e).symm)
  obtain⟨b0,b1,b2,b3,b4,b5,b6,b7⟩:=box_all hb5
  clear ho T hr5 hg5 a5 t5 hk
  go_upto_region 11 with fail
  generalize W5.setCell _ _=W6 at *
  clear b0 b1 b2 b3 b4 b5 b6 b7 hb5
  obtain⟨v,hv⟩:∃v':OV,v.setTo ⟨y.toArray⟩=v':=⟨_,rfl⟩
  obtain⟨c,hc⟩:∃c':OC,c=c':=⟨_,rfl⟩
  rw[hv,hc] at hN
  rw[hv] at hk5
  clear hv hc
  have ho:OfGo B g ob W0 b v c [110,116] s W6:=hN
  have hk:=hk5
  clear hN hk5
  obtain⟨b0,b1,b2,b3,b4,b5,b6,b7⟩:=box_all ho.box
  go_wp2_with fail
  obtain⟨c,ho⟩:∃c,OfGo B g ob W0 b v c (fieldsOf v.k) s W6:=⟨_,by rw[hk];exact ho⟩
  have hP:=ho.part
  have hbox:=ho.box
  refine (rfdone_any B g s W6 ho.rd).mono ?_
  rintro e w5 ⟨rfl,rfl⟩
  clear b0 b1 b2 b3 b4 b5 b6 b7 hk
  by_cases he:s.bad=false∧s.l=[]
  ·have f0:decide (s.bad=false∧s.l=[])=true:=decide_eq_true he
   have hmay:=rMayOp_any v c W6 ho.at_
   have HE:=hid he
   clear he
   unfold OV.val at hmay
   go_wp2_with (refine wpList_load_row hbox rfl rfl rfl (by kernel_rfl) (by kernel_rfl) ?_;go_simp)
   refine hmay.mono ?_
   rintro e w6 ⟨rfl,hb6⟩
   have ho6:=ho.later hb6
   have hbox6:=ho6.box
   obtain⟨h1,fz1,fz2⟩:=hfin w6 ho6.bel zeroV.cells
   obtain⟨_,fv1,fv2⟩:=hfin w6 ho6.bel v.cells
   have hkr:KeepB B w6 (w6.setRow w.heap.size v.cells):=by
    refine⟨⟨(below_setRow (Below.refl w.heap.size w6) (Nat.le_refl _) v.cells).size,fun k c t fr ht hk=>?_⟩,fun k h2 _=>setRow_other w6 w.heap.size k v.cells (by omega)⟩
    have hne:k≠w.heap.size:=fun e=>by
     subst e
     rw[h1] at hk
     cases hk
     rcases ht with h | h | h<;>exact absurd h (by decide)
    exact (setRow_other w6 w.heap.size k v.cells hne).trans hk
   have ha6:=ho6.at_.kpb ho6.ty hkr
   have ht6:=ho6.ty.kpb hkr
   cases hm:mayOp v c with
   | false=>
    have Hno:=hid (hP.notMay HE.out.1 HE.out.2 ho.at_ hm)
    clear hkr ha6 ht6 hP
    go_wp2_with (refine wpList_store_row h1 rfl rfl rfl rfl (by kernel_rfl) rfl (by kernel_rfl) ?_;go_simp)
    exact bodyPost_ret (w:=w6.setRow w.heap.size zeroV.cells) (results_row2 (i:=2) (j:=3) (t:=27) rfl rfl rfl (by kernel_rfl) (by kernel_rfl) fz1) rfl ⟨fz2,.inr ⟨rfl,Hno.out⟩⟩
   | true=>
    have Hyes:=hid (hP.done HE.out.1 HE.out.2)
    clear hkr hP
    go_wp2_with (first | (refine wpList_load_row hbox6 rfl rfl rfl (by kernel_rfl) (by kernel_rfl) ?_;go_simp) | (refine wpList_store_row h1 rfl rfl rfl rfl (by kernel_rfl) rfl (by kernel_rfl) ?_;go_simp))
    exact bodyPost_ret (w:=w6.setRow w.heap.size v.cells) (results_row2 (i:=2) (j:=3) (t:=27) rfl rfl rfl (by kernel_rfl) (by kernel_rfl) fv1) rfl ⟨fv2,.inl ⟨v,c,rfl,ha6,ht6,hm,Hyes.out⟩⟩
  have f0:decide (s.bad=false∧s.l=[])=false:=decide_eq_false he
  have Hno:=hid (hP.left (by
   cases hb:s.bad with
   | true=>exact .inl rfl
   | false=>exact .inr (List.length_pos_iff.2 (fun h=>he ⟨hb,h⟩))))
  obtain⟨h1,fz1,fz2⟩:=hfin W6 ho.bel zeroV.cells
  clear he hP
  go_wp2_with (refine wpList_store_row h1 rfl rfl rfl rfl (by kernel_rfl) rfl (by kernel_rfl) ?_;go_simp)
  exact bodyPost_ret (w:=W6.setRow w.heap.size zeroV.cells) (results_row2 (i:=2) (j:=3) (t:=27) rfl rfl rfl (by kernel_rfl) (by kernel_rfl) fz1) rfl ⟨fz2,.inr ⟨rfl,Hno.out⟩⟩
 ·go_upto_region 7 with fail
  have ho:=Ho4.out
  clear Ho4
  generalize W3.setCell _ _=W4 at *
  clear b0 b1 b2 b3 b4 b5 b6 b7 kb3
  obtain⟨v,hv⟩:∃v:OV,(⟨((5:Nat):Int),⟨#[]⟩,⟨#[]⟩,none,0,0,none,0,0,none,0,0,0⟩:OV)=v:=⟨_,rfl⟩
  have hk:v.k=5:=by rw[←hv];rfl
  rw[hv] at ho
  clear hv
  obtain⟨s,hs⟩:∃s',s0=s':=⟨_,rfl⟩
  rw[hs] at ho
  clear hs
  obtain⟨c,ho⟩:∃c,OfGo B g ob W0 b v c [] s W4:=⟨_,ho⟩
  obtain⟨b0,b1,b2,b3,b4,b5,b6,b7⟩:=box_all ho.box
  go_wp2_with fail
  have T:=took_bytes s 2 (by decide)
  have hsl:s.l.length≤100000000:=by have:=ho.part.le;omega
  clear b0 b1 b2 b3 b4 b5 b6 b7
  refine (rftext_any B g s 2 _ ho.rd hsl).mono ?_
  generalize s.bytes 2=y at *
  rintro e W5 ⟨rfl,hr5,hg5⟩
  obtain⟨a5,t5⟩:=ho.kept hg5
  obtain⟨y,s⟩:=y
  dsimp only at T hr5
  have hN:=ho.next (v':=v.setName ⟨y.toArray⟩) (c':=c) (i:=1) (x:=.string ⟨y.toArray⟩) hg5 hr5 hg0 hob hgo hBo rfl ⟨a5.a,a5.b,a5.c,a5.la,a5.lb,a5.lc⟩ ⟨t5.a,t5.b,t5.c⟩ (ho.part.name (more:=[97]) T (by rw[hk];rfl) (by simp))
  have hk5:(v.setName ⟨y.toArray⟩).k=5:=hk
  have hb5:=ho.box.grown hg5 (fun e=>hgo (Option.some.inj e).symm)
  obtain⟨b0,b1,b2,b3,b4,b5,b6,b7⟩:=box_all hb5
  clear ho T hr5 hg5 a5 t5 hk
  go_upto_region 9 with fail
  generalize W5.setCell _ _=W6 at *
  clear b0 b1 b2 b3 b4 b5 b6 b7 hb5
  obtain⟨v,hv⟩:∃v':OV,v.setName ⟨y.toArray⟩=v':=⟨_,rfl⟩
  obtain⟨c,hc⟩:∃c':OC,c=c':=⟨_,rfl⟩
  rw[hv,hc] at hN
  rw[hv] at hk5
  clear hv hc
  have ho:OfGo B g ob W0 b v c [110] s W6:=hN
  have hk:=hk5
  clear hN hk5
  obtain⟨b0,b1,b2,b3,b4,b5,b6,b7⟩:=box_all ho.box
  go_wp2_with fail
  have hsl:s.l.length≤100000000:=by have:=ho.part.le;omega
  clear b0 b1 b2 b3 b4 b5 b6 b7
  refine (rTakeAttrs_any B g s 4 _ (by decide) ho.rd hsl).mono ?_
  rintro e W5 ⟨ao5,n5,cap5,xs5,s5,rfl,hrd5,hn5,hty5,hr5,hg5,T⟩
  obtain⟨a5,t5⟩:=ho.kept hg5
  have hN:=ho.next (v':=v.setAttrs ao5 n5 cap5) (c':=⟨xs5,c.parts,c.cursor⟩) (i:=3) (x:=.slice ao5 n5 cap5) hg5 hr5 hg0 hob hgo hBo rfl ⟨hrd5,a5.b,a5.c,(by show n5≤_;omega),a5.lb,a5.lc⟩ ⟨hty5,t5.b,t5.c⟩ (ho.part.attrs (more:=[]) T (by rw[hk];rfl) (by simp))
  have hk5:(v.setAttrs ao5 n5 cap5).k=5:=hk
  have hb5:=ho.box.grown hg5 (fun e=>hgo (Option.some.inj e).symm)
  obtain⟨b0,b1,b2,b3,b4,b5,b6,b7⟩:=box_all hb5
  clear ho T hr5 hg5 a5 t5 hk
  go_upto_region 13 with fail
  generalize W5.setCell _ _=W6 at *
  clear b0 b1 b2 b3 b4 b5 b6 b7 hb5
  obtain⟨v,hv⟩:∃v':OV,v.setAttrs ao5 n5 cap5=v':=⟨_,rfl⟩
  obtain⟨c,hc⟩:∃c':OC,⟨xs5,c.parts,c.cursor⟩=c':=⟨_,rfl⟩
  rw[hv,hc] at hN
  rw[hv] at hk5
  clear hv hc
  have ho:OfGo B g ob W0 b v c [110,97] s5 W6:=hN
  have hk:=hk5
  clear hN hk5
  obtain⟨b0,b1,b2,b3,b4,b5,b6,b7⟩:=box_all ho.box
  go_wp2_with fail
  obtain⟨s,hs⟩:∃s',s5=s':=⟨_,rfl⟩
  rw[hs] at ho
  clear hs
  obtain⟨c,ho⟩:∃c,OfGo B g ob W0 b v c (fieldsOf v.k) s W6:=⟨_,by rw[hk];exact ho⟩
  have hP:=ho.part
  have hbox:=ho.box
  refine (rfdone_any B g s W6 ho.rd).mono ?_
  rintro e w5 ⟨rfl,rfl⟩
  clear b0 b1 b2 b3 b4 b5 b6 b7 hk
  by_cases he:s.bad=false∧s.l=[]
  ·have f0:decide (s.bad=false∧s.l=[])=true:=decide_eq_true he
   have hmay:=rMayOp_any v c W6 ho.at_
   have HE:=hid he
   clear he
   unfold OV.val at hmay
   go_wp2_with (refine wpList_load_row hbox rfl rfl rfl (by kernel_rfl) (by kernel_rfl) ?_;go_simp)
   refine hmay.mono ?_
   rintro e w6 ⟨rfl,hb6⟩
   have ho6:=ho.later hb6
   have hbox6:=ho6.box
   obtain⟨h1,fz1,fz2⟩:=hfin w6 ho6.bel zeroV.cells
   obtain⟨_,fv1,fv2⟩:=hfin w6 ho6.bel v.cells
   have hkr:KeepB B w6 (w6.setRow w.heap.size v.cells):=by
    refine⟨⟨(below_setRow (Below.refl w.heap.size w6) (Nat.le_refl _) v.cells).size,fun k c t fr ht hk=>?_⟩,fun k h2 _=>setRow_other w6 w.heap.size k v.cells (by omega)⟩
    have hne:k≠w.heap.size:=fun e=>by
     subst e
     rw[h1] at hk
     cases hk
     rcases ht with h | h | h<;>exact absurd h (by decide)
    exact (setRow_other w6 w.heap.size k v.cells hne).trans hk
   have ha6:=ho6.at_.kpb ho6.ty hkr
   have ht6:=ho6.ty.kpb hkr
   cases hm:mayOp v c with
   | false=>
    have Hno:=hid (hP.notMay HE.out.1 HE.out.2 ho.at_ hm)
    clear hkr ha6 ht6 hP
    go_wp2_with (refine wpList_store_row h1 rfl rfl rfl rfl (by kernel_rfl) rfl (by kernel_rfl) ?_;go_simp)
    exact bodyPost_ret (w:=w6.setRow w.heap.size zeroV.cells) (results_row2 (i:=2) (j:=3) (t:=27) rfl rfl rfl (by kernel_rfl) (by kernel_rfl) fz1) rfl ⟨fz2,.inr ⟨rfl,Hno.out⟩⟩
   | true=>
    have Hyes:=hid (hP.done HE.out.1 HE.out.2)
    clear hkr hP
    go_wp2_with (first | (refine wpList_load_row hbox6 rfl rfl rfl (by kernel_rfl) (by kernel_rfl) ?_;go_simp) | (refine wpList_store_row h1 rfl rfl rfl rfl (by kernel_rfl) rfl (by kernel_rfl) ?_;go_simp))
    exact bodyPost_ret (w:=w6.setRow w.heap.size v.cells) (results_row2 (i:=2) (j:=3) (t:=27) rfl rfl rfl (by kernel_rfl) (by kernel_rfl) fv1) rfl ⟨fv2,.inl ⟨v,c,rfl,ha6,ht6,hm,Hyes.out⟩⟩
  have f0:decide (s.bad=false∧s.l=[])=false:=decide_eq_false he
  have Hno:=hid (hP.left (by
   cases hb:s.bad with
   | true=>exact .inl rfl
   | false=>exact .inr (List.length_pos_iff.2 (fun h=>he ⟨hb,h⟩))))
  obtain⟨h1,fz1,fz2⟩:=hfin W6 ho.bel zeroV.cells
  clear he hP
  go_wp2_with (refine wpList_store_row h1 rfl rfl rfl rfl (by kernel_rfl) rfl (by kernel_rfl) ?_;go_simp)
  exact bodyPost_ret (w:=W6.setRow w.heap.size zeroV.cells) (results_row2 (i:=2) (j:=3) (t:=27) rfl rfl rfl (by kernel_rfl) (by kernel_rfl) fz1) rfl ⟨fz2,.inr ⟨rfl,Hno.out⟩⟩
 ·go_upto_region 7 with fail
  have ho:=Ho4.out
  clear Ho4
  generalize W3.setCell _ _=W4 at *
  clear b0 b1 b2 b3 b4 b5 b6 b7 kb3
  obtain⟨v,hv⟩:∃v:OV,(⟨((6:Nat):Int),⟨#[]⟩,⟨#[]⟩,none,0,0,none,0,0,none,0,0,0⟩:OV)=v:=⟨_,rfl⟩
  have hk:v.k=6:=by rw[←hv];rfl
  rw[hv] at ho
  clear hv
  obtain⟨s,hs⟩:∃s',s0=s':=⟨_,rfl⟩
  rw[hs] at ho
  clear hs
  obtain⟨c,ho⟩:∃c,OfGo B g ob W0 b v c [] s W4:=⟨_,ho⟩
  obtain⟨b0,b1,b2,b3,b4,b5,b6,b7⟩:=box_all ho.box
  go_wp2_with fail
  have T:=took_bytes s 2 (by decide)
  have hsl:s.l.length≤100000000:=by have:=ho.part.le;omega
  clear b0 b1 b2 b3 b4 b5 b6 b7
  refine (rftext_any B g s 2 _ ho.rd hsl).mono ?_
  generalize s.bytes 2=y at *
  rintro e W5 ⟨rfl,hr5,hg5⟩
  obtain⟨a5,t5⟩:=ho.kept hg5
  obtain⟨y,s⟩:=y
  dsimp only at T hr5
  have hN:=ho.next (v':=v.setName ⟨y.toArray⟩) (c':=c) (i:=1) (x:=.string ⟨y.toArray⟩) hg5 hr5 hg0 hob hgo hBo rfl ⟨a5.a,a5.b,a5.c,a5.la,a5.lb,a5.lc⟩ ⟨t5.a,t5.b,t5.c⟩ (ho.part.name (more:=[]) T (by rw[hk];rfl) (by simp))
  have hk5:(v.setName ⟨y.toArray⟩).k=6:=hk
  have hb5:=ho.box.grown hg5 (fun e=>hgo (Option.some.inj e).symm)
  obtain⟨b0,b1,b2,b3,b4,b5,b6,b7⟩:=box_all hb5
  clear ho T hr5 hg5 a5 t5 hk
  go_upto_region 25 with fail
  generalize W5.setCell _ _=W6 at *
  clear b0 b1 b2 b3 b4 b5 b6 b7 hb5
  obtain⟨v,hv⟩:∃v':OV,v.setName ⟨y.toArray⟩=v':=⟨_,rfl⟩
  obtain⟨c,hc⟩:∃c':OC,c=c':=⟨_,rfl⟩
  rw[hv,hc] at hN
  rw[hv] at hk5
  clear hv hc
  have ho:OfGo B g ob W0 b v c [110] s W6:=hN
  have hk:=hk5
  clear hN hk5
  obtain⟨b0,b1,b2,b3,b4,b5,b6,b7⟩:=box_all ho.box
  go_wp2_with fail
  obtain⟨c,ho⟩:∃c,OfGo B g ob W0 b v c (fieldsOf v.k) s W6:=⟨_,by rw[hk];exact ho⟩
  have hP:=ho.part
  have hbox:=ho.box
  refine (rfdone_any B g s W6 ho.rd).mono ?_
  rintro e w5 ⟨rfl,rfl⟩
  clear b0 b1 b2 b3 b4 b5 b6 b7 hk
  by_cases he:s.bad=false∧s.l=[]
  ·have f0:decide (s.bad=false∧s.l=[])=true:=decide_eq_true he
   have hmay:=rMayOp_any v c W6 ho.at_
   have HE:=hid he
   clear he
   unfold OV.val at hmay
   go_wp2_with (refine wpList_load_row hbox rfl rfl rfl (by kernel_rfl) (by kernel_rfl) ?_;go_simp)
   refine hmay.mono ?_
   rintro e w6 ⟨rfl,hb6⟩
   have ho6:=ho.later hb6
   have hbox6:=ho6.box
   obtain⟨h1,fz1,fz2⟩:=hfin w6 ho6.bel zeroV.cells
   obtain⟨_,fv1,fv2⟩:=hfin w6 ho6.bel v.cells
   have hkr:KeepB B w6 (w6.setRow w.heap.size v.cells):=by
    refine⟨⟨(below_setRow (Below.refl w.heap.size w6) (Nat.le_refl _) v.cells).size,fun k c t fr ht hk=>?_⟩,fun k h2 _=>setRow_other w6 w.heap.size k v.cells (by omega)⟩
    have hne:k≠w.heap.size:=fun e=>by
     subst e
     rw[h1] at hk
     cases hk
     rcases ht with h | h | h<;>exact absurd h (by decide)
    exact (setRow_other w6 w.heap.size k v.cells hne).trans hk
   have ha6:=ho6.at_.kpb ho6.ty hkr
   have ht6:=ho6.ty.kpb hkr
   cases hm:mayOp v c with
   | false=>
    have Hno:=hid (hP.notMay HE.out.1 HE.out.2 ho.at_ hm)
    clear hkr ha6 ht6 hP
    go_wp2_with (refine wpList_store_row h1 rfl rfl rfl rfl (by kernel_rfl) rfl (by kernel_rfl) ?_;go_simp)
    exact bodyPost_ret (w:=w6.setRow w.heap.size zeroV.cells) (results_row2 (i:=2) (j:=3) (t:=27) rfl rfl rfl (by kernel_rfl) (by kernel_rfl) fz1) rfl ⟨fz2,.inr ⟨rfl,Hno.out⟩⟩
   | true=>
    have Hyes:=hid (hP.done HE.out.1 HE.out.2)
    clear hkr hP
    go_wp2_with (first | (refine wpList_load_row hbox6 rfl rfl rfl (by kernel_rfl) (by kernel_rfl) ?_;go_simp) | (refine wpList_store_row h1 rfl rfl rfl rfl (by kernel_rfl) rfl (by kernel_rfl) ?_;go_simp))
    exact bodyPost_ret (w:=w6.setRow w.heap.size v.cells) (results_row2 (i:=2) (j:=3) (t:=27) rfl rfl rfl (by kernel_rfl) (by kernel_rfl) fv1) rfl ⟨fv2,.inl ⟨v,c,rfl,ha6,ht6,hm,Hyes.out⟩⟩
  have f0:decide (s.bad=false∧s.l=[])=false:=decide_eq_false he
  have Hno:=hid (hP.left (by
   cases hb:s.bad with
   | true=>exact .inl rfl
   | false=>exact .inr (List.length_pos_iff.2 (fun h=>he ⟨hb,h⟩))))
  obtain⟨h1,fz1,fz2⟩:=hfin W6 ho.bel zeroV.cells
  clear he hP
  go_wp2_with (refine wpList_store_row h1 rfl rfl rfl rfl (by kernel_rfl) rfl (by kernel_rfl) ?_;go_simp)
  exact bodyPost_ret (w:=W6.setRow w.heap.size zeroV.cells) (results_row2 (i:=2) (j:=3) (t:=27) rfl rfl rfl (by kernel_rfl) (by kernel_rfl) fz1) rfl ⟨fz2,.inr ⟨rfl,Hno.out⟩⟩
 ·go_upto_region 7 with fail
  have ho:=Ho4.out
  clear Ho4
  generalize W3.setCell _ _=W4 at *
  clear b0 b1 b2 b3 b4 b5 b6 b7 kb3
  obtain⟨v,hv⟩:∃v:OV,(⟨((7:Nat):Int),⟨#[]⟩,⟨#[]⟩,none,0,0,none,0,0,none,0,0,0⟩:OV)=v:=⟨_,rfl⟩
  have hk:v.k=7:=by rw[←hv];rfl
  have hnil:v.bo=none∧v.bn=0∧v.bc=0:=by rw[←hv];exact⟨rfl,rfl,rfl⟩
  rw[hv] at ho
  clear hv
  obtain⟨s,hs⟩:∃s',s0=s':=⟨_,rfl⟩
  rw[hs] at ho
  clear hs
  obtain⟨c,ho⟩:∃c,OfGo B g ob W0 b v c [] s W4:=⟨_,ho⟩
  obtain⟨b0,b1,b2,b3,b4,b5,b6,b7⟩:=box_all ho.box
  go_wp2_with fail
  have hsl:s.l.length≤100000000:=by have:=ho.part.le;omega
  clear b0 b1 b2 b3 b4 b5 b6 b7
  refine (rflist_any B g s 5 1 _ (by decide) (by decide) ho.rd hsl).mono ?_
  rintro e W5 ⟨ao5,cap5,els,s5,rfl,hrd5,hall5,hfr5,hn5,hel5,hr5,hg5,T⟩
  obtain⟨a5,t5⟩:=ho.kept hg5
  have hb5:=ho.box.grown hg5 (fun e=>hgo (Option.some.inj e).symm)
  have hbel5:=ho.bel.trans (below_of_grown hg5 hg0 ho.rd.lt)
  rw[parts_nil hnil.1 hnil.2.1 hnil.2.2] at hb5
  have hop5:=ho.part
  have hbs:=(Array.getElem?_eq_some_iff.1 hb5).1
  have hobx:∀k∈[ob],∃o,W5.heap[k]?=some o∧∀(c:Array Value) (t:TypeId) (fr:Nat×Nat),(t=5∨t=9∨t=53)→o≠.cells c t fr:=fun k hk=>by
   rw[List.mem_singleton.1 hk]
   refine⟨_,hb5,fun c t fr ht e=>?_⟩
   cases e
   rcases ht with h | h | h<;>exact absurd h (by decide)
  have hobx8:∀k∈[ob],∃o,W5.heap[k]?=some o∧∀c fr,o≠.cells c 5 fr:=fun k hk=>by
   obtain⟨o,h1,h2⟩:=hobx k hk
   exact⟨o,h1,fun c fr=>h2 c _ fr (.inl rfl)⟩
  have ho0:W5.ownsRow W5.heap.size 9 1 (.slice none 0 0) 0 (txV []):=World.ownsRow_nil _ _ _ _
  have hobW:=(Array.getElem?_eq_some_iff.1 ho.box).1
  clear ho hg5
  go_wp2_with fail
  go_loopw [8] (fun p wr=>∃(k:Nat) (l:List ByteArray) (a:Option Addr) (q:Nat),k≤els.length∧p=.int .i64 (k:Int)∧InO ob (v.parts a k q) wr∧wr.ownsRow W5.heap.size 9 1 (.slice a k q) k (txV l)∧BelX W5.heap.size [ob] W5 wr∧Hid (l.length=k∧l.map (fun y=>y.data.toList)=(els.map fun x=>x.it.2).take k)) (fun p _=>els.length-(intOf p).toNat)
  case atStart=>exact⟨0,[],none,0,Nat.zero_le _,rfl,hb5,ho0,BelX.refl _ _ _,hid ⟨rfl,rfl⟩⟩
  case round=>
   obtain⟨k,l,a,q,hk5,rfl,hbx,own,hX,Hl⟩:=hrel
   have hK:KeepB B W5 wr:=⟨KeepR.of_belX hX hobx,fun k h1 h2=>hX.block k h2 (by simp only[List.mem_singleton];omega)⟩
   by_cases hkn:k<els.length
   ·obtain⟨b1,o1,rfl,hl1,hc1⟩:=hrd5.some (by have:=hrd5.le;omega)
    obtain⟨u,hue⟩:∃u,els[k]?=some u:=⟨_,List.getElem?_eq_getElem hkn⟩
    have hum:=List.mem_of_getElem? hue
    obtain⟨hu1,hu2⟩:=hall5 u hum
    have hb1o:b1≠ob:=by have:=hfr5 _ rfl;dsimp only at this;omega
    have c1:wr.cell? ⟨b1,o1+k,none⟩=some (.slice u.ao u.it.2.length u.cap):=(World.cell?_of_block (a:=⟨b1,o1+k,none⟩) (hX.block b1 hl1 (by simpa using hb1o))).trans (hc1 k _ (lsV_at els k u hue))
    have hu3:Rd wr 1 u.ao u.it.2.length u.cap (byV u.it.2):=rd_kpb hu1 hu2 hK
    have hu4:TyB B wr u.ao u.cap:=TyB.kpb hu2 hK
    obtain⟨V,hV⟩:∃V:OV,v.parts a k q=V:=⟨_,rfl⟩
    have hVn:V.bn=k:=by rw[←hV];rfl
    have HV:=hid hV
    rw[hV] at hbx
    have own1:wr.ownsRow W5.heap.size 9 1 (.slice V.bo V.bn V.bc) V.bn (txV l):=by rw[←hV];exact own
    have HVn:=hid hVn
    have Hue:=hid hue
    have i0:(0:Int)≤(k:Int):=by omega
    have i1:(k:Int)<(els.length:Int):=by omega
    have hd:Below wr.heap.size wr wr.drew:=(Below.refl _ _).drew
    have hpa:PaAt ob V b1 (o1+k) u wr:=⟨hbx,c1,hu3⟩
    have s0:=hpa.step hd
    have x0:=own_later own1 hd
    have X0:BelX W5.heap.size [ob] W5 wr.drew:=hX.trans ((BelX.of_below hd [ob]).mono hX.size (fun _ hk _=>hk))
    have z0:=X0.size
    have hlo:0<u.cap→∀a,u.ao=some a→a.block<W5.heap.size:=hu2.lt (Nat.le_trans hBo (Nat.le_of_lt hbs))
    clear hue hum hu1 hu2 hu3 hu4 c1 hc1 hV hVn own own1 hd hpa hbx hX hK
    go_upto_region 18 with fail
    refine wp_region_T (k:=10) (S:=PaAt ob V b1 (o1+k) u) hmo ?_
    change wpAnyT _ _ _ _ _ _ _ _ _ (World.drew wr)
    generalize World.drew wr=Wd at *
    refine zTp 0 (.pointer (some ⟨ob,4,none⟩)) rfl s0 ?_
    go_simp
    refine zTa 1 (.slice V.bo V.bn V.bc) rfl (by rintro w h;obtain⟨c0,c1,c2,c3,c4,c5,c6,-⟩:=box_all h.box;have d0:=h.cell;go_simp) s0 ?_
    go_simp
    refine zTp 2 (.slice (some ⟨b1,o1,none⟩) els.length cap5) rfl s0 ?_
    go_simp
    refine zTp 3 (.int .i64 (k:Int)) rfl s0 ?_
    go_simp
    refine zTa 4 (.pointer (some ⟨b1,o1+k,none⟩)) rfl (by rintro w h;obtain⟨c0,c1,c2,c3,c4,c5,c6,-⟩:=box_all h.box;have d0:=h.cell;go_simp) s0 ?_
    go_simp
    refine zTa 5 (.slice u.ao u.it.2.length u.cap) rfl (by rintro w h;obtain⟨c0,c1,c2,c3,c4,c5,c6,-⟩:=box_all h.box;have d0:=h.cell;go_simp) s0 ?_
    go_simp
    refine zTa 6 (.string ⟨u.it.2.toArray⟩) rfl (by rintro w h;obtain⟨c0,c1,c2,c3,c4,c5,c6,-⟩:=box_all h.box;have d0:=h.cell;have hs:=run_strD u.ao _ u.cap _ w h.rd;go_simp) s0 ?_
    go_simp
    refine zT1 7 rfl (fun K hK=>?_)
    go_simp
    generalize hg:Wd.alloc _=W6
    have hb2:Below Wd.heap.size Wd W6:=by rw[←hg];exact (Below.refl _ _).alloc (Nat.le_refl _) _
    have r2:Rd W6 1 (some ⟨Wd.heap.size,0,none⟩) 1 1 [.string ⟨u.it.2.toArray⟩]:=by rw[←hg];exact Rd.new Wd [.string ⟨u.it.2.toArray⟩] 9 (0,0) 1 1 rfl (by unfold maxLen;omega)
    have s2:=s0.step hb2
    have x2:=own_later x0 hb2
    have X2:BelX W5.heap.size [ob] W5 W6:=X0.trans ((BelX.of_below hb2 [ob]).mono z0 (fun _ hk _=>hk))
    have z2:=X2.size
    clear hg
    go_simp
    refine hK _ _ ⟨.inr s2,?_⟩
    clear hK K
    refine zT1 8 rfl (fun K hK=>?_)
    refine step_app rfl (.tmp 60) (.tmp 66) 24 rfl W5.heap.size 9 (.string ⟨#[]⟩) 1 16 sliceT_txt (.slice V.bo V.bn V.bc) V.bn (txV l) rfl x2 (some ⟨Wd.heap.size,0,none⟩) 1 1 [.string ⟨u.it.2.toArray⟩] rfl r2 (one1 _ rfl) (by have:=HVn.out;unfold maxLen;omega) (by have:=HVn.out;omega) z2 ?_
    intro a3 k3 W7 x3 hg3 hb3 _
    have s3:PaAt ob V b1 (o1+k) u W7:=s2.low hb3 hbs hl1 hlo
    have X3:BelX W5.heap.size [ob] W5 W7:=X2.trans (BelX.of_below hb3 [ob])
    refine hK _ _ ⟨.inr s3,?_⟩
    clear hK K
    refine zTp 9 (.pointer (some ⟨ob,4,none⟩)) rfl s3 ?_
    go_simp
    refine wpAnyT_last (by kernel_rfl) (by kernel_rfl) ?_
    refine zA1 10 rfl (fun K hK=>?_)
    go_simp
    obtain⟨c0,c1,c2,c3,c4,c5,c6,c7⟩:=box_all s3.box
    go_simp
    refine hK _ _ ?_
    clear hK K
    refine wpAny_done (by kernel_rfl) ?_ _
    have hB:InO ob (V.parts a3 (V.bn+1) k3) (W7.setCell ⟨ob,4,none⟩ (.slice a3 (V.bn+1) k3)):=at_set s3.box
    have hX9:BelX W5.heap.size [ob] W5 (W7.setCell ⟨ob,4,none⟩ (.slice a3 (V.bn+1) k3)):=X3.set _ _ _ (.inl (by simp))
    have hO:(W7.setCell ⟨ob,4,none⟩ (.slice a3 (V.bn+1) k3)).ownsRow W5.heap.size 9 1 (.slice a3 (V.bn+1) k3) (V.bn+1) (txV (l++[⟨u.it.2.toArray⟩])):=by
     rw[txV_snoc]
     exact own_kept x3 (fun k hk=>Below.heap_setCell _ _ _ _ (by have:=(own_blk x3 hk).1;show k≠ob;omega))
    rw[HVn.out] at hB hO
    have hBv:InO ob (v.parts a3 (k+1) k3) (W7.setCell ⟨ob,4,none⟩ (.slice a3 (V.bn+1) k3)):=by
     have e:V.parts a3 (k+1) k3=v.parts a3 (k+1) k3:=by rw[←HV.out];rfl
     rw[←e]
     rw[HVn.out]
     exact hB
    have hO2:(W7.setCell ⟨ob,4,none⟩ (.slice a3 (V.bn+1) k3)).ownsRow W5.heap.size 9 1 (.slice a3 (k+1) k3) (k+1) (txV (l++[⟨u.it.2.toArray⟩])):=by
     rw[HVn.out]
     exact hO
    clear s0 s2 s3 x0 x2 x3 X0 X2 X3 z0 z2 hb2 r2 hg3 hb3 hB hO
    generalize W7.setCell _ _=W8 at *
    go_wp2_with fail
    go_roundw
    case rel=>
     refine⟨k+1,l++[⟨u.it.2.toArray⟩],a3,k3,by omega,by go_num,hBv,hO2,hX9,hid ⟨by rw[List.length_append,Hl.out.1];rfl,?_⟩⟩
     rw[List.take_add_one,List.map_append,Hl.out.2,List.getElem?_map,Hue.out]
     rfl
    case measure=>simp[intOf];omega
   obtain rfl:k=els.length:=by omega
   obtain⟨hl1,hl2⟩:=Hl.out
   rw[List.take_of_length_le (by rw[List.length_map];omega)] at hl2
   have T2:=took_parts T l hl2
   have a6:=a5.kpb t5 hK
   have t6:=t5.kpb hK
   have hr6:=Rd.of_own_slice own
   have hN:OfGo B g ob W0 b (v.parts a els.length q) ⟨c.attrs,l,c.cursor⟩ [112] s5 wr:=
    ⟨⟨hX.os.trans hbel5.os,hX.tape.trans hbel5.tape,hX.output.trans hbel5.output,Nat.le_trans hbel5.size hX.size,fun k hk=>(hX.block k (Nat.lt_of_lt_of_le hk hbel5.size) (by simp only[List.mem_cons,List.not_mem_nil,or_false];omega)).trans (hbel5.block k hk)⟩,hbx,hr5.belX hX (by simpa using hgo) (fun k hk=>by rw[List.mem_singleton.1 hk];exact hBo) hobx8,⟨a6.a,hr6,a6.c,a6.la,(by show els.length≤_;omega),a6.lc⟩,⟨t6.a,TyX.of_own own,t6.c⟩,hop5.parts (more:=[99,107]) T2 (by rw[hk];rfl) (by simp)⟩
   have hk6:(v.parts a els.length q).k=7:=hk
   clear hbx own hX hK Hl T T2 a6 t6 hr6 hop5 hr5 hbel5 a5 t5 hb5 hl2 hall5 hrd5 hk hobx hobx8 ho0
   obtain⟨v,hv⟩:∃v':OV,v.parts a els.length q=v':=⟨_,rfl⟩
   obtain⟨c,hc⟩:∃c':OC,⟨c.attrs,l,c.cursor⟩=c':=⟨_,rfl⟩
   rw[hv,hc] at hN
   rw[hv] at hk6
   clear hv hc
   have ho:=hN
   have hk:=hk6
   obtain⟨s,hs⟩:∃s',s5=s':=⟨_,rfl⟩
   rw[hs] at ho
   clear hN hk6 hs
   obtain⟨b0,b1,b2,b3,b4,b5,b6,b7⟩:=box_all ho.box
   go_wp2_with fail
   have T:=took_bytes s 6 (by decide)
   have hyl:=bytes_le s 6
   have hsl:s.l.length≤100000000:=by have:=ho.part.le;omega
   clear b0 b1 b2 b3 b4 b5 b6 b7
   refine (rftake_any B g s 6 _ ho.rd hsl).mono ?_
   unfold GivesTf
   generalize s.bytes 6=y at *
   rintro e W5 ⟨hr5,hg5,ao5,cap5,rfl,hrd5,hty5⟩
   obtain⟨a5,t5⟩:=ho.kept hg5
   obtain⟨y,s⟩:=y
   dsimp only at T hr5 hrd5 hyl
   have hN:=ho.next (v':=v.setCur ao5 y.length cap5) (c':=⟨c.attrs,c.parts,y⟩) (i:=5) (x:=.slice ao5 y.length cap5) hg5 hr5 hg0 hob hgo hBo rfl ⟨a5.a,a5.b,hrd5,a5.la,a5.lb,(by show y.length≤_;omega)⟩ ⟨t5.a,t5.b,hty5⟩ (ho.part.cur (more:=[107]) T (by rw[hk];rfl) (by simp))
   have hk5:(v.setCur ao5 y.length cap5).k=7:=hk
   have hb5:=ho.box.grown hg5 (fun e=>hgo (Option.some.inj e).symm)
   obtain⟨b0,b1,b2,b3,b4,b5,b6,b7⟩:=box_all hb5
   clear ho T hr5 hg5 a5 t5 hk
   go_upto_region 21 with fail
   generalize W5.setCell _ _=W6 at *
   clear b0 b1 b2 b3 b4 b5 b6 b7 hb5
   obtain⟨v,hv⟩:∃v':OV,v.setCur ao5 y.length cap5=v':=⟨_,rfl⟩
   obtain⟨c,hc⟩:∃c':OC,⟨c.attrs,c.parts,y⟩=c':=⟨_,rfl⟩
   rw[hv,hc] at hN
   rw[hv] at hk5
   clear hv hc
   have ho:OfGo B g ob W0 b v c [112,99] s W6:=hN
   have hk:=hk5
   clear hN hk5
   obtain⟨b0,b1,b2,b3,b4,b5,b6,b7⟩:=box_all ho.box
   go_wp2_with fail
   have T:=took_numM s 7 1000 (by decide) (by decide)
   have hle:=numM_le s 7 1000
   have hsl:s.l.length≤100000000:=by have:=ho.part.le;omega
   clear b0 b1 b2 b3 b4 b5 b6 b7
   refine (rfnum_any B g s 7 _ ho.rd hsl).mono ?_
   unfold RS.numM at T hle
   generalize s.num 7=y at *
   rintro e W5 ⟨rfl,hr5,hg5⟩
   obtain⟨a5,t5⟩:=ho.kept hg5
   obtain⟨y,s2⟩:=y
   dsimp only at T hr5 hle
   by_cases h1000:1000<y
   ·rw[if_pos h1000] at T hle
    have hP:=ho.part.num (more:=[]) T (by omega) (by rw[hk];rfl) (by simp)
    have Hno:=hid (hP.no rfl)
    have g0:decide ((1000:Int)<(y:Int))=true:=decide_eq_true (by omega)
    obtain⟨h1,f1,f2⟩:=hfin W5 (ho.bel.trans (below_of_grown hg5 hg0 ho.rd.lt)) zeroV.cells
    clear ho T hr5 hg5 a5 t5 hk hP hle h1000
    go_wp2_with (refine wpList_store_row h1 rfl rfl rfl rfl (by kernel_rfl) rfl (by kernel_rfl) ?_;go_simp)
    exact bodyPost_ret (w:=W5.setRow w.heap.size zeroV.cells) (results_row2 (i:=2) (j:=3) (t:=27) rfl rfl rfl (by kernel_rfl) (by kernel_rfl) f1) rfl ⟨f2,.inr ⟨rfl,Hno.out⟩⟩
   rw[if_neg h1000] at T hle
   dsimp only at T hle
   have g0:decide ((1000:Int)<(y:Int))=false:=decide_eq_false (by omega)
   have g1:IntKind.i64.wrap (y:Int)=(y:Int):=wraps_i64' _ (by omega) (by omega)
   obtain⟨s,hs⟩:∃s',s2=s':=⟨_,rfl⟩
   rw[hs] at T hr5
   clear hs h1000
   have hN:=ho.next (v':=v.setN (y:Int)) (c':=c) (i:=6) (x:=.int .i64 (y:Int)) hg5 hr5 hg0 hob hgo hBo rfl ⟨a5.a,a5.b,a5.c,a5.la,a5.lb,a5.lc⟩ ⟨t5.a,t5.b,t5.c⟩ (ho.part.num (more:=[]) T hle (by rw[hk];rfl) (by simp))
   have hk5:(v.setN (y:Int)).k=7:=hk
   have hb5:=ho.box.grown hg5 (fun e=>hgo (Option.some.inj e).symm)
   obtain⟨b0,b1,b2,b3,b4,b5,b6,b7⟩:=box_all hb5
   clear ho T hr5 hg5 a5 t5 hk
   go_upto_region 25 with fail
   generalize W5.setCell _ _=W6 at *
   clear b0 b1 b2 b3 b4 b5 b6 b7 hb5
   obtain⟨v,hv⟩:∃v':OV,v.setN (y:Int)=v':=⟨_,rfl⟩
   obtain⟨c,hc⟩:∃c':OC,c=c':=⟨_,rfl⟩
   rw[hv,hc] at hN
   rw[hv] at hk5
   clear hv hc
   have ho:OfGo B g ob W0 b v c [112,99,107] s W6:=hN
   have hk:=hk5
   clear hN hk5
   obtain⟨b0,b1,b2,b3,b4,b5,b6,b7⟩:=box_all ho.box
   go_wp2_with fail
   obtain⟨c,ho⟩:∃c,OfGo B g ob W0 b v c (fieldsOf v.k) s W6:=⟨_,by rw[hk];exact ho⟩
   have hP:=ho.part
   have hbox:=ho.box
   refine (rfdone_any B g s W6 ho.rd).mono ?_
   rintro e w5 ⟨rfl,rfl⟩
   clear b0 b1 b2 b3 b4 b5 b6 b7 hk
   by_cases he:s.bad=false∧s.l=[]
   ·have f0:decide (s.bad=false∧s.l=[])=true:=decide_eq_true he
    have hmay:=rMayOp_any v c W6 ho.at_
    have HE:=hid he
    clear he
    unfold OV.val at hmay
    go_wp2_with (refine wpList_load_row hbox rfl rfl rfl (by kernel_rfl) (by kernel_rfl) ?_;go_simp)
    refine hmay.mono ?_
    rintro e w6 ⟨rfl,hb6⟩
    have ho6:=ho.later hb6
    have hbox6:=ho6.box
    obtain⟨h1,fz1,fz2⟩:=hfin w6 ho6.bel zeroV.cells
    obtain⟨_,fv1,fv2⟩:=hfin w6 ho6.bel v.cells
    have hkr:KeepB B w6 (w6.setRow w.heap.size v.cells):=by
     refine⟨⟨(below_setRow (Below.refl w.heap.size w6) (Nat.le_refl _) v.cells).size,fun k c t fr ht hk=>?_⟩,fun k h2 _=>setRow_other w6 w.heap.size k v.cells (by omega)⟩
     have hne:k≠w.heap.size:=fun e=>by
      subst e
      rw[h1] at hk
      cases hk
      rcases ht with h | h | h<;>exact absurd h (by decide)
     exact (setRow_other w6 w.heap.size k v.cells hne).trans hk
    have ha6:=ho6.at_.kpb ho6.ty hkr
    have ht6:=ho6.ty.kpb hkr
    cases hm:mayOp v c with
    | false=>
     have Hno:=hid (hP.notMay HE.out.1 HE.out.2 ho.at_ hm)
     clear hkr ha6 ht6 hP
     go_wp2_with (refine wpList_store_row h1 rfl rfl rfl rfl (by kernel_rfl) rfl (by kernel_rfl) ?_;go_simp)
     exact bodyPost_ret (w:=w6.setRow w.heap.size zeroV.cells) (results_row2 (i:=2) (j:=3) (t:=27) rfl rfl rfl (by kernel_rfl) (by kernel_rfl) fz1) rfl ⟨fz2,.inr ⟨rfl,Hno.out⟩⟩
    | true=>
     have Hyes:=hid (hP.done HE.out.1 HE.out.2)
     clear hkr hP
     go_wp2_with (first | (refine wpList_load_row hbox6 rfl rfl rfl (by kernel_rfl) (by kernel_rfl) ?_;go_simp) | (refine wpList_store_row h1 rfl rfl rfl rfl (by kernel_rfl) rfl (by kernel_rfl) ?_;go_simp))
     exact bodyPost_ret (w:=w6.setRow w.heap.size v.cells) (results_row2 (i:=2) (j:=3) (t:=27) rfl rfl rfl (by kernel_rfl) (by kernel_rfl) fv1) rfl ⟨fv2,.inl ⟨v,c,rfl,ha6,ht6,hm,Hyes.out⟩⟩
   have f0:decide (s.bad=false∧s.l=[])=false:=decide_eq_false he
   have Hno:=hid (hP.left (by
    cases hb:s.bad with
    | true=>exact .inl rfl
    | false=>exact .inr (List.length_pos_iff.2 (fun h=>he ⟨hb,h⟩))))
   obtain⟨h1,fz1,fz2⟩:=hfin W6 ho.bel zeroV.cells
   clear he hP
   go_wp2_with (refine wpList_store_row h1 rfl rfl rfl rfl (by kernel_rfl) rfl (by kernel_rfl) ?_;go_simp)
   exact bodyPost_ret (w:=W6.setRow w.heap.size zeroV.cells) (results_row2 (i:=2) (j:=3) (t:=27) rfl rfl rfl (by kernel_rfl) (by kernel_rfl) fz1) rfl ⟨fz2,.inr ⟨rfl,Hno.out⟩⟩
 go_upto_region 7 with fail
 have ho:=Ho4.out
 clear Ho4
 generalize W3.setCell _ _=W4 at *
 clear b0 b1 b2 b3 b4 b5 b6 b7 kb3
 obtain⟨v,hv⟩:∃v:OV,(⟨((8:Nat):Int),⟨#[]⟩,⟨#[]⟩,none,0,0,none,0,0,none,0,0,0⟩:OV)=v:=⟨_,rfl⟩
 have hk:v.k=8:=by rw[←hv];rfl
 rw[hv] at ho
 clear hv
 obtain⟨s,hs⟩:∃s',s0=s':=⟨_,rfl⟩
 rw[hs] at ho
 clear hs
 obtain⟨c,ho⟩:∃c,OfGo B g ob W0 b v c [] s W4:=⟨_,ho⟩
 obtain⟨b0,b1,b2,b3,b4,b5,b6,b7⟩:=box_all ho.box
 go_wp2_with fail
 have T:=took_bytes s 6 (by decide)
 have hyl:=bytes_le s 6
 have hsl:s.l.length≤100000000:=by have:=ho.part.le;omega
 clear b0 b1 b2 b3 b4 b5 b6 b7
 refine (rftake_any B g s 6 _ ho.rd hsl).mono ?_
 unfold GivesTf
 generalize s.bytes 6=y at *
 rintro e W5 ⟨hr5,hg5,ao5,cap5,rfl,hrd5,hty5⟩
 obtain⟨a5,t5⟩:=ho.kept hg5
 obtain⟨y,s⟩:=y
 dsimp only at T hr5 hrd5 hyl
 have hN:=ho.next (v':=v.setCur ao5 y.length cap5) (c':=⟨c.attrs,c.parts,y⟩) (i:=5) (x:=.slice ao5 y.length cap5) hg5 hr5 hg0 hob hgo hBo rfl ⟨a5.a,a5.b,hrd5,a5.la,a5.lb,(by show y.length≤_;omega)⟩ ⟨t5.a,t5.b,hty5⟩ (ho.part.cur (more:=[107]) T (by rw[hk];rfl) (by simp))
 have hk5:(v.setCur ao5 y.length cap5).k=8:=hk
 have hb5:=ho.box.grown hg5 (fun e=>hgo (Option.some.inj e).symm)
 obtain⟨b0,b1,b2,b3,b4,b5,b6,b7⟩:=box_all hb5
 clear ho T hr5 hg5 a5 t5 hk
 go_upto_region 21 with fail
 generalize W5.setCell _ _=W6 at *
 clear b0 b1 b2 b3 b4 b5 b6 b7 hb5
 obtain⟨v,hv⟩:∃v':OV,v.setCur ao5 y.length cap5=v':=⟨_,rfl⟩
 obtain⟨c,hc⟩:∃c':OC,⟨c.attrs,c.parts,y⟩=c':=⟨_,rfl⟩
 rw[hv,hc] at hN
 rw[hv] at hk5
 clear hv hc
 have ho:OfGo B g ob W0 b v c [99] s W6:=hN
 have hk:=hk5
 clear hN hk5
 obtain⟨b0,b1,b2,b3,b4,b5,b6,b7⟩:=box_all ho.box
 go_wp2_with fail
 have T:=took_numM s 7 1000 (by decide) (by decide)
 have hle:=numM_le s 7 1000
 have hsl:s.l.length≤100000000:=by have:=ho.part.le;omega
 clear b0 b1 b2 b3 b4 b5 b6 b7
 refine (rfnum_any B g s 7 _ ho.rd hsl).mono ?_
 unfold RS.numM at T hle
 generalize s.num 7=y at *
 rintro e W5 ⟨rfl,hr5,hg5⟩
 obtain⟨a5,t5⟩:=ho.kept hg5
 obtain⟨y,s2⟩:=y
 dsimp only at T hr5 hle
 by_cases h1000:1000<y
 ·rw[if_pos h1000] at T hle
  have hP:=ho.part.num (more:=[]) T (by omega) (by rw[hk];rfl) (by simp)
  have Hno:=hid (hP.no rfl)
  have g0:decide ((1000:Int)<(y:Int))=true:=decide_eq_true (by omega)
  obtain⟨h1,f1,f2⟩:=hfin W5 (ho.bel.trans (below_of_grown hg5 hg0 ho.rd.lt)) zeroV.cells
  clear ho T hr5 hg5 a5 t5 hk hP hle h1000
  go_wp2_with (refine wpList_store_row h1 rfl rfl rfl rfl (by kernel_rfl) rfl (by kernel_rfl) ?_;go_simp)
  exact bodyPost_ret (w:=W5.setRow w.heap.size zeroV.cells) (results_row2 (i:=2) (j:=3) (t:=27) rfl rfl rfl (by kernel_rfl) (by kernel_rfl) f1) rfl ⟨f2,.inr ⟨rfl,Hno.out⟩⟩
 rw[if_neg h1000] at T hle
 dsimp only at T hle
 have g0:decide ((1000:Int)<(y:Int))=false:=decide_eq_false (by omega)
 have g1:IntKind.i64.wrap (y:Int)=(y:Int):=wraps_i64' _ (by omega) (by omega)
 obtain⟨s,hs⟩:∃s',s2=s':=⟨_,rfl⟩
 rw[hs] at T hr5
 clear hs h1000
 have hN:=ho.next (v':=v.setN (y:Int)) (c':=c) (i:=6) (x:=.int .i64 (y:Int)) hg5 hr5 hg0 hob hgo hBo rfl ⟨a5.a,a5.b,a5.c,a5.la,a5.lb,a5.lc⟩ ⟨t5.a,t5.b,t5.c⟩ (ho.part.num (more:=[]) T hle (by rw[hk];rfl) (by simp))
 have hk5:(v.setN (y:Int)).k=8:=hk
 have hb5:=ho.box.grown hg5 (fun e=>hgo (Option.some.inj e).symm)
 obtain⟨b0,b1,b2,b3,b4,b5,b6,b7⟩:=box_all hb5
 clear ho T hr5 hg5 a5 t5 hk
 go_upto_region 25 with fail
 generalize W5.setCell _ _=W6 at *
 clear b0 b1 b2 b3 b4 b5 b6 b7 hb5
 obtain⟨v,hv⟩:∃v':OV,v.setN (y:Int)=v':=⟨_,rfl⟩
 obtain⟨c,hc⟩:∃c':OC,c=c':=⟨_,rfl⟩
 rw[hv,hc] at hN
 rw[hv] at hk5
 clear hv hc
 have ho:OfGo B g ob W0 b v c [99,107] s W6:=hN
 have hk:=hk5
 clear hN hk5
 obtain⟨b0,b1,b2,b3,b4,b5,b6,b7⟩:=box_all ho.box
 go_wp2_with fail
 obtain⟨c,ho⟩:∃c,OfGo B g ob W0 b v c (fieldsOf v.k) s W6:=⟨_,by rw[hk];exact ho⟩
 have hP:=ho.part
 have hbox:=ho.box
 refine (rfdone_any B g s W6 ho.rd).mono ?_
 rintro e w5 ⟨rfl,rfl⟩
 clear b0 b1 b2 b3 b4 b5 b6 b7 hk
 by_cases he:s.bad=false∧s.l=[]
 ·have f0:decide (s.bad=false∧s.l=[])=true:=decide_eq_true he
  have hmay:=rMayOp_any v c W6 ho.at_
  have HE:=hid he
  clear he
  unfold OV.val at hmay
  go_wp2_with (refine wpList_load_row hbox rfl rfl rfl (by kernel_rfl) (by kernel_rfl) ?_;go_simp)
  refine hmay.mono ?_
  rintro e w6 ⟨rfl,hb6⟩
  have ho6:=ho.later hb6
  have hbox6:=ho6.box
  obtain⟨h1,fz1,fz2⟩:=hfin w6 ho6.bel zeroV.cells
  obtain⟨_,fv1,fv2⟩:=hfin w6 ho6.bel v.cells
  have hkr:KeepB B w6 (w6.setRow w.heap.size v.cells):=by
   refine⟨⟨(below_setRow (Below.refl w.heap.size w6) (Nat.le_refl _) v.cells).size,fun k c t fr ht hk=>?_⟩,fun k h2 _=>setRow_other w6 w.heap.size k v.cells (by omega)⟩
   have hne:k≠w.heap.size:=fun e=>by
    subst e
    rw[h1] at hk
    cases hk
    rcases ht with h | h | h<;>exact absurd h (by decide)
   exact (setRow_other w6 w.heap.size k v.cells hne).trans hk
  have ha6:=ho6.at_.kpb ho6.ty hkr
  have ht6:=ho6.ty.kpb hkr
  cases hm:mayOp v c with
  | false=>
   have Hno:=hid (hP.notMay HE.out.1 HE.out.2 ho.at_ hm)
   clear hkr ha6 ht6 hP
   go_wp2_with (refine wpList_store_row h1 rfl rfl rfl rfl (by kernel_rfl) rfl (by kernel_rfl) ?_;go_simp)
   exact bodyPost_ret (w:=w6.setRow w.heap.size zeroV.cells) (results_row2 (i:=2) (j:=3) (t:=27) rfl rfl rfl (by kernel_rfl) (by kernel_rfl) fz1) rfl ⟨fz2,.inr ⟨rfl,Hno.out⟩⟩
  | true=>
   have Hyes:=hid (hP.done HE.out.1 HE.out.2)
   clear hkr hP
   go_wp2_with (first | (refine wpList_load_row hbox6 rfl rfl rfl (by kernel_rfl) (by kernel_rfl) ?_;go_simp) | (refine wpList_store_row h1 rfl rfl rfl rfl (by kernel_rfl) rfl (by kernel_rfl) ?_;go_simp))
   exact bodyPost_ret (w:=w6.setRow w.heap.size v.cells) (results_row2 (i:=2) (j:=3) (t:=27) rfl rfl rfl (by kernel_rfl) (by kernel_rfl) fv1) rfl ⟨fv2,.inl ⟨v,c,rfl,ha6,ht6,hm,Hyes.out⟩⟩
 have f0:decide (s.bad=false∧s.l=[])=false:=decide_eq_false he
 have Hno:=hid (hP.left (by
  cases hb:s.bad with
  | true=>exact .inl rfl
  | false=>exact .inr (List.length_pos_iff.2 (fun h=>he ⟨hb,h⟩))))
 obtain⟨h1,fz1,fz2⟩:=hfin W6 ho.bel zeroV.cells
 clear he hP
 go_wp2_with (refine wpList_store_row h1 rfl rfl rfl rfl (by kernel_rfl) rfl (by kernel_rfl) ?_;go_simp)
 exact bodyPost_ret (w:=W6.setRow w.heap.size zeroV.cells) (results_row2 (i:=2) (j:=3) (t:=27) rfl rfl rfl (by kernel_rfl) (by kernel_rfl) fz1) rfl ⟨fz2,.inr ⟨rfl,Hno.out⟩⟩
end Go.Proofs.YtgeafnggodkpaaaGreat.Msg
