/-
  A part of the proof.
-/
import Derived.Test.YtgeafnggodkpaaaGreatKabp
import Derived.Test.YtgeafnggodkpaaaGreatKabq
import Derived.Test.YtgeafnggodkpaaaGreatKabf
import Derived.Test.YtgeafnggodkpaaaGreatKaan
import Derived.Test.YtgeafnggodkpaaaGreatKaab
set_option maxHeartbeats 40000000
namespace Go.Proofs.YtgeafnggodkpaaaGreat.Msg
open Go.RowKit Go.Lib Go.Proofs.YtgeafnggodkpaaaGreat.Mem Go.Proofs.YtgeafnggodkpaaaGreat.Tlv
theorem RfS.grownRow {B g:Nat}{s:RS}{W W':World}{row:Option Nat}(h:RfS B g s W)(hg:W.grownBy W' row)(hr:∀k,row=some k→g≠k∧B≤k∧∃c t fr,W.heap[k]?=some (.cells c t fr)∧t≠5):RfS B g s W':=by
 cases row with
 | none=>exact h.later ⟨hg.os,hg.tape,hg.output,hg.size,fun k hk=>hg.block k hk (by simp)⟩
 | some k=>
  obtain⟨h1,h2,c,t,fr,h3,h4⟩:=hr k rfl
  exact h.grown hg h3 (fun c' fr' e=>by cases e;exact h4 rfl) h1 h2
theorem KeepB.grownRow {B M n size:Nat}{W W':World}{e:TypeId}{v:Value}{xs:List Value}(hg:W.grownBy W' v.ownBlock)(ho:W.ownsRow M e size v n xs)(hM:B≤M)(he:∀t:TypeId,(t=5∨t=9∨t=53)→e≠t):KeepB B W W':=
 ⟨kpr_row hg ho he,fun k h1 h2=>hg.block k h2 (fun e2=>by have:=(own_blk ho e2.symm).1;omega)⟩
theorem KeepB.set {B b i:Nat}{W:World}{cs:Array Value}{t:TypeId}{fr:Nat×Nat}{x:Value}(h:W.heap[b]?=some (.cells cs t fr))(hb:B≤b)(ht:∀t':TypeId,(t'=5∨t'=9∨t'=53)→t≠t'):KeepB B W (W.setCell ⟨b,i,none⟩ x):=
 ⟨kpr_set h ht,fun k h1 _=>Below.heap_setCell _ _ _ _ (by show k≠b;omega)⟩
theorem KeepN.of_belX' {B:Nat}{ys:List Nat}{a b:World}(hX:BelX a.heap.size ys a b)(hy:∀k∈ys,B≤k∧∃cs t fr,a.heap[k]?=some (.cells cs t fr)∧¬RowT t):KeepN B a b:=by
 refine⟨KeepM.of_belX hX (fun k hk=>?_),fun k h1 h2=>hX.block k h2 (fun hm=>?_)⟩
 ·obtain⟨-,cs,t,fr,h1,h2⟩:=hy k hk
  exact⟨_,h1,fun c t' fr' ht' e=>by cases e;exact h2 ht'⟩
 have:=(hy k hm).1;omega
structure StL (B M ob:Nat)(o:MV)(l:List RP)(W:World):Prop where
 ex:∃a k,W.heap[ob]?=some (rawM { o with lo:=a,ln:=l.length,lc:=k }).box∧W.ownsRow M 43 9 (.slice a l.length k) l.length (rpV l)
 each:∀p∈l,OpAt W p.1.op p.2∧OpTyB B W p.1.op∧U64R p.1
structure LgLoop (B M g ob:Nat)(o:MV)(s1:RS)(W1:World)(xs:List El)(k:Nat)(wr:World):Prop where
 X:BelX M [g,ob] W1 wr
 ex:∃(l:List RP) (okk:Bool),l.length=k∧StL B M ob o l wr∧RfS B g ⟨s1.l,s1.bad||!okk⟩ wr∧(okk=true→(∀p∈l,mayOp p.1.op p.2=true)∧reqLs l=elB (xs.take k))∧(okk=false→∃y∈elB (xs.take k),NoReq y)
structure LgS (B M g ob yb:Nat)(o:MV)(s1:RS)(W1:World)(l:List RP)(a:Option Addr)(kc:Nat)(bad:Bool)(r:RV)(x:OC)(W:World):Prop where
 X:BelX M [g,ob] W1 W
 qo:W.heap[ob]?=some (rawM { o with lo:=a,ln:=l.length,lc:=kc }).box
 own:W.ownsRow M 43 9 (.slice a l.length kc) l.length (rpV l)
 each:∀p∈l,OpAt W p.1.op p.2∧OpTyB B W p.1.op∧U64R p.1
 rf:RfS B g ⟨s1.l,bad⟩ W
 qy:W.heap[yb]?=some r.box
 oy:OpAt W r.op x
 ty:OpTyB B W r.op
 uy:U64R r
 hM:ob<M∧g<M∧M≤W.heap.size∧B≤M∧g≠ob
 hyb:M≤yb∧∀j,(Value.slice a l.length kc).ownBlock=some j→j<yb
section
variable {B M g ob yb:Nat} {o:MV} {s1:RS} {W1:World} {l:List RP} {a:Option Addr} {kc:Nat} {bad:Bool} {r:RV} {x:OC} {W W':World}
theorem LgS.cells (h:LgS B M g ob yb o s1 W1 l a kc bad r x W):W.heap[yb]?=some r.box∧W.cell? ⟨ob,23,none⟩=some (.slice a l.length kc)∧W.cell? ⟨g,1,none⟩=some (.bool bad):=⟨h.qy,(McAt.of h.qo).c23,h.rf.cell1⟩
theorem LgS.later (h:LgS B M g ob yb o s1 W1 l a kc bad r x W)(hb:Below W.heap.size W W'):LgS B M g ob yb o s1 W1 l a kc bad r x W':=
 ⟨h.X.trans ((BelX.of_below hb [g,ob]).mono h.hM.2.2.1 (fun _ hk _=>hk)),mbox_step h.qo hb,own_later h.own hb,fun p hp=>⟨(h.each p hp).1.later hb,(h.each p hp).2.1.kpb (KeepB.of_below hb),(h.each p hp).2.2⟩,h.rf.later hb,(hb.block _ (Array.getElem?_eq_some_iff.1 h.qy).1).trans h.qy,h.oy.later hb,h.ty.kpb (KeepB.of_below hb),h.uy,⟨h.hM.1,h.hM.2.1,Nat.le_trans h.hM.2.2.1 hb.size,h.hM.2.2.2⟩,h.hyb⟩
structure LgA (B M g ob yb:Nat)(o:MV)(s1:RS)(W1:World)(l:List RP)(a:Option Addr)(kc:Nat)(a4:Option Addr)(k4:Nat)(bad:Bool)(r:RV)(x:OC)(W:World):Prop where
 X:BelX M [g,ob] W1 W
 qo:W.heap[ob]?=some (rawM { o with lo:=a,ln:=l.length,lc:=kc }).box
 own:W.ownsRow M 43 9 (.slice a4 (l.length+1) k4) (l.length+1) (rpV (l++[(r,x)]))
 each:∀p∈l++[(r,x)],OpAt W p.1.op p.2∧OpTyB B W p.1.op∧U64R p.1
 rf:RfS B g ⟨s1.l,bad⟩ W
 qy:W.heap[yb]?=some r.box
 hM:ob<M∧g<M∧M≤W.heap.size∧B≤M∧g≠ob∧B≤ob∧B≤g
theorem LgA.cells {a4:Option Addr}{k4:Nat}(h:LgA B M g ob yb o s1 W1 l a kc a4 k4 bad r x W):W.heap[yb]?=some r.box∧W.cell? ⟨ob,23,none⟩=some (.slice a l.length kc)∧W.cell? ⟨g,1,none⟩=some (.bool bad):=⟨h.qy,(McAt.of h.qo).c23,h.rf.cell1⟩
theorem req_not:∀t:TypeId,(t=5∨t=9∨t=53)→43≠t:=fun t ht e=>by rcases ht with rfl|rfl|rfl<;>exact absurd e (by decide)
theorem msg_not:∀t:TypeId,(t=5∨t=9∨t=53)→74≠t:=fun t ht e=>by rcases ht with rfl|rfl|rfl<;>exact absurd e (by decide)
theorem rdr_not:∀t:TypeId,(t=5∨t=9∨t=53)→94≠t:=fun t ht e=>by rcases ht with rfl|rfl|rfl<;>exact absurd e (by decide)
theorem LgS.app {a4:Option Addr}{k4:Nat}(h:LgS B M g ob yb o s1 W1 l a kc bad r x W)(hBo:B≤ob)(hBg:B≤g)(h4:W'.ownsRow M 43 9 (.slice a4 (l.length+1) k4) (l.length+1) (rpV l++(RV.cells r).toList))(hg:W.grownBy W' (Value.slice a l.length kc).ownBlock)(hb:Below M W W'):LgA B M g ob yb o s1 W1 l a kc a4 k4 bad r x W':=by
 have hk:=KeepB.grownRow (B:=B) hg h.own h.hM.2.2.2.1 req_not
 have hey:∀j,(Value.slice a l.length kc).ownBlock=some j→j≠yb:=fun j hj=>by have:=h.hyb.2 j hj;omega
 refine⟨h.X.trans (BelX.of_below hb [g,ob]),(hb.block _ h.hM.1).trans h.qo,by rw[rpV_snoc];exact h4,fun p hp=>?_,RfS.grownRow h.rf hg (fun k hk=>?_),(hg.block _ (Array.getElem?_eq_some_iff.1 h.qy).1 (fun e=>hey _ e.symm rfl)).trans h.qy,h.hM.1,h.hM.2.1,Nat.le_trans h.hM.2.2.1 hg.size,h.hM.2.2.2.1,h.hM.2.2.2.2,hBo,hBg⟩
 ·rcases List.mem_append.1 hp with hp | hp
  ·obtain⟨e1,e2,e3⟩:=h.each p hp
   exact⟨e1.kpb e2 hk,e2.kpb hk,e3⟩
  rw[List.mem_singleton] at hp
  subst hp
  exact⟨h.oy.kpb h.ty hk,h.ty.kpb hk,h.uy⟩
 obtain⟨k1,k2,cur,k3⟩:=own_blk h.own hk
 have h1:=h.hM.2.1
 have h2:=h.hM.2.2.2.1
 exact⟨by omega,by omega,cur,_,_,k3,by decide⟩
theorem LgA.put {a4:Option Addr}{k4:Nat}(h:LgA B M g ob yb o s1 W1 l a kc a4 k4 bad r x W)(b':Bool):StL B M ob o (l++[(r,x)]) ((W.setCell ⟨ob,23,none⟩ (.slice a4 (l.length+1) k4)).setCell ⟨g,1,none⟩ (.bool b'))∧RfS B g ⟨s1.l,b'⟩ ((W.setCell ⟨ob,23,none⟩ (.slice a4 (l.length+1) k4)).setCell ⟨g,1,none⟩ (.bool b'))∧BelX M [g,ob] W1 ((W.setCell ⟨ob,23,none⟩ (.slice a4 (l.length+1) k4)).setCell ⟨g,1,none⟩ (.bool b')) ∧
  (W.setCell ⟨ob,23,none⟩ (.slice a4 (l.length+1) k4)).cell? ⟨g,1,none⟩=some (.bool bad)∧(W.setCell ⟨ob,23,none⟩ (.slice a4 (l.length+1) k4)).frozen? ⟨g,1,none⟩=false:=by
 obtain⟨m1,m2,m3,m4,m5,m6,m7⟩:=h.hM
 have eln:(l++[(r,x)]).length=l.length+1:=by simp
 have q1:(W.setCell ⟨ob,23,none⟩ (.slice a4 (l.length+1) k4)).heap[ob]?=some (rawM { o with lo:=a4,ln:=(l++[(r,x)]).length,lc:=k4 }).box:=by rw[eln];exact (at_set h.qo).trans (by kernel_rfl)
 have rf1:RfS B g ⟨s1.l,bad⟩ (W.setCell ⟨ob,23,none⟩ (.slice a4 (l.length+1) k4)):=h.rf.grown (grown_set _ _ _ _) h.qo (TkM.not_u8 rowT_not_msg) m5 m6
 have hk1:KeepB B W (W.setCell ⟨ob,23,none⟩ (.slice a4 (l.length+1) k4)):=KeepB.set h.qo m6 msg_not
 obtain⟨cs,hcs⟩:=rf1.at_
 have hk2:KeepB B (W.setCell ⟨ob,23,none⟩ (.slice a4 (l.length+1) k4)) ((W.setCell ⟨ob,23,none⟩ (.slice a4 (l.length+1) k4)).setCell ⟨g,1,none⟩ (.bool b')):=KeepB.set hcs m7 rdr_not
 refine⟨⟨⟨a4,k4,at_other q1 (fun e=>m5 e.symm),?_⟩,fun p hp=>?_⟩,rf1.flag b',(h.X.set _ _ _ (.inl (by simp))).set _ _ _ (.inl (by simp)),rf1.cell1,rf1.fz1⟩
 ·rw[eln]
  exact own_kept (own_kept h.own (fun k hk=>Below.heap_setCell _ _ _ _ (by have:=(own_blk h.own hk).1;show k≠ob;omega))) (fun k hk=>Below.heap_setCell _ _ _ _ (by have:=(own_blk h.own hk).1;show k≠g;omega))
 obtain⟨e1,e2,e3⟩:=h.each p hp
 have e1':=e1.kpb e2 hk1
 have e2':=e2.kpb hk1
 exact⟨e1'.kpb e2' hk2,e2'.kpb hk2,e3⟩
end
set_option maxRecDepth 100000 in
theorem sw_log:SwSt (.int .u8 13) 108 (fun o=>o.lo=none∧o.ln=0∧o.lc=0):=by
 intro K J Q' B g ob nb rb w T l8 tc o c s V0 hz h hl
 intros
 rename_i h2 hQP hJ
 conv=>arg 2;whnf
 have hmo:Tryz.prog.follows .mixedOrders=true:=by kernel_rfl
 have HZ:=hid hz
 have H:=hid h
 have hlt:=h.lt.1
 have hgw:=h.gw
 have hwo:=h.wo
 have hsz:=h.X.size
 have hBg:=h.Bg
 have hli:=rflist_any B g s 13 1 V0 (by decide) (by decide) h.rf hl
 clear hz h
 go_wp2_with fail
 refine hli.mono ?_
 rintro e W1 ⟨a6,c6,xs,s1,rfl,hrd,hall,hfr,hln,hsm,hR,hg,T3⟩
 have h1:=H.out.grown hg hR
 have HT:=hid T3
 have hM:V0.heap.size≤W1.heap.size:=hg.size
 have hne6:∀a,a6=some a→a.block≠g∧a.block≠ob:=fun a ha=>by have:=hfr a ha;omega
 have HSh:Hid (s1.bad=false→(ofTag 1 (elB xs)).length≤4194304):=hid (fun hb=>(HT.out.yes hb).2.2)
 have q0:=h1.q
 have hst0:LgLoop B W1.heap.size g ob o s1 W1 xs 0 W1:=⟨BelX.refl _ _ _,[],true,rfl,⟨⟨none,0,by
   have e:({ o with lo:=none,ln:=([]:List RP).length,lc:=0 }:MV)=o:=by
    obtain⟨z1,z2,z3⟩:=HZ.out
    cases o
    dsimp only at z1 z2 z3
    subst z1 z2 z3
    rfl
   rw[e];exact q0,World.ownsRow_nil _ _ _ _⟩,fun p hp=>(by cases hp)⟩,(by
   have e:(⟨s1.l,s1.bad||!true⟩:RS)=s1:=by cases s1;simp
   rw[e];exact hR),fun _=>⟨fun p hp=>(by cases hp),rfl⟩,fun e=>(by cases e)⟩
 have H1:=hid h1
 have hBo:B≤ob:=by omega
 have hgo:g≠ob:=by omega
 have hzo:ob<W1.heap.size:=by omega
 have hzg:g<W1.heap.size:=by omega
 have hBM:B≤W1.heap.size:=by omega
 obtain⟨cg,hcg⟩:=hR.at_
 clear hli hR hg T3 hfr h1 H
 go_wp2_with fail
 obtain⟨M,hMM⟩:∃M,W1.heap.size=M:=⟨_,rfl⟩
 rw[hMM] at hst0 hzo hzg hBM
 have HM:=hid hMM
 clear hMM hM
 go_loopw [16] (fun p wk=>∃k:Nat,k≤xs.length∧p=.int .i64 (k:Int)∧LgLoop B M g ob o s1 W1 xs k wk) (fun p _=>xs.length-(intOf p).toNat)
 case atStart=>exact⟨0,Nat.zero_le _,rfl,hst0⟩
 case round=>
  obtain⟨k,hk,rfl,hL⟩:=hrel
  clear hst0
  obtain⟨l,okk,hlk,hS,hrf,ho1,ho2⟩:=hL.ex
  have HO:=hid (And.intro ho1 ho2)
  have hX:=hL.X
  obtain⟨⟨a,kc,qo,own⟩,hE⟩:=hS
  subst hlk
  clear hL ho1 ho2
  have hMr:M≤wr.heap.size:=by have:=hX.size;have:=HM.out;omega
  have hkn:KeepN B W1 wr:=KeepN.of_belX' (HM.out▸hX) (fun j hj=>by
   simp only[List.mem_cons,List.not_mem_nil,or_false] at hj
   rcases hj with rfl|rfl
   ·exact⟨hBg,_,_,_,hcg,rowT_not_rf⟩
   exact⟨hBo,_,_,_,q0,rowT_not_msg⟩)
  have hrl:Rd wr 1 a6 xs.length c6 (lsV xs):=rd_belX hrd hX (fun h0 y hy=>⟨HM.out▸hrd.lt h0 y hy,by simp only[List.mem_cons,List.not_mem_nil,or_false,not_or];exact hne6 y hy⟩)
  by_cases hlx:l.length<xs.length
  ·obtain⟨b1,o1,hao,hl1,hc1⟩:=hrl.some (by have:=hrl.le;omega)
   obtain⟨u,hue⟩:∃u,xs[l.length]?=some u:=⟨_,List.getElem?_eq_getElem hlx⟩
   have hum:=List.mem_of_getElem? hue
   have c1:=hc1 _ _ (lsV_at xs l.length u hue)
   have c2:wr.cell? ⟨b1,o1+l.length*1,none⟩=some (.slice u.ao u.it.2.length u.cap):=by rw[Nat.mul_one];exact c1
   have hru:=rd_kpb (hall u hum).1 (hall u hum).2 hkn.kb
   have htu:=TyB.kpb (hall u hum).2 hkn.kb
   have hul:u.it.2.length≤4194304:=hsm u hum
   have HU:=hid hue
   have i0:(0:Int)≤(l.length:Int):=by omega
   have i1:(l.length:Int)<(xs.length:Int):=by omega
   have hBr:B≤wr.heap.size:=by omega
   have hn6:=hid hne6
   have hal:=hid hall
   have hsl:=hid hsm
   subst hao
   clear hc1 hue hum hne6 hall hsm hrl hl1 hkn
   go_wp2_with fail
   refine (rRequestOf_any B u.it.2 u.ao _ u.cap wr hru hBr htu (by omega)).mono ?_
   rintro e W2 hA
   obtain⟨ok,r,x,rfl,oY,tY,uY,hb2,hans⟩:=req_ansR hA
   have HA:=hid hans
   clear hA hans hru htu c1 c2
   unfold RV.val RV.cells
   go_upto_region 29 with (refine wpList_store_new rfl rfl rfl rfl (by kernel_rfl) rfl (by kernel_rfl) ?_;go_simp)
   generalize hg:W2.alloc _=W3
   have e3:W2.alloc r.box=W3:=hg
   have hb3':Below W2.heap.size W2 W3:=by rw[←e3];exact (Below.refl _ _).alloc (Nat.le_refl _) _
   have q3:W3.heap[W2.heap.size]?=some r.box:=by rw[←e3];exact at_new _ _
   have hb3:=hb2.trans (hb3'.mono hb2.size)
   obtain⟨bad,hbad⟩:∃bad,(s1.bad||!okk)=bad:=⟨_,rfl⟩
   rw[hbad] at hrf
   have HB:=hid hbad
   have s3:LgS B M g ob W2.heap.size o s1 W1 l a kc bad r x W3:=⟨hX.trans ((BelX.of_below hb3 [g,ob]).mono hMr (fun _ hk _=>hk)),mbox_step qo hb3,own_later own hb3,fun p hp=>⟨(hE p hp).1.later hb3,(hE p hp).2.1.kpb (KeepB.of_below hb3),(hE p hp).2.2⟩,hrf.later hb3,q3,oY.later hb3',tY.kpb (KeepB.of_below hb3'),uY,⟨hzo,hzg,by have:=hb3.size;omega,hBM,hgo⟩,⟨by have:=hb2.size;omega,fun j hj=>by have:=(own_blk own hj).2.1;have:=hb2.size;omega⟩⟩
   clear hg e3 hb3' hb3 hb2 q3 hbad hrf qo own hE hX oY tY uY hMr hBr
   generalize W2.heap.size=yb at *
   refine wp_region_T (k:=15) (S:=fun W=>W.heap[yb]?=some r.box∧W.cell? ⟨ob,23,none⟩=some (.slice a l.length kc)∧W.cell? ⟨g,1,none⟩=some (.bool bad)) hmo ?_
   change wpAnyT _ _ _ _ _ _ _ _ _ (World.drew W3)
   have hd:Below W3.heap.size W3 W3.drew:=(Below.refl _ _).drew
   have s0:=s3.later hd
   generalize World.drew W3=X0 at *
   clear hd s3
   have t0:=s0.cells
   cases bad with
   | true=>
    refine wpAnyT_take0 (i:=0) (v:=.pointer (some ⟨g,0,none⟩)) rfl (by kernel_rfl) (by kernel_rfl) (by kernel_rfl) (by decide) (fun ch a1 w1 h=>hQP ch a1 _ _ w1 h) (Or.inl ⟨by kernel_rfl,by intro _ _;kernel_rfl⟩) (.inr t0) ?_
    go_simp
    refine zTq 1 (.pointer (some ⟨ob,23,none⟩)) rfl (fun a b c h=>hQP a b _ _ c h) t0 ?_
    go_simp
    refine wpAnyT_take (i:=2) (v:=.slice a l.length kc) rfl (by kernel_rfl) (by kernel_rfl) (by kernel_rfl) (by kernel_rfl) (by decide) (by kernel_rfl) (by kernel_rfl) (fun ch a1 w1 h=>hQP ch a1 _ _ w1 h) (Or.inl ⟨by kernel_rfl,by rintro w2 h2;have cc:=h2.2.1;have cd:=h2.2.2;go_simp⟩) t0 ?_
    go_simp
    refine wpAnyT_take (i:=3) (v:=.agg #[.int .u64 r.cl,.int .u64 r.nu,.int .i64 r.op.k,.string r.op.name,.string r.op.to,.slice r.op.ao r.op.an r.op.ac,.slice r.op.bo r.op.bn r.op.bc,.slice r.op.co r.op.cn r.op.cc,.int .i64 r.op.n]) rfl (by kernel_rfl) (by kernel_rfl) (by kernel_rfl) (by kernel_rfl) (by decide) (by kernel_rfl) (by kernel_rfl) (fun ch a1 w1 h=>hQP ch a1 _ _ w1 h) (Or.inl ⟨by kernel_rfl,by rintro w2 h2;have cc:=h2.2.1;have cd:=h2.2.2;exact exec_load_row (cs:=r.cells) h2.1 rfl rfl (by kernel_rfl) (by kernel_rfl)⟩) t0 ?_
    go_simp
    refine zTq 6 (.pointer (some ⟨g,0,none⟩)) rfl (fun a b c h=>hQP a b _ _ c h) t0 ?_
    go_simp
    refine zTq 7 (.pointer (some ⟨g,0,none⟩)) rfl (fun a b c h=>hQP a b _ _ c h) t0 ?_
    go_simp
    refine zTq 8 (.pointer (some ⟨g,1,none⟩)) rfl (fun a b c h=>hQP a b _ _ c h) t0 ?_
    go_simp
    refine wpAnyT_take (i:=9) (v:=.bool true) rfl (by kernel_rfl) (by kernel_rfl) (by kernel_rfl) (by kernel_rfl) (by decide) (by kernel_rfl) (by kernel_rfl) (fun ch a1 w1 h=>hQP ch a1 _ _ w1 h) (Or.inl ⟨by kernel_rfl,by rintro w2 h2;have cc:=h2.2.1;have cd:=h2.2.2;go_simp⟩) t0 ?_
    go_simp
    refine zT1 4 rfl (fun K hK=>?_)
    go_simp
    obtain⟨V,hV⟩:∃V,X0.alloc (.cells (RV.cells r) 43)=V:=⟨_,rfl⟩
    have hbV:Below X0.heap.size X0 V:=by rw[←hV];exact (Below.refl _ _).alloc (Nat.le_refl _) _
    have qV:V.heap[X0.heap.size]?=some (.cells (RV.cells r) 43):=by rw[←hV];exact at_new _ _
    have rV:Rd V 9 (some ⟨X0.heap.size,0,none⟩) 1 1 (RV.cells r).toList:=by rw[←hV];exact Rd.new X0 (RV.cells r).toList 43 (0,0) 9 1 rfl (by unfold maxLen;omega)
    have sV:=s0.later hbV
    have t1:=sV.cells
    unfold RV.cells at hV
    rw[hV]
    refine hK _ _ ⟨.inr t1,?_⟩
    clear hK K hV hbV qV s0 t0
    refine zT1 5 rfl (fun K hK=>?_)
    refine step_app2 rfl (.tmp 125) (.tmp 127) 71 rfl M 43 zeroR.val 9 136 sliceT_rq (.slice a l.length kc) l.length (rpV l) rfl sV.own (some ⟨X0.heap.size,0,none⟩) 1 1 (RV.cells r).toList rfl rV (rq_one r) (by unfold maxLen;omega) (by omega) sV.hM.2.2.1 ?_
    intro a4 k4 V4 own4 hg4 hb4 _
    have s4:=sV.app hBo hBg own4 hg4 hb4
    have t2:=s4.cells
    refine hK _ _ ⟨.inr t2,?_⟩
    clear hK K own4 hg4 hb4 rV sV t1
    refine zTq 10 (.bool true) rfl (fun a b c h=>hQP a b _ _ c h) t2 ?_
    go_simp
    refine wpAnyT_take0 (i:=11) (v:=undef) rfl (by kernel_rfl) (by kernel_rfl) (by kernel_rfl) (by decide) (fun ch a1 w1 h=>hQP ch a1 _ _ w1 h) (Or.inr ⟨by kernel_rfl,rfl⟩) (.inr t2) ?_
    go_simp
    refine wpAnyT_take0 (i:=12) (v:=undef) rfl (by kernel_rfl) (by kernel_rfl) (by kernel_rfl) (by decide) (fun ch a1 w1 h=>hQP ch a1 _ _ w1 h) (Or.inr ⟨by kernel_rfl,rfl⟩) (.inr t2) ?_
    go_simp
    refine wpAnyT_take0 (i:=13) (v:=.bool true) rfl (by kernel_rfl) (by kernel_rfl) (by kernel_rfl) (by decide) (fun ch a1 w1 h=>hQP ch a1 _ _ w1 h) (Or.inl ⟨by kernel_rfl,by intro _ _;kernel_rfl⟩) (.inr t2) ?_
    go_simp
    refine zTq 14 (.pointer (some ⟨ob,23,none⟩)) rfl (fun a b c h=>hQP a b _ _ c h) t2 ?_
    go_simp
    obtain⟨p1,p2,p3,p4,p5⟩:=s4.put true
    have cO:=(McAt.of s4.qo).c23
    have zO:=mfrozen s4.qo 23
    refine wpAnyT_last (by kernel_rfl) (by kernel_rfl) ?_
    refine zA1 15 rfl (fun K hK=>?_)
    go_simp
    refine hK _ _ ?_
    clear hK K cO zO t2
    refine zA1 16 rfl (fun K hK=>?_)
    go_simp
    refine hK _ _ ?_
    clear hK K
    refine zA1 17 rfl (fun K hK=>?_)
    go_simp
    refine hK _ _ ?_
    clear hK K
    refine zA1 18 rfl (fun K hK=>?_)
    go_simp
    refine hK _ _ ?_
    clear hK K
    refine wpAny_done (by kernel_rfl) ?_ _
    have P:=hid (And.intro p1 (And.intro p2 p3))
    clear p1 p2 p3 p4 p5 s4
    generalize World.setCell _ ⟨g,1,none⟩ _=X9 at *
    go_wp2_with fail
    go_roundw
    case rel=>
     refine⟨l.length+1,by omega,by go_num,P.out.2.2,l++[(r,x)],okk&&ok,by simp,P.out.1,?_,?_,?_⟩
     ·have h1:=P.out.2.1
      have e:true=(s1.bad||!(okk&&ok)):=by
       have hb:=HB.out
       revert hb
       cases s1.bad<;>cases okk<;>cases ok<;>decide
      rw[←e];exact h1
     ·intro hh
      rw[Bool.and_eq_true] at hh
      obtain⟨m1,m2⟩:=HO.out.1 hh.1
      rcases HA.out with ⟨-,a2,a3⟩ | ⟨a1,-⟩
      ·refine⟨fun p hp=>?_,?_⟩
       ·rcases List.mem_append.1 hp with hp | hp
        ·exact m1 p hp
        rw[List.mem_singleton] at hp;subst hp;exact a2
       rw[List.take_add_one,HU.out,Option.toList_some,elB_snoc,←m2,←a3]
       simp[reqLs]
      rw[a1] at hh;cases hh.2
     intro hh
     rw[List.take_add_one,HU.out,Option.toList_some,elB_snoc]
     cases ho:okk with
     | false=>
      obtain⟨y,y1,y2⟩:=HO.out.2 ho
      exact⟨y,List.mem_append_left _ y1,y2⟩
     | true=>
      rcases HA.out with ⟨a1,-⟩ | ⟨-,a2⟩
      ·rw[ho,a1] at hh;cases hh
      exact⟨u.it.2,List.mem_append_right _ (List.mem_singleton.2 rfl),a2⟩
    case measure=>simp[intOf];omega
   | false=>
    refine wpAnyT_take0 (i:=0) (v:=.pointer (some ⟨g,0,none⟩)) rfl (by kernel_rfl) (by kernel_rfl) (by kernel_rfl) (by decide) (fun ch a1 w1 h=>hQP ch a1 _ _ w1 h) (Or.inl ⟨by kernel_rfl,by intro _ _;kernel_rfl⟩) (.inr t0) ?_
    go_simp
    refine zTq 1 (.pointer (some ⟨ob,23,none⟩)) rfl (fun a b c h=>hQP a b _ _ c h) t0 ?_
    go_simp
    refine wpAnyT_take (i:=2) (v:=.slice a l.length kc) rfl (by kernel_rfl) (by kernel_rfl) (by kernel_rfl) (by kernel_rfl) (by decide) (by kernel_rfl) (by kernel_rfl) (fun ch a1 w1 h=>hQP ch a1 _ _ w1 h) (Or.inl ⟨by kernel_rfl,by rintro w2 h2;have cc:=h2.2.1;have cd:=h2.2.2;go_simp⟩) t0 ?_
    go_simp
    refine wpAnyT_take (i:=3) (v:=.agg #[.int .u64 r.cl,.int .u64 r.nu,.int .i64 r.op.k,.string r.op.name,.string r.op.to,.slice r.op.ao r.op.an r.op.ac,.slice r.op.bo r.op.bn r.op.bc,.slice r.op.co r.op.cn r.op.cc,.int .i64 r.op.n]) rfl (by kernel_rfl) (by kernel_rfl) (by kernel_rfl) (by kernel_rfl) (by decide) (by kernel_rfl) (by kernel_rfl) (fun ch a1 w1 h=>hQP ch a1 _ _ w1 h) (Or.inl ⟨by kernel_rfl,by rintro w2 h2;have cc:=h2.2.1;have cd:=h2.2.2;exact exec_load_row (cs:=r.cells) h2.1 rfl rfl (by kernel_rfl) (by kernel_rfl)⟩) t0 ?_
    go_simp
    refine zTq 6 (.pointer (some ⟨g,0,none⟩)) rfl (fun a b c h=>hQP a b _ _ c h) t0 ?_
    go_simp
    refine zTq 7 (.pointer (some ⟨g,0,none⟩)) rfl (fun a b c h=>hQP a b _ _ c h) t0 ?_
    go_simp
    refine zTq 8 (.pointer (some ⟨g,1,none⟩)) rfl (fun a b c h=>hQP a b _ _ c h) t0 ?_
    go_simp
    refine wpAnyT_take (i:=9) (v:=.bool false) rfl (by kernel_rfl) (by kernel_rfl) (by kernel_rfl) (by kernel_rfl) (by decide) (by kernel_rfl) (by kernel_rfl) (fun ch a1 w1 h=>hQP ch a1 _ _ w1 h) (Or.inl ⟨by kernel_rfl,by rintro w2 h2;have cc:=h2.2.1;have cd:=h2.2.2;go_simp⟩) t0 ?_
    go_simp
    refine zT1 4 rfl (fun K hK=>?_)
    go_simp
    obtain⟨V,hV⟩:∃V,X0.alloc (.cells (RV.cells r) 43)=V:=⟨_,rfl⟩
    have hbV:Below X0.heap.size X0 V:=by rw[←hV];exact (Below.refl _ _).alloc (Nat.le_refl _) _
    have qV:V.heap[X0.heap.size]?=some (.cells (RV.cells r) 43):=by rw[←hV];exact at_new _ _
    have rV:Rd V 9 (some ⟨X0.heap.size,0,none⟩) 1 1 (RV.cells r).toList:=by rw[←hV];exact Rd.new X0 (RV.cells r).toList 43 (0,0) 9 1 rfl (by unfold maxLen;omega)
    have sV:=s0.later hbV
    have t1:=sV.cells
    unfold RV.cells at hV
    rw[hV]
    refine hK _ _ ⟨.inr t1,?_⟩
    clear hK K hV hbV qV s0 t0
    refine zT1 5 rfl (fun K hK=>?_)
    refine step_app2 rfl (.tmp 125) (.tmp 127) 71 rfl M 43 zeroR.val 9 136 sliceT_rq (.slice a l.length kc) l.length (rpV l) rfl sV.own (some ⟨X0.heap.size,0,none⟩) 1 1 (RV.cells r).toList rfl rV (rq_one r) (by unfold maxLen;omega) (by omega) sV.hM.2.2.1 ?_
    intro a4 k4 V4 own4 hg4 hb4 _
    have s4:=sV.app hBo hBg own4 hg4 hb4
    have t2:=s4.cells
    refine hK _ _ ⟨.inr t2,?_⟩
    clear hK K own4 hg4 hb4 rV sV t1
    refine zTq 10 (.bool false) rfl (fun a b c h=>hQP a b _ _ c h) t2 ?_
    go_simp
    refine wpAnyT_take0 (i:=11) (v:=.bool ok) rfl (by kernel_rfl) (by kernel_rfl) (by kernel_rfl) (by decide) (fun ch a1 w1 h=>hQP ch a1 _ _ w1 h) (Or.inl ⟨by kernel_rfl,by intro _ _;kernel_rfl⟩) (.inr t2) ?_
    go_simp
    refine wpAnyT_take0 (i:=12) (v:=.bool (!ok)) rfl (by kernel_rfl) (by kernel_rfl) (by kernel_rfl) (by decide) (fun ch a1 w1 h=>hQP ch a1 _ _ w1 h) (Or.inl ⟨by kernel_rfl,by intro _ _;kernel_rfl⟩) (.inr t2) ?_
    go_simp
    refine wpAnyT_take0 (i:=13) (v:=.bool (!ok)) rfl (by kernel_rfl) (by kernel_rfl) (by kernel_rfl) (by decide) (fun ch a1 w1 h=>hQP ch a1 _ _ w1 h) (Or.inl ⟨by kernel_rfl,by intro _ _;kernel_rfl⟩) (.inr t2) ?_
    go_simp
    refine zTq 14 (.pointer (some ⟨ob,23,none⟩)) rfl (fun a b c h=>hQP a b _ _ c h) t2 ?_
    go_simp
    obtain⟨p1,p2,p3,p4,p5⟩:=s4.put (!ok)
    have cO:=(McAt.of s4.qo).c23
    have zO:=mfrozen s4.qo 23
    refine wpAnyT_last (by kernel_rfl) (by kernel_rfl) ?_
    refine zA1 15 rfl (fun K hK=>?_)
    go_simp
    refine hK _ _ ?_
    clear hK K cO zO t2
    refine zA1 16 rfl (fun K hK=>?_)
    go_simp
    refine hK _ _ ?_
    clear hK K
    refine zA1 17 rfl (fun K hK=>?_)
    go_simp
    refine hK _ _ ?_
    clear hK K
    refine zA1 18 rfl (fun K hK=>?_)
    go_simp
    refine hK _ _ ?_
    clear hK K
    refine wpAny_done (by kernel_rfl) ?_ _
    have P:=hid (And.intro p1 (And.intro p2 p3))
    clear p1 p2 p3 p4 p5 s4
    generalize World.setCell _ ⟨g,1,none⟩ _=X9 at *
    go_wp2_with fail
    go_roundw
    case rel=>
     refine⟨l.length+1,by omega,by go_num,P.out.2.2,l++[(r,x)],okk&&ok,by simp,P.out.1,?_,?_,?_⟩
     ·have h1:=P.out.2.1
      have e:(!ok)=(s1.bad||!(okk&&ok)):=by
       have hb:=HB.out
       revert hb
       cases s1.bad<;>cases okk<;>cases ok<;>decide
      rw[←e];exact h1
     ·intro hh
      rw[Bool.and_eq_true] at hh
      obtain⟨m1,m2⟩:=HO.out.1 hh.1
      rcases HA.out with ⟨-,a2,a3⟩ | ⟨a1,-⟩
      ·refine⟨fun p hp=>?_,?_⟩
       ·rcases List.mem_append.1 hp with hp | hp
        ·exact m1 p hp
        rw[List.mem_singleton] at hp;subst hp;exact a2
       rw[List.take_add_one,HU.out,Option.toList_some,elB_snoc,←m2,←a3]
       simp[reqLs]
      rw[a1] at hh;cases hh.2
     intro hh
     rw[List.take_add_one,HU.out,Option.toList_some,elB_snoc]
     cases ho:okk with
     | false=>
      obtain⟨y,y1,y2⟩:=HO.out.2 ho
      exact⟨y,List.mem_append_left _ y1,y2⟩
     | true=>
      rcases HA.out with ⟨a1,-⟩ | ⟨-,a2⟩
      ·rw[ho,a1] at hh;cases hh
      exact⟨u.it.2,List.mem_append_right _ (List.mem_singleton.2 rfl),a2⟩
    case measure=>simp[intOf];omega
  have hke:l.length=xs.length:=by omega
  have HO1:Hid ((okk=true→(∀p∈l,mayOp p.1.op p.2=true)∧reqLs l=elB xs)∧(okk=false→∃y∈elB xs,NoReq y)):=hid (by
   have h1:=HO.out
   rw[hke,List.take_of_length_le (Nat.le_refl _)] at h1
   exact h1)
  have aX:=H1.out.at_.kpn H1.out.ty hkn
  have yX:=H1.out.ty.kpn hkn
  have hu:=H1.out.u
  have hT:TkM B g ob nb rb w T l8 tc (setF 108 o { o with lo:=a,ln:=l.length,lc:=kc }) (setC 108 c { c with log:=l }) ⟨s1.l,s1.bad||!okk⟩ wr:=
   H1.out.turn hkn (HM.out▸hX) (fun j hj=>by simp only[List.mem_cons,List.not_mem_nil,or_false] at hj;rcases hj with rfl|rfl;exact .inr (.inl rfl);exact .inl rfl) hrf qo rfl rfl
    ⟨aX.rq,aX.rs,aX.sn,⟨Rd.of_own_slice own,fun p hp=>(hE p hp).1⟩,aX.se,aX.ls,aX.lh⟩ ⟨hu.vi,hu.no,hu.cl,hu.nu,hu.at_,hu.cm,hu.bs,hu.nc,hu.rq,fun p hp=>(hE p hp).2.2,hu.seen⟩ ⟨yX.rq,yX.rs,yX.sn,TyX.of_own own,fun p hp=>(hE p hp).2.1,yX.ho⟩
  have hS:StepX 108 s (setF 108 o { o with lo:=a,ln:=l.length,lc:=kc }) (setC 108 c { c with log:=l }) ⟨s1.l,s1.bad||!okk⟩:=step_log HT.out (fun h=>HO1.out.1 h) (fun h=>HO1.out.2 h)
  have HTT:=hid hT
  have HSS:=hid hS
  clear hT hS aX yX hu hE own qo hrf hX hrl hkn HO
  go_wp2_with fail
  refine Met.intro ?_
  apply hJ
  exact⟨_,_,_,HTT.out,HSS.out⟩
theorem seenB_app (l m:List Nat):seenB (l++m)=seenB l++seenB m:=by simp[seenB]
theorem seenB_split:∀(l l':List Nat) (r:List UInt8),(∀n∈l,n<18446744073709551616)→(∀n∈l',n<18446744073709551616)→seenB l'=seenB l++r→∃m:List Nat,(∀n∈m,n<18446744073709551616)∧r=seenB m
 | [],l',r,_,hl',h=>⟨l',hl',by rw[h];rfl⟩
 | n::l,[],r,_,_,h=>by
  have:=congrArg List.length h
  rw[seenB_cons,List.length_append,List.length_append,val_len] at this
  simp[seenB] at this
  omega
 | n::l,n'::l',r,hl,hl',h=>by
  rw[seenB_cons,seenB_cons,List.append_assoc] at h
  obtain⟨-,h2⟩:=val_inj (by decide) (by rw[num8_len];omega) (by rw[num8_len];omega) h
  exact seenB_split l l' r (fun k hk=>hl k (by simp[hk])) (fun k hk=>hl' k (by simp[hk])) h2
structure SnR (y:List UInt8)(l:List Nat)(q:RS):Prop where
 u:∀n∈l,n<18446744073709551616
 yes:q.bad=false→y=seenB l++q.l
 no:q.bad=true→∀l':List Nat,(∀n∈l',n<18446744073709551616)→seenB l'≠y
 le:q.l.length≤y.length
 len:13*l.length≤y.length+13
theorem SnR.next {y:List UInt8}{l:List Nat}{q q':RS}{n:Nat}(h:SnR y l q)(T:Took (fun n:Nat=>val 1 (num8 n)) (fun n=>n<18446744073709551616) (fun n=>n<18446744073709551616) q n q')(hn:n<18446744073709551616)(hb:q.bad=false)(h0:0<q.l.length):SnR y (l++[n]) q' where
 u:=fun k hk=>by
  rcases List.mem_append.1 hk with hk | hk
  ·exact h.u k hk
  rw[List.mem_singleton] at hk;rw[hk];exact hn
 yes:=fun hq=>by
  obtain⟨-,e,-⟩:=T.yes hq
  rw[seenB_app,h.yes hb,e,List.append_assoc]
  simp[seenB]
 no:=fun hq l' hl' e=>by
  rw[h.yes hb] at e
  obtain⟨m,hm,em⟩:=seenB_split l l' q.l h.u hl' e
  cases m with
  | nil=>rw[em] at h0;simp[seenB] at h0
  | cons k m=>
   rcases T.no hq with h1 | h1
   ·rw[hb] at h1;cases h1
   exact h1 k (seenB m) (hm k (by simp)) (by rw[em,seenB_cons])
 le:=Nat.le_trans T.le h.le
 len:=by
  have h2:=congrArg List.length (h.yes hb)
  rw[List.length_append,seenB_len] at h2
  rw[List.length_append,List.length_singleton]
  omega
theorem u64T:SliceT Tryz.prog 72 41 (.int .u64 0) 1 8:=⟨Tryz.underlying72,by kernel_rfl,rfl,by decide⟩
structure SnL (B M ob sb:Nat)(o:MV)(W1:World)(y:List UInt8)(l:List Nat)(a:Option Addr)(kc:Nat)(q:RS)(W:World):Prop where
 X:BelX M [ob,sb] W1 W
 R:SnR y l q
 qo:W.heap[ob]?=some (rawM { o with ho:=a,hn:=l.length,hc:=kc }).box
 own:W.ownsRow M 41 1 (.slice a l.length kc) l.length (u64V l)
 rf:RfS B sb q W
 hM:ob<M∧sb<M∧M≤W.heap.size∧B≤M∧sb≠ob∧B≤ob
section
variable {B M ob sb:Nat} {o:MV} {W1:World} {y:List UInt8} {l:List Nat} {a:Option Addr} {kc:Nat} {q:RS} {W W':World}
theorem SnL.later (h:SnL B M ob sb o W1 y l a kc q W)(hb:Below W.heap.size W W'):SnL B M ob sb o W1 y l a kc q W':=
 ⟨h.X.trans ((BelX.of_below hb [ob,sb]).mono h.hM.2.2.1 (fun _ hk _=>hk)),h.R,mbox_step h.qo hb,own_later h.own hb,h.rf.later hb,h.hM.1,h.hM.2.1,Nat.le_trans h.hM.2.2.1 hb.size,h.hM.2.2.2⟩
structure SnN (B M ob sb:Nat)(o:MV)(W1:World)(l:List Nat)(a:Option Addr)(kc:Nat)(q:RS)(W:World):Prop where
 X:BelX M [ob,sb] W1 W
 qo:W.heap[ob]?=some (rawM { o with ho:=a,hn:=l.length,hc:=kc }).box
 own:W.ownsRow M 41 1 (.slice a l.length kc) l.length (u64V l)
 rf:RfS B sb q W
 hM:ob<M∧sb<M∧M≤W.heap.size∧B≤M∧sb≠ob∧B≤ob
theorem SnN.later (h:SnN B M ob sb o W1 l a kc q W)(hb:Below W.heap.size W W'):SnN B M ob sb o W1 l a kc q W':=
 ⟨h.X.trans ((BelX.of_below hb [ob,sb]).mono h.hM.2.2.1 (fun _ hk _=>hk)),mbox_step h.qo hb,own_later h.own hb,h.rf.later hb,h.hM.1,h.hM.2.1,Nat.le_trans h.hM.2.2.1 hb.size,h.hM.2.2.2⟩
theorem SnL.num {q':RS}(h:SnL B M ob sb o W1 y l a kc q W)(hg:W.grownBy W' (some sb))(hr:RfS B sb q' W'):SnN B M ob sb o W1 l a kc q' W':=by
 obtain⟨m1,m2,m3,m4,m5,m6⟩:=h.hM
 have hX:BelX W.heap.size [sb] W W':=BelX.of_grown hg
 exact⟨h.X.trans (hX.mono m3 (fun k hk _=>by simp only[List.mem_singleton] at hk;simp[hk])),hX.at_ h.qo (by omega) (by simpa using fun e=>m5 e.symm),own_kept h.own (fun k hk=>by
  have h1:=own_blk h.own hk
  exact hX.block k h1.2.1 (by simp only[List.mem_singleton];omega)),hr,m1,m2,Nat.le_trans m3 hX.size,m4,m5,m6⟩
theorem SnN.c26 (h:SnN B M ob sb o W1 l a kc q W):W.cell? ⟨ob,26,none⟩=some (.slice a l.length kc):=(McAt.of h.qo).c26
theorem SnN.app {a4:Option Addr}{k4 n:Nat}(h:SnN B M ob sb o W1 l a kc q W)(h4:W'.ownsRow M 41 1 (.slice a4 (l.length+1) k4) (l.length+1) (u64V l++[.int .u64 (n:Int)]))(hg:W.grownBy W' (Value.slice a l.length kc).ownBlock)(hb:Below M W W')(R:SnR y (l++[n]) q) :
  W'.cell? ⟨ob,26,none⟩=some (.slice a l.length kc)∧W'.frozen? ⟨ob,26,none⟩=false∧SnL B M ob sb o W1 y (l++[n]) a4 k4 q (W'.setCell ⟨ob,26,none⟩ (.slice a4 (l.length+1) k4)):=by
 obtain⟨m1,m2,m3,m4,m5,m6⟩:=h.hM
 have q1:=(hb.block _ m1).trans h.qo
 have rf1:RfS B sb q W':=RfS.grownRow h.rf hg (fun k hk=>by
  obtain⟨k1,k2,cur,k3⟩:=own_blk h.own hk
  exact⟨by omega,by omega,cur,_,_,k3,by decide⟩)
 have eln:(l++[n]).length=l.length+1:=by simp
 have e8:u64V (l++[n])=u64V l++[.int .u64 (n:Int)]:=by simp[u64V]
 refine⟨(McAt.of q1).c26,mfrozen q1 26,(h.X.trans (BelX.of_below hb [ob,sb])).set _ _ _ (.inl (by simp)),R,by rw[eln];exact (at_set q1).trans (by kernel_rfl),?_,rf1.grown (grown_set _ _ _ _) q1 (TkM.not_u8 rowT_not_msg) m5 m6,m1,m2,by rw[World.size_setCell];exact Nat.le_trans m3 hg.size,m4,m5,m6⟩
 rw[eln,e8]
 exact own_kept h4 (fun k hk=>Below.heap_setCell _ _ _ _ (by have:=(own_blk h4 hk).1;show k≠ob;omega))
end
set_option maxRecDepth 100000 in
theorem sw_seen:SwSt (.int .u8 16) 101 (fun o=>o.ho=none∧o.hn=0∧o.hc=0):=by
 intro K J Q' B g ob nb rb w T l8 tc o c s V0 hz h hl
 intros
 rename_i h2 hQP hJ
 conv=>arg 2;whnf
 have hmo:Tryz.prog.follows .mixedOrders=true:=by kernel_rfl
 have HZ:=hid hz
 have T3:=took_bytes s 16 (by decide)
 have hl3:=bytes_le s 16
 have hby:=rftake_any B g s 16 V0 h.rf hl
 unfold GivesTf at hby
 generalize RS.bytes s 16=y at *
 obtain⟨y,s3⟩:=y
 dsimp only at T3 hby hl3
 have HT:=hid T3
 have H:=hid h
 clear T3 h hz
 go_wp2_with fail
 refine hby.mono ?_
 rintro e W1 ⟨hR1,hg1,a1,k1,rfl,hrd1,hty1⟩
 have h1:=H.out.grown hg1 hR1
 have hBo:B≤ob:=by have:=h1.Bg;have:=h1.gw;have:=h1.wo;omega
 have hlt:=h1.lt.1
 have hBW:B≤W1.heap.size:=by omega
 have H1:=hid h1
 clear hby hR1 hg1 H h1
 go_upto_region 34 with fail
 generalize hg:W1.alloc _=W2
 have e2:W1.alloc (.cells #[.slice a1 y.length k1,.bool false] 94)=W2:=hg
 have hb2:Below W1.heap.size W1 W2:=by rw[←e2];exact (Below.refl _ _).alloc (Nat.le_refl _) _
 have hrS:RfS B W1.heap.size ⟨y,false⟩ W2:=by rw[←e2];exact rf_new hrd1 hBW hty1
 have h2':=H1.out.later hb2
 have hz2:W2.heap.size=W1.heap.size+1:=by rw[←e2];simp
 have hso:W1.heap.size≠ob:=by omega
 obtain⟨cs,hcs⟩:=hrS.at_
 have q0:=h2'.q
 obtain⟨M,hMM⟩:∃M,W2.heap.size=M:=⟨_,rfl⟩
 have hs0:SnL B M ob W1.heap.size o W2 y [] none 0 ⟨y,false⟩ W2:=⟨BelX.refl _ _ _,⟨fun n hn=>(by cases hn),fun _=>rfl,fun e=>(by cases e),Nat.le_refl _,Nat.zero_le _⟩,by
   have e:({ o with ho:=none,hn:=([]:List Nat).length,hc:=0 }:MV)=o:=by
    obtain⟨z1,z2,z3⟩:=HZ.out
    cases o
    dsimp only at z1 z2 z3
    subst z1 z2 z3
    rfl
   rw[e];exact q0,World.ownsRow_nil _ _ _ _,hrS,by omega,by omega,by omega,by omega,hso,hBo⟩
 have hW2s:W1.heap.size≠nb∧W1.heap.size≠rb∧w.heap.size≤W1.heap.size:=by
  have l1:=H1.out.lt
  have l2:=H1.out.X.size
  omega
 have H2:=hid h2'
 have HM:=hid hMM
 have hBs:B≤W1.heap.size:=hBW
 have hgs:g<W1.heap.size:=by have:=h2'.gw;have:=H1.out.X.size;omega
 clear hg e2 hb2 hrS h2' hz2 hMM hrd1 hty1 hBW H1
 generalize W1.heap.size=sb at *
 go_loopw [] (fun wr=>∃(l:List Nat) (a:Option Addr) (kc:Nat) (q:RS),SnL B M ob sb o W2 y l a kc q wr) (fun wr=>match wr.cell? ⟨sb,0,none⟩,wr.cell? ⟨sb,1,none⟩ with | some (.slice _ n _),some (.bool b)=>if b=true then 0 else n+1 | _,_=>0)
 case atStart=>exact⟨[],none,0,⟨y,false⟩,hs0⟩
 case round=>
  obtain⟨l,a,kc,q,hL⟩:=hrel
  clear hs0
  obtain⟨ax,cx,hc0⟩:=hL.rf.cell0
  have hc1:=hL.rf.cell1
  have HL:=hid hL
  have hql:q.l.length≤y.length:=hL.R.le
  by_cases hgo:0<q.l.length∧q.bad=false
  ·have f0:decide ((0:Int)<(q.l.length:Int))=true:=decide_eq_true (by omega)
   have f0n:decide (0<q.l.length)=true:=decide_eq_true hgo.1
   have f0p:=hgo.1
   have HG:=hid hgo
   have hc1':=hc1
   rw[hgo.2] at hc1
   have HC0:=hid hc0
   have HC1:=hid hc1'
   clear hgo hL hc1'
   go_upto_region 35 with fail
   refine wp_region_T (k:=7) (S:=fun W=>W.cell? ⟨ob,26,none⟩=some (.slice a l.length kc)) hmo ?_
   change wpAnyT _ _ _ _ _ _ _ _ _ (World.drew wr)
   have hd:Below wr.heap.size wr wr.drew:=(Below.refl _ _).drew
   have s0:=HL.out.later hd
   generalize World.drew wr=X0 at *
   have t0:X0.cell? ⟨ob,26,none⟩=some (.slice a l.length kc):=(McAt.of s0.qo).c26
   have hnum:=rfnum_any B sb q 1 X0 s0.rf (by omega)
   have TT:=took_num q 1 (by decide)
   have hn:=num_lt q 1
   generalize RS.num q 1=nm at *
   obtain⟨n,q'⟩:=nm
   dsimp only at hnum TT hn
   have HR:=hid (s0.R.next TT hn HG.out.2 HG.out.1)
   have HTT:=hid TT
   have HS0:=hid s0
   have hll:l.length≤100000000:=by
    have h1:=s0.R.yes HG.out.2
    have h2:=congrArg List.length h1
    rw[List.length_append] at h2
    have h3:l.length≤(seenB l).length:=by
     rw[seenB_len];omega
    omega
   clear hd s0 TT hc0 hc1 f0 f0n f0p
   refine zTq 0 (.pointer (some ⟨ob,26,none⟩)) rfl (fun a b c h=>hQP a b _ _ c h) t0 ?_
   go_simp
   refine wpAnyT_take (i:=1) (v:=.slice a l.length kc) rfl (by kernel_rfl) (by kernel_rfl) (by kernel_rfl) (by kernel_rfl) (by decide) (by kernel_rfl) (by kernel_rfl) (fun ch a1 w1 h=>hQP ch a1 _ _ w1 h) (Or.inl ⟨by kernel_rfl,by rintro w2 h2;go_simp⟩) t0 ?_
   go_simp
   refine zTq 2 (.pointer (some ⟨sb,0,none⟩)) rfl (fun a b c h=>hQP a b _ _ c h) t0 ?_
   go_simp
   refine zT1 3 rfl (fun K hK=>?_)
   go_simp
   refine hnum.mono ?_
   rintro e X1 ⟨rfl,hR1,hg1⟩
   have s1:=HS0.out.num hg1 hR1
   have t1:=s1.c26
   clear hnum hR1 hg1
   go_simp
   refine hK _ _ ⟨.inr t1,?_⟩
   clear hK K t0
   refine zT1 4 rfl (fun K hK=>?_)
   go_simp
   obtain⟨V,hV⟩:∃V,X1.alloc (.cells #[.int .u64 (n:Int)] 41)=V:=⟨_,rfl⟩
   have hbV:Below X1.heap.size X1 V:=by rw[←hV];exact (Below.refl _ _).alloc (Nat.le_refl _) _
   have rV:Rd V 1 (some ⟨X1.heap.size,0,none⟩) 1 1 [.int .u64 (n:Int)]:=by rw[←hV];exact Rd.new X1 [.int .u64 (n:Int)] 41 (0,0) 1 1 rfl (by unfold maxLen;omega)
   have sV:=s1.later hbV
   have t2:=sV.c26
   rw[hV]
   refine hK _ _ ⟨.inr t2,?_⟩
   clear hK K hV hbV s1 t1
   refine zT1 5 rfl (fun K hK=>?_)
   refine step_app2 rfl (.tmp 165) (.tmp 168) 72 rfl M 41 (.int .u64 0) 1 8 u64T (.slice a l.length kc) l.length (u64V l) rfl sV.own (some ⟨X1.heap.size,0,none⟩) 1 1 [.int .u64 (n:Int)] rfl rV (fun v hv=>by rw[List.mem_singleton.1 hv];rfl) (by unfold maxLen;omega) (by omega) sV.hM.2.2.1 ?_
   intro a4 k4 V4 own4 hg4 hb4 _
   obtain⟨p1,p2,p3⟩:=sV.app own4 hg4 hb4 HR.out
   refine hK _ _ ⟨.inr p1,?_⟩
   clear hK K own4 hg4 hb4 rV sV t2
   refine zTq 6 (.pointer (some ⟨ob,26,none⟩)) rfl (fun a b c h=>hQP a b _ _ c h) p1 ?_
   go_simp
   refine wpAnyT_last (by kernel_rfl) (by kernel_rfl) ?_
   refine zA1 7 rfl (fun K hK=>?_)
   go_simp
   refine hK _ _ ?_
   clear hK K
   refine wpAny_done (by kernel_rfl) ?_ _
   have HP:=hid p3
   clear p1 p2 p3
   generalize World.setCell _ ⟨ob,26,none⟩ _=X9 at *
   go_wp2_with fail
   go_roundw
   case rel=>exact⟨l++[n],a4,k4,q',HP.out⟩
   case measure=>
    obtain⟨ax',cx',d0⟩:=HP.out.rf.cell0
    have d1:=HP.out.rf.cell1
    rw[HC0.out,HC1.out,d0,d1,HG.out.2]
    dsimp only
    cases hqb:q'.bad with
    | true=>simp
    | false=>
     obtain⟨-,e,-⟩:=HTT.out.yes hqb
     have h2:=congrArg List.length e
     rw[List.length_append,val_len,num8_len] at h2
     simp
     omega
  have hkn:KeepN B W2 wr:=KeepN.of_belX' (HM.out▸hL.X) (fun j hj=>by
   simp only[List.mem_cons,List.not_mem_nil,or_false] at hj
   rcases hj with rfl|rfl
   ·exact⟨hBo,_,_,_,q0,rowT_not_msg⟩
   exact⟨hBs,_,_,_,hcs,rowT_not_rf⟩)
  have aX:=H2.out.at_.kpn H2.out.ty hkn
  have yX:=H2.out.ty.kpn hkn
  have hu:=H2.out.u
  have hrg:RfS B g s3 wr:=H2.out.rf.belX (HM.out▸hL.X) (fun hm=>by
    simp only[List.mem_cons,List.not_mem_nil,or_false] at hm
    have:=H2.out.gw
    have:=H2.out.wo
    omega) (fun j hj=>by
    simp only[List.mem_cons,List.not_mem_nil,or_false] at hj
    rcases hj with rfl|rfl
    ·exact hBo
    ·exact hBs) (fun j hj=>by
    simp only[List.mem_cons,List.not_mem_nil,or_false] at hj
    rcases hj with rfl|rfl
    ·exact⟨_,q0,TkM.not_u8 rowT_not_msg⟩
    exact⟨_,hcs,TkM.not_u8 rowT_not_rf⟩)
  have lu:l.length≤1000000000:=by
   have:=hL.R.len
   omega
  have hT:TkM B g ob nb rb w T l8 tc (setF 101 o { o with ho:=a,hn:=l.length,hc:=kc }) (setC 101 c { c with seen:=l }) s3 wr:=
   H2.out.turn hkn (HM.out▸hL.X) (fun j hj=>by simp only[List.mem_cons,List.not_mem_nil,or_false] at hj;rcases hj with rfl|rfl;exact .inl rfl;exact .inr (.inr hW2s)) hrg hL.qo rfl rfl
    ⟨aX.rq,aX.rs,aX.sn,aX.lg,Rd.of_own_slice hL.own,aX.ls,lu⟩ ⟨hu.vi,hu.no,hu.cl,hu.nu,hu.at_,hu.cm,hu.bs,hu.nc,hu.rq,hu.log,hL.R.u⟩ ⟨yX.rq,yX.rs,yX.sn,yX.lo,yX.log,TyX.of_own hL.own⟩
  have hS:StepX 101 s (setF 101 o { o with ho:=a,hn:=l.length,hc:=kc }) (setC 101 c { c with seen:=l }) ⟨s3.l,s3.bad||!(!q.bad)⟩:=step_seen HT.out (fun h=>by
    have hb:q.bad=false:=by simpa using h
    have h0:q.l=[]:=List.eq_nil_of_length_eq_zero (by
     by_cases e:0<q.l.length
     ·exact absurd ⟨e,hb⟩ hgo
     omega)
    have h1:=hL.R.yes hb
    rw[h0,List.append_nil] at h1
    exact h1.symm) (fun h=>hL.R.no (by simpa using h))
  have d0:=hT.rf.cell1
  have dz:=hT.rf.fz1
  have HTM:=hid hT
  have HSS:=hid hS
  have HG:=hid hgo
  clear hT hS aX yX hu hrg hkn hL hgo lu
  obtain⟨l3,bad⟩:=s3
  dsimp only at d0 HTM HSS
  by_cases h0:0<q.l.length
  ·have hqb:q.bad=true:=by
    cases e:q.bad with
    | true=>rfl
    | false=>exact absurd ⟨h0,e⟩ HG.out
   have f0:decide ((0:Int)<(q.l.length:Int))=true:=decide_eq_true (by omega)
   have f0n:decide (0<q.l.length)=true:=decide_eq_true h0
   rw[hqb] at hc1
   have HQ:=hid hqb
   clear hqb
   cases bad with
   | true=>
    have h5:=hid (HTM.out.flag true)
    go_wp2_with fail
    refine Met.intro ?_
    apply hJ
    exact⟨_,_,_,h5.out,HSS.out⟩
   | false=>
    have h5:=hid (HTM.out.flag true)
    have hs5:=HSS.out
    rw[HQ.out] at hs5
    have HS5:=hid hs5
    clear hs5
    go_wp2_with fail
    refine Met.intro ?_
    apply hJ
    exact⟨_,_,_,h5.out,HS5.out⟩
  have f0:decide ((0:Int)<(q.l.length:Int))=false:=decide_eq_false (by omega)
  have f0n:decide (0<q.l.length)=false:=decide_eq_false h0
  cases bad with
  | true=>
   have h5:=hid (HTM.out.flag true)
   go_wp2_with fail
   refine Met.intro ?_
   apply hJ
   exact⟨_,_,_,h5.out,HSS.out⟩
  | false=>
   have h5:=hid (HTM.out.flag q.bad)
   have hs5:=HSS.out
   rw[Bool.not_not] at hs5
   have HS5:=hid hs5
   clear hs5
   obtain⟨qb,hqb⟩:∃qb,q.bad=qb:=⟨_,rfl⟩
   rw[hqb] at hc1 h5 HS5
   clear hqb
   go_wp2_with fail
   refine Met.intro ?_
   apply hJ
   exact⟨_,_,_,h5.out,HS5.out⟩
end Go.Proofs.YtgeafnggodkpaaaGreat.Msg
