/-
  A part of the proof.
-/
import Derived.Deep.Cut
import Derived.Test.YtgeafnggodkpaaaGreatKaav
import Derived.Test.YtgeafnggodkpaaaGreatKabs
import Derived.Test.YtgeafnggodkpaaaGreatKabu
import Derived.Test.YtgeafnggodkpaaaGreatKabq
import Derived.Test.YtgeafnggodkpaaaGreatKabv
import Derived.Test.YtgeafnggodkpaaaGreatKabw
import Derived.Test.YtgeafnggodkpaaaGreatKaab
set_option maxHeartbeats 40000000
namespace Go.Proofs.YtgeafnggodkpaaaGreat.Msg
open Go.RowKit Go.Lib Go.Proofs.YtgeafnggodkpaaaGreat.Mem Go.Proofs.YtgeafnggodkpaaaGreat.Tlv
def RowW (t:TypeId)(m:Nat)(good:Value→Prop)(lo hi:Nat)(ao:Option Addr)(W:World):Prop:=0<m→∃g cur,ao=some ⟨g,0,none⟩∧lo≤g∧g<hi∧W.heap[g]?=some (.cells cur t (0,0))∧∀j,j<m→∃x,cur[j]?=some x∧good x
theorem RowW.of_own {t:TypeId}{W:World}{B lo n size m k:Nat}{ao:Option Addr}{xs:List Value}{good:Value→Prop}(h:W.ownsRow B t size (.slice ao n k) n xs)(hm:n*size=m)(hB:lo≤B)(hg:∀x∈xs,good x):RowW t m good lo W.heap.size ao W:=fun h0=>by
 rcases h.2 with ⟨_,hn⟩ | ⟨g,cap,cur,hv,hb,hc,h1,h2,h3,h4⟩
 ·subst hn;rw[Nat.zero_mul] at hm;omega
 cases hv
 refine⟨g,cur,rfl,Nat.le_trans hB hb,(Array.getElem?_eq_some_iff.1 hc).1,hc,fun j hj=>?_⟩
 have hl:=h.1
 obtain⟨y,hx⟩:∃y,xs[j]?=some y:=⟨_,List.getElem?_eq_getElem (by omega)⟩
 refine⟨y,?_,hg _ (List.mem_of_getElem? hx)⟩
 rw[←h4,List.getElem?_take] at hx
 split at hx
 ·rw[←hx,Array.getElem?_toList]
 cases hx
theorem RowW.set {t t':TypeId}{W:World}{b i m lo hi:Nat}{cs:Array Value}{fr:Nat×Nat}{ao:Option Addr}{good:Value→Prop}{x:Value}(h:RowW t m good lo hi ao W)(hb:W.heap[b]?=some (.cells cs t' fr))(hx:t'=t→good x):RowW t m good lo hi ao (W.setCell ⟨b,i,none⟩ x):=fun h0=>by
 obtain⟨g,cur,ha,hl,hh,hg,hc⟩:=h h0
 by_cases e:g=b
 ·subst e
  rw[hg] at hb
  cases hb
  refine⟨g,_,ha,hl,hh,at_set hg,fun j hj=>?_⟩
  obtain⟨y,hy,gy⟩:=hc j hj
  have hjs:=(Array.getElem?_eq_some_iff.1 hy).1
  by_cases e:i=j
  ·subst e
   exact⟨x,by rw[Array.getElem?_setIfInBounds];simp[hjs],hx rfl⟩
  exact⟨y,by rw[Array.getElem?_setIfInBounds];simp[e,hy],gy⟩
 exact⟨g,cur,ha,hl,hh,at_other hg e,hc⟩
theorem RowW.later {t:TypeId}{W W':World}{m lo hi:Nat}{ao:Option Addr}{good:Value→Prop}(h:RowW t m good lo hi ao W)(hb:Below W.heap.size W W'):RowW t m good lo hi ao W':=fun h0=>by
 obtain⟨g,cur,ha,hl,hh,hg,hc⟩:=h h0
 exact⟨g,cur,ha,hl,hh,(hb.block _ (Array.getElem?_eq_some_iff.1 hg).1).trans hg,hc⟩
def IsU8 (x:Value):Prop:=∃z:Int,x=.int .u8 z
theorem own_box {W:World}{B b i size n:Nat}{e t:TypeId}{v x:Value}{xs:List Value}{cs:Array Value}{fr:Nat×Nat}(h:W.ownsRow B e size v n xs)(hb:W.heap[b]?=some (.cells cs t fr))(ht:t≠e):(W.setCell ⟨b,i,none⟩ x).ownsRow B e size v n xs:=
 own_kept h (fun k hk=>Below.heap_setCell _ _ _ _ (fun e2=>by
  obtain⟨_,_,cur,hc⟩:=own_blk h hk
  have e3:k=b:=e2
  rw[e3,hb] at hc
  cases hc
  exact ht rfl))
structure MsAt (w:World)(m o:MV)(c d:MC)(ax:Option Addr)(cx:Nat)(lx:List UInt8)(aw:Option Addr)(cw:Nat)(lw:List UInt8)(W:World):Prop where
 bel:Below w.heap.size w W
 b0:W.heap[w.heap.size]?=some m.box
 b1:W.heap[w.heap.size+1]?=some o.box
 o0:MAt W m c
 o1:MAt W o d
 rx:Rd W 1 ax lx.length cx (byV lx)
 rw:Rd W 1 aw lw.length cw (byV lw)
structure MsEnd (w:World)(m:MV)(c:MC)(ax:Option Addr)(cx:Nat)(lx:List UInt8)(aw:Option Addr)(cw:Nat)(lw:List UInt8)(W:World):Prop where
 bel:Below w.heap.size w W
 b0:W.heap[w.heap.size]?=some m.box
 o0:MAt W m c
 rx:Rd W 1 ax lx.length cx (byV lx)
 rw:Rd W 1 aw lw.length cw (byV lw)
section
variable {w:World} {m o:MV} {c d:MC} {ax:Option Addr} {cx:Nat} {lx:List UInt8} {aw:Option Addr} {cw:Nat} {lw:List UInt8} {W W':World}
theorem MsAt.step (h:MsAt w m o c d ax cx lx aw cw lw W)(hb:Below W.heap.size W W'):MsAt w m o c d ax cx lx aw cw lw W':=
 ⟨h.bel.trans (hb.mono h.bel.size),mbox_step h.b0 hb,mbox_step h.b1 hb,h.o0.later hb,h.o1.later hb,h.rx.later hb,h.rw.later hb⟩
theorem MsEnd.step (h:MsEnd w m c ax cx lx aw cw lw W)(hb:Below W.heap.size W W'):MsEnd w m c ax cx lx aw cw lw W':=
 ⟨h.bel.trans (hb.mono h.bel.size),mbox_step h.b0 hb,h.o0.later hb,h.rx.later hb,h.rw.later hb⟩
theorem MsAt.rest (h:MsAt w m o c d ax cx lx aw cw lw W):MsEnd w m c ax cx lx aw cw lw W:=⟨h.bel,h.b0,h.o0,h.rx,h.rw⟩
end
theorem same_refl (m:MV)(c:MC):sameMsg m c m c=true:=same_iff.2 ⟨rfl,fun x _=>agree_refl x m c⟩
def RowP (t:TypeId)(m:Nat)(good:Nat→Value→Prop)(lo hi:Nat)(ao:Option Addr)(W:World):Prop:=0<m→∃g cur,ao=some ⟨g,0,none⟩∧lo≤g∧g<hi∧W.heap[g]?=some (.cells cur t (0,0))∧∀j,j<m→∃x,cur[j]?=some x∧good j x
theorem RowP.of_own {t:TypeId}{W:World}{B lo n size m k:Nat}{ao:Option Addr}{xs:List Value}{good:Nat→Value→Prop}(h:W.ownsRow B t size (.slice ao n k) n xs)(hm:n*size=m)(hB:lo≤B)(hg:∀j x,xs[j]?=some x→good j x):RowP t m good lo W.heap.size ao W:=fun h0=>by
 rcases h.2 with ⟨_,hn⟩ | ⟨g,cap,cur,hv,hb,hc,h1,h2,h3,h4⟩
 ·subst hn;rw[Nat.zero_mul] at hm;omega
 cases hv
 refine⟨g,cur,rfl,Nat.le_trans hB hb,(Array.getElem?_eq_some_iff.1 hc).1,hc,fun j hj=>?_⟩
 have hl:=h.1
 obtain⟨y,hx⟩:∃y,xs[j]?=some y:=⟨_,List.getElem?_eq_getElem (by omega)⟩
 refine⟨y,?_,hg j _ hx⟩
 rw[←h4,List.getElem?_take] at hx
 split at hx
 ·rw[←hx,Array.getElem?_toList]
 cases hx
theorem RowP.set {t t':TypeId}{W:World}{b i m lo hi:Nat}{cs:Array Value}{fr:Nat×Nat}{ao:Option Addr}{good:Nat→Value→Prop}{x:Value}(h:RowP t m good lo hi ao W)(hb:W.heap[b]?=some (.cells cs t' fr))(hx:t'=t→good i x):RowP t m good lo hi ao (W.setCell ⟨b,i,none⟩ x):=fun h0=>by
 obtain⟨g,cur,ha,hl,hh,hg,hc⟩:=h h0
 by_cases e:g=b
 ·subst e
  rw[hg] at hb
  cases hb
  refine⟨g,_,ha,hl,hh,at_set hg,fun j hj=>?_⟩
  obtain⟨y,hy,gy⟩:=hc j hj
  have hjs:=(Array.getElem?_eq_some_iff.1 hy).1
  by_cases e:i=j
  ·subst e
   exact⟨x,by rw[Array.getElem?_setIfInBounds];simp[hjs],hx rfl⟩
  exact⟨y,by rw[Array.getElem?_setIfInBounds];simp[e,hy],gy⟩
 exact⟨g,cur,ha,hl,hh,at_other hg e,hc⟩
theorem RowP.later {t:TypeId}{W W':World}{m lo hi:Nat}{ao:Option Addr}{good:Nat→Value→Prop}(h:RowP t m good lo hi ao W)(hb:Below W.heap.size W W'):RowP t m good lo hi ao W':=fun h0=>by
 obtain⟨g,cur,ha,hl,hh,hg,hc⟩:=h h0
 exact⟨g,cur,ha,hl,hh,(hb.block _ (Array.getElem?_eq_some_iff.1 hg).1).trans hg,hc⟩
def IsU64 (x:Value):Prop:=∃z:Int,x=.int .u64 z
def IsNum (j:Nat)(x:Value):Prop:=j % 9=1→IsU64 x
theorem rpV_num (l:List RP)(j:Nat)(x:Value)(h:(rpV l)[j]?=some x):IsNum j x:=fun hj=>by
 have hlt:=(List.getElem?_eq_some_iff.1 h).1
 rw[rpV_len] at hlt
 obtain⟨p,hp⟩:∃p,l[j / 9]?=some p:=⟨_,List.getElem?_eq_getElem (by omega)⟩
 have h1:=rqV_at (l.map Prod.fst) (j / 9) p.1 (by rw[List.getElem?_map,hp];rfl) 1 (by decide)
 have e:j / 9*9+1=j:=by omega
 rw[e] at h1
 have h2:(rqV (l.map Prod.fst))[j]?=some x:=h
 rw[h1] at h2
 exact⟨p.1.nu,(Option.some.inj h2).symm⟩
theorem rpV_one (l:List RP):∀u∈rpV l,u.oneCell'=true:=by
 intro u hu
 simp only[rpV,rqV,List.mem_flatMap,List.mem_map] at hu
 obtain⟨r,-,hu⟩:=hu
 exact rq_one r u hu
structure LpM (V:World)(M:Nat)(own q:MV)(c:MC)(ob cb:Nat)(W:World):Prop where
 bel:Below V.heap.size V W
 bo:W.heap[ob]?=some own.box
 bc:W.heap[cb]?=some q.box
 oc:MAt W q c
 r1:RowW 5 own.sn IsU8 V.heap.size M own.so W
 r2:RowP 43 (own.ln*9) IsNum V.heap.size M own.lo W
 r3:RowW 41 own.hn IsU64 V.heap.size M own.ho W
 fr:FreshM M q c
theorem LpM.set {V W:World}{M ob cb b i:Nat}{own q:MV}{c:MC}{cs:Array Value}{t':TypeId}{x:Value}(h:LpM V M own q c ob cb W)(hb:W.heap[b]?=some (.cells cs t' (0,0)))(ht:t'≠74)(h1:V.heap.size≤b)(h2:b<M)(hx1:t'=5→IsU8 x)(hx2:t'=43→IsNum i x)(hx3:t'=41→IsU64 x):LpM V M own q c ob cb (W.setCell ⟨b,i,none⟩ x):=by
 have e1:ob≠b:=fun e=>by
  have:=h.bo
  rw[e,hb] at this
  cases this
  exact ht rfl
 have e2:cb≠b:=fun e=>by
  have:=h.bc
  rw[e,hb] at this
  cases this
  exact ht rfl
 exact⟨h.bel.setCell h1 x,at_other h.bo e1,at_other h.bc e2,h.oc.freshX h.fr ((BelX.refl W.heap.size [b] W).set b i x (.inl (by simp))) (Nat.le_refl _) (fun k hk=>by rw[List.mem_singleton.1 hk];exact h2),h.r1.set hb hx1,h.r2.set hb hx2,h.r3.set hb hx3,h.fr⟩
theorem LpM.drew {V W:World}{M ob cb:Nat}{own q:MV}{c:MC}(h:LpM V M own q c ob cb W):LpM V M own q c ob cb W.drew:=
 ⟨h.bel.drew,h.bo,h.bc,h.oc.later (Below.refl _ _).drew,h.r1,h.r2,h.r3,h.fr⟩
set_option maxRecDepth 100000 in
theorem messageBytes_any (m o:MV)(c d:MC)(w:World)(hm:MRd w m c)(ho:MRd w o d)(u0:U64M m c):Calls Tryz.prog 6 #[m.val,o.val] w (GivesB true w):=by
 have hmo:Tryz.prog.follows .mixedOrders=true:=by kernel_rfl
 have hb0:Below w.heap.size w ((w.alloc m.box).alloc o.box):=below_two w _ _
 obtain⟨k1,k2⟩:=two_boxes w m.box o.box
 unfold MV.box MV.cells at hb0 k1 k2
 unfold MV.val MV.cells
 go_enter Tryz.func6,Tryz.ntmps6
 go_upto_region 1 with fail
 generalize hg:World.alloc _ _=W0 at *
 have q1:W0.heap[w.heap.size]?=some m.box:=k1
 have q2:W0.heap[w.heap.size+1]?=some o.box:=k2
 clear hg k1 k2
 have hbig0:=muchM_any m c W0 (hm.later hb0)
 unfold MV.val MV.cells at hbig0
 go_wp2_with (refine wpList_load_row (ty:=74) q1 rfl rfl rfl (by kernel_rfl) (by kernel_rfl) ?_;go_simp)
 refine hbig0.mono ?_
 rintro e W1 ⟨b1,rfl,hB1,hb1⟩
 have hb1':=hb0.trans (hb1.mono hb0.size)
 have HB1:=hid hB1
 clear hbig0 hB1
 cases b1 with
 | true=>
  go_wp2_with fail
  refine (known_any W1).mono ?_
  rintro e W2 ⟨rfl,hb2⟩
  go_wp2_with fail
  go_ret
  exact⟨rfl,hb1'.trans (hb2.mono hb1'.size)⟩
 | false=>
  have q2':=mbox_step q2 hb1
  have q1':=mbox_step q1 hb1
  have hbig1:=muchM_any o d W1 (ho.later hb1')
  unfold MV.val MV.cells at hbig1
  go_wp2_with (refine wpList_load_row (ty:=74) q2' rfl rfl rfl (by kernel_rfl) (by kernel_rfl) ?_;go_simp)
  refine hbig1.mono ?_
  rintro e W2 ⟨b2,rfl,hB2,hb2⟩
  have hb2':=hb1'.trans (hb2.mono hb1'.size)
  have HB2:=hid hB2
  clear hbig1 hB2
  cases b2 with
  | true=>
   go_wp2_with fail
   refine (known_any W2).mono ?_
   rintro e W3 ⟨rfl,hb3⟩
   go_wp2_with fail
   go_ret
   exact⟨rfl,hb2'.trans (hb3.mono hb2'.size)⟩
  | false=>
   have w0:=HB1.out (by first | rfl | trivial)
   have w1:=HB2.out (by first | rfl | trivial)
   have o0:=(w0.1.later hb1).later hb2
   have o1:=w1.1.later hb2
   obtain⟨-,l1,l2,l3,l4,-⟩:=w0
   have hf:FitsM m c:=fitsM_of o0 l1 l4
   have hs4:m.sn≤4194304:=by omega
   have hh3:m.hn≤300000:=by omega
   have hl6:m.ln≤1000000:=by omega
   have HF:=hid hf
   have p1:=mbox_step q1' hb2
   have p2:=mbox_step q2' hb2
   clear HB1 HB2 hb1 hb2 hb1' q1 q2 q1' q2' hb0 w1 hf hm ho
   have hOB:=msgBytes_any m c W2 o0 u0 HF.out
   unfold MV.val MV.cells at hOB
   go_wp2_with (refine wpList_load_row (ty:=74) p1 rfl rfl rfl (by kernel_rfl) (by kernel_rfl) ?_;go_simp)
   refine hOB.mono ?_
   rintro e W3 ⟨lx,ax,cx,ex,rfl,hrx,hb3,-,hx1,hx2⟩
   have hb3':=hb2'.trans (hb3.mono hb2'.size)
   have o0':=o0.later hb3
   have o1':=o1.later hb3
   have p1':=mbox_step p1 hb3
   have p2':=mbox_step p2 hb3
   have Hx:=hid (And.intro hx1 hx2)
   clear hOB o0 o1 p1 p2 hx1 hx2 hb3 hb2'
   have hOW:=rMsgBytes_any rTake_any m c W3 o0' u0 HF.out hs4 hh3 hl6
   unfold MV.val MV.cells at hOW
   go_wp2_with (refine wpList_load_row (ty:=74) p1' rfl rfl rfl (by kernel_rfl) (by kernel_rfl) ?_;go_simp)
   refine hOW.mono ?_
   rintro e V3 ⟨lw,aw,cw,mm,rfl,hrw,hv3,hmm,hlw⟩
   have HM:Hid (mayMsg m c=mm):=hid hmm.symm
   have Hw:=hid hlw
   have hS:MsAt w m o c d ax cx lx aw cw lw V3:=⟨hb3'.trans (hv3.mono hb3'.size),mbox_step p1' hv3,mbox_step p2' hv3,o0'.later hv3,o1'.later hv3,hrx.later hv3,hrw⟩
   have s0:MsAt w m o c d ax cx lx aw cw lw V3.drew:=hS.step (Below.refl _ _).drew
   clear hOW o0' o1' p1' p2' hrx hrw hv3 hb3' hmm hlw hS
   obtain⟨q,hq⟩:∃q,sameMsg m c o d=q:=⟨_,rfl⟩
   have HQ:=hid hq
   obtain⟨HX1,HX2⟩:=Hx.out
   have Hx1:=hid HX1
   have Hx2:=hid HX2
   clear HX1 HX2 Hx hq
   go_upto_region 5 with fail
   go_cut [49] from 14 (fun s49 w'=>s49=.bool false∧MsEnd w m c ax cx lx aw cw lw w')
   case first=>
    refine wp_region_held (S:=MsAt w m o c d ax cx lx aw cw lw) hmo ?_
    change wpAnyH _ _ _ _ _ _ _ _ (World.drew V3)
    generalize World.drew V3=X0 at *
    refine zHa 0 (.agg #[.int .i64 m.k,.int .u64 m.vi,.int .u64 m.no,.int .i64 m.fr,.int .u64 m.cl,.int .u64 m.nu,.int .u64 m.rq.cl,.int .u64 m.rq.nu,.int .i64 m.rq.op.k,.string m.rq.op.name,.string m.rq.op.to,.slice m.rq.op.ao m.rq.op.an m.rq.op.ac,.slice m.rq.op.bo m.rq.op.bn m.rq.op.bc,.slice m.rq.op.co m.rq.op.cn m.rq.op.cc,.int .i64 m.rq.op.n,.int .i64 m.rs.code,.bool m.rs.yes,.slice m.rs.eo m.rs.en m.rs.ec,.slice m.rs.co m.rs.cn m.rs.cc,.int .u64 m.at_,.int .u64 m.cm,.int .u64 m.bs,.slice m.so m.sn m.sc,.slice m.lo m.ln m.lc,.int .u64 m.nc,.bool m.wh,.slice m.ho m.hn m.hc]) rfl (by rintro w2 h;exact exec_load_row (cs:=m.cells) h.b0 rfl rfl (by kernel_rfl) (by kernel_rfl)) s0 ?_
    go_simp
    refine zHp 2 (.bool mm) rfl s0 ?_
    go_simp
    refine zH1 1 rfl (fun K hK=>?_)
    go_simp
    have hc:=mayMsg_any m c X0 s0.o0 u0 HF.out
    unfold MV.val MV.cells at hc
    rw[HM.out] at hc
    refine hc.mono ?_
    rintro e X1 ⟨rfl,hb0⟩
    have s1:=s0.step hb0
    clear hc
    go_simp
    refine hK _ _ ⟨s1,?_⟩
    clear hK K
    refine zHa 3 (.bool false) rfl (by rintro w2 h;cases mm<;>go_simp) s1 ?_
    go_simp
    refine zHp 4 (.bool false) rfl s1 ?_
    go_simp
    refine zHa 5 (.agg #[.int .i64 m.k,.int .u64 m.vi,.int .u64 m.no,.int .i64 m.fr,.int .u64 m.cl,.int .u64 m.nu,.int .u64 m.rq.cl,.int .u64 m.rq.nu,.int .i64 m.rq.op.k,.string m.rq.op.name,.string m.rq.op.to,.slice m.rq.op.ao m.rq.op.an m.rq.op.ac,.slice m.rq.op.bo m.rq.op.bn m.rq.op.bc,.slice m.rq.op.co m.rq.op.cn m.rq.op.cc,.int .i64 m.rq.op.n,.int .i64 m.rs.code,.bool m.rs.yes,.slice m.rs.eo m.rs.en m.rs.ec,.slice m.rs.co m.rs.cn m.rs.cc,.int .u64 m.at_,.int .u64 m.cm,.int .u64 m.bs,.slice m.so m.sn m.sc,.slice m.lo m.ln m.lc,.int .u64 m.nc,.bool m.wh,.slice m.ho m.hn m.hc]) rfl (by rintro w2 h;exact exec_load_row (cs:=m.cells) h.b0 rfl rfl (by kernel_rfl) (by kernel_rfl)) s1 ?_
    go_simp
    refine zHa 6 (.agg #[.int .i64 o.k,.int .u64 o.vi,.int .u64 o.no,.int .i64 o.fr,.int .u64 o.cl,.int .u64 o.nu,.int .u64 o.rq.cl,.int .u64 o.rq.nu,.int .i64 o.rq.op.k,.string o.rq.op.name,.string o.rq.op.to,.slice o.rq.op.ao o.rq.op.an o.rq.op.ac,.slice o.rq.op.bo o.rq.op.bn o.rq.op.bc,.slice o.rq.op.co o.rq.op.cn o.rq.op.cc,.int .i64 o.rq.op.n,.int .i64 o.rs.code,.bool o.rs.yes,.slice o.rs.eo o.rs.en o.rs.ec,.slice o.rs.co o.rs.cn o.rs.cc,.int .u64 o.at_,.int .u64 o.cm,.int .u64 o.bs,.slice o.so o.sn o.sc,.slice o.lo o.ln o.lc,.int .u64 o.nc,.bool o.wh,.slice o.ho o.hn o.hc]) rfl (by rintro w2 h;exact exec_load_row (cs:=o.cells) h.b1 rfl rfl (by kernel_rfl) (by kernel_rfl)) s1 ?_
    go_simp
    refine zHa 8 (.agg #[.int .i64 m.k,.int .u64 m.vi,.int .u64 m.no,.int .i64 m.fr,.int .u64 m.cl,.int .u64 m.nu,.int .u64 m.rq.cl,.int .u64 m.rq.nu,.int .i64 m.rq.op.k,.string m.rq.op.name,.string m.rq.op.to,.slice m.rq.op.ao m.rq.op.an m.rq.op.ac,.slice m.rq.op.bo m.rq.op.bn m.rq.op.bc,.slice m.rq.op.co m.rq.op.cn m.rq.op.cc,.int .i64 m.rq.op.n,.int .i64 m.rs.code,.bool m.rs.yes,.slice m.rs.eo m.rs.en m.rs.ec,.slice m.rs.co m.rs.cn m.rs.cc,.int .u64 m.at_,.int .u64 m.cm,.int .u64 m.bs,.slice m.so m.sn m.sc,.slice m.lo m.ln m.lc,.int .u64 m.nc,.bool m.wh,.slice m.ho m.hn m.hc]) rfl (by rintro w2 h;exact exec_load_row (cs:=m.cells) h.b0 rfl rfl (by kernel_rfl) (by kernel_rfl)) s1 ?_
    go_simp
    refine zHa 9 (.agg #[.int .i64 o.k,.int .u64 o.vi,.int .u64 o.no,.int .i64 o.fr,.int .u64 o.cl,.int .u64 o.nu,.int .u64 o.rq.cl,.int .u64 o.rq.nu,.int .i64 o.rq.op.k,.string o.rq.op.name,.string o.rq.op.to,.slice o.rq.op.ao o.rq.op.an o.rq.op.ac,.slice o.rq.op.bo o.rq.op.bn o.rq.op.bc,.slice o.rq.op.co o.rq.op.cn o.rq.op.cc,.int .i64 o.rq.op.n,.int .i64 o.rs.code,.bool o.rs.yes,.slice o.rs.eo o.rs.en o.rs.ec,.slice o.rs.co o.rs.cn o.rs.cc,.int .u64 o.at_,.int .u64 o.cm,.int .u64 o.bs,.slice o.so o.sn o.sc,.slice o.lo o.ln o.lc,.int .u64 o.nc,.bool o.wh,.slice o.ho o.hn o.hc]) rfl (by rintro w2 h;exact exec_load_row (cs:=o.cells) h.b1 rfl rfl (by kernel_rfl) (by kernel_rfl)) s1 ?_
    go_simp
    refine zH1 7 rfl (fun K hK=>?_)
    go_simp
    have hc:=pSame_any m o c d X1 s1.o0 s1.o1
    unfold MV.val MV.cells at hc
    rw[HQ.out] at hc
    refine hc.mono ?_
    rintro e X2 ⟨rfl,hb1⟩
    have s2:=s1.step hb1
    clear hc
    go_simp
    refine hK _ _ ⟨s2,?_⟩
    clear hK K
    refine zH1 10 rfl (fun K hK=>?_)
    go_simp
    have hc:=rSameMsg_any m o c d X2 s2.o0 s2.o1
    unfold MV.val MV.cells at hc
    rw[HQ.out] at hc
    refine hc.mono ?_
    rintro e X3 ⟨rfl,hb2⟩
    have s3:=s2.step hb2
    clear hc
    go_simp
    refine hK _ _ ⟨s3,?_⟩
    clear hK K
    refine zHa 11 (.bool false) rfl (by rintro w2 h;cases q<;>go_simp) s3 ?_
    go_simp
    refine zHp 12 (.bool false) rfl s3 ?_
    go_simp
    refine zHp 13 (.bool false) rfl s3 ?_
    go_simp
    refine zHa 14 (.agg #[.int .i64 m.k,.int .u64 m.vi,.int .u64 m.no,.int .i64 m.fr,.int .u64 m.cl,.int .u64 m.nu,.int .u64 m.rq.cl,.int .u64 m.rq.nu,.int .i64 m.rq.op.k,.string m.rq.op.name,.string m.rq.op.to,.slice m.rq.op.ao m.rq.op.an m.rq.op.ac,.slice m.rq.op.bo m.rq.op.bn m.rq.op.bc,.slice m.rq.op.co m.rq.op.cn m.rq.op.cc,.int .i64 m.rq.op.n,.int .i64 m.rs.code,.bool m.rs.yes,.slice m.rs.eo m.rs.en m.rs.ec,.slice m.rs.co m.rs.cn m.rs.cc,.int .u64 m.at_,.int .u64 m.cm,.int .u64 m.bs,.slice m.so m.sn m.sc,.slice m.lo m.ln m.lc,.int .u64 m.nc,.bool m.wh,.slice m.ho m.hn m.hc]) rfl (by rintro w2 h;exact exec_load_row (cs:=m.cells) h.b0 rfl rfl (by kernel_rfl) (by kernel_rfl)) s3 ?_
    go_simp
    refine zHa 15 (.agg #[.int .i64 m.k,.int .u64 m.vi,.int .u64 m.no,.int .i64 m.fr,.int .u64 m.cl,.int .u64 m.nu,.int .u64 m.rq.cl,.int .u64 m.rq.nu,.int .i64 m.rq.op.k,.string m.rq.op.name,.string m.rq.op.to,.slice m.rq.op.ao m.rq.op.an m.rq.op.ac,.slice m.rq.op.bo m.rq.op.bn m.rq.op.bc,.slice m.rq.op.co m.rq.op.cn m.rq.op.cc,.int .i64 m.rq.op.n,.int .i64 m.rs.code,.bool m.rs.yes,.slice m.rs.eo m.rs.en m.rs.ec,.slice m.rs.co m.rs.cn m.rs.cc,.int .u64 m.at_,.int .u64 m.cm,.int .u64 m.bs,.slice m.so m.sn m.sc,.slice m.lo m.ln m.lc,.int .u64 m.nc,.bool m.wh,.slice m.ho m.hn m.hc]) rfl (by rintro w2 h;exact exec_load_row (cs:=m.cells) h.b0 rfl rfl (by kernel_rfl) (by kernel_rfl)) s3 ?_
    go_simp
    refine zH1 16 rfl (fun K hK=>?_)
    go_simp
    have hc:=pSame_any m m c c X3 s3.o0 s3.o0
    unfold MV.val MV.cells at hc
    rw[same_refl] at hc
    refine hc.mono ?_
    rintro e X4 ⟨rfl,hb3⟩
    have s4:=s3.step hb3
    clear hc
    go_simp
    refine hK _ _ ⟨s4,?_⟩
    clear hK K
    refine zHa 17 (.bool false) rfl (by rintro w2 h;go_simp) s4 ?_
    go_simp
    refine zHp 18 (.bool false) rfl s4 ?_
    go_simp
    refine wpAnyH_done (by kernel_rfl) ?_ _
    go_wp2_with fail
    go_meet
    case rel=>exact⟨rfl,s4.rest⟩
   case rest=>
    obtain⟨rfl,V0⟩:=hcut
    clear s0 HQ
    have b0:=V0.b0
    generalize wc=V at *
    have eln:=V0.o0.lg.len
    have HLN:=hid eln
    clear eln
    go_upto_region 8 with (first | (refine wpList_load_row (ty:=74) b0 rfl rfl rfl (by kernel_rfl) (by kernel_rfl) ?_;go_simp) | (refine wpList_store_new rfl rfl rfl rfl (by kernel_rfl) rfl (by kernel_rfl) ?_;go_simp))
    generalize hg:V.alloc _=W1
    have e1:V.alloc m.box=W1:=hg
    have hb1:Below V.heap.size V W1:=by rw[←e1];exact (Below.refl _ _).alloc (Nat.le_refl _) _
    have k1:W1.heap[V.heap.size]?=some m.box:=by rw[←e1];exact at_new _ _
    have V1:=V0.step hb1
    clear hg e1 b0
    have c22:=(McAt.of V1.b0).c22
    have lS:=V1.o0.ls
    have lH:=V1.o0.lh
    go_upto_region 9 with (at_builtin;refine wpList_app _ rfl _ (.tmp 52) 25 rfl W1.heap.size 5 (.int .u8 0) 1 1 sliceT_byt (.slice none 0 0) 0 [] rfl (World.ownsRow_nil _ _ _ _) m.so m.sn m.sc (byV c.snap) rfl V1.o0.sn (byV_one _) (by unfold maxLen;omega) (by omega) (Nat.le_refl _) ?_;intro a1 x1 W2 own1 _ hb2 _;rw[Nat.zero_add,List.nil_append] at own1;rw[Nat.zero_add];have k2:=mbox_step k1 hb2;have d22:=(McAt.of k2).c22;have zf:=mfrozen k2 22)
    have k3:(W2.setCell ⟨V.heap.size,22,none⟩ (.slice a1 m.sn x1)).heap[V.heap.size]?=some (MV.box { m with so:=a1,sn:=m.sn,sc:=x1 }):=(at_set k2).trans (by kernel_rfl)
    have own1':=own_box (i:=22) (x:=.slice a1 m.sn x1) own1 k2 (by decide)
    have B3:Below V.heap.size V (W2.setCell ⟨V.heap.size,22,none⟩ (.slice a1 m.sn x1)):=(hb1.trans (hb2.mono hb1.size)).setCell (p:=⟨V.heap.size,22,none⟩) (Nat.le_refl _) _
    have z1:=hb1.size
    generalize W2.setCell _ _=W3 at *
    have V3:=V0.step B3
    clear own1 k2 hb2 V1 k1 hb1 c22 d22 zf
    have c23:=(McAt.of V3.b0).c23
    go_upto_region 10 with (at_builtin;refine wpList_app _ rfl _ (.tmp 56) 71 rfl W3.heap.size 43 zeroR.val 9 136 sliceT_rq (.slice none 0 0) 0 [] rfl (World.ownsRow_nil _ _ _ _) m.lo m.ln m.lc (rpV c.log) rfl V3.o0.lg.r (rpV_one _) (by unfold maxLen;omega) (by omega) (Nat.le_refl _) ?_;intro a2 x2 W4 own2 _ hb4 _;rw[Nat.zero_add,List.nil_append] at own2;rw[Nat.zero_add];have k4:=mbox_step k3 hb4;have d23:=(McAt.of k4).c23;have zf:=mfrozen k4 23)
    have k5:(W4.setCell ⟨V.heap.size,23,none⟩ (.slice a2 m.ln x2)).heap[V.heap.size]?=some (MV.box { m with so:=a1,sn:=m.sn,sc:=x1,lo:=a2,ln:=m.ln,lc:=x2 }):=(at_set k4).trans (by kernel_rfl)
    have own2':=own_box (i:=23) (x:=.slice a2 m.ln x2) own2 k4 (by decide)
    have own1b:=own_box (i:=23) (x:=.slice a2 m.ln x2) (own_later own1' hb4) k4 (by decide)
    have B5:Below V.heap.size V (W4.setCell ⟨V.heap.size,23,none⟩ (.slice a2 m.ln x2)):=(B3.trans (hb4.mono B3.size)).setCell (p:=⟨V.heap.size,23,none⟩) (Nat.le_refl _) _
    have z3:=B3.size
    generalize W4.setCell _ _=W5 at *
    have V5:=V0.step B5
    clear own2 k4 hb4 V3 k3 own1' B3 c23 d23 zf
    have c26:=(McAt.of V5.b0).c26
    go_upto_region 11 with (at_builtin;refine wpList_app _ rfl _ (.tmp 60) 72 rfl W5.heap.size 41 (.int .u64 0) 1 8 u64T (.slice none 0 0) 0 [] rfl (World.ownsRow_nil _ _ _ _) m.ho m.hn m.hc (u64V c.seen) rfl V5.o0.se (u64V_one _) (by unfold maxLen;omega) (by omega) (Nat.le_refl _) ?_;intro a3 x3 W6 own3 _ hb6 _;rw[Nat.zero_add,List.nil_append] at own3;rw[Nat.zero_add];have k6:=mbox_step k5 hb6;have d26:=(McAt.of k6).c26;have zf:=mfrozen k6 26)
    have k7:(W6.setCell ⟨V.heap.size,26,none⟩ (.slice a3 m.hn x3)).heap[V.heap.size]?=some (MV.box { m with so:=a1,sn:=m.sn,sc:=x1,lo:=a2,ln:=m.ln,lc:=x2,ho:=a3,hn:=m.hn,hc:=x3 }):=(at_set k6).trans (by kernel_rfl)
    have own3':=own_box (i:=26) (x:=.slice a3 m.hn x3) own3 k6 (by decide)
    have own1c:=own_box (i:=26) (x:=.slice a3 m.hn x3) (own_later own1b hb6) k6 (by decide)
    have own2c:=own_box (i:=26) (x:=.slice a3 m.hn x3) (own_later own2' hb6) k6 (by decide)
    have B7:Below V.heap.size V (W6.setCell ⟨V.heap.size,26,none⟩ (.slice a3 m.hn x3)):=(B5.trans (hb6.mono B5.size)).setCell (p:=⟨V.heap.size,26,none⟩) (Nat.le_refl _) _
    have z5:=B5.size
    generalize W6.setCell _ _=W7 at *
    have V7:=V0.step B7
    clear own3 k6 hb6 V5 k5 own1b own2' B5 c26 d26 zf
    have oO:MAt W7 { m with so:=a1,sn:=m.sn,sc:=x1,lo:=a2,ln:=m.ln,lc:=x2,ho:=a3,hn:=m.hn,hc:=x3 } c:=⟨V7.o0.rq,V7.o0.rs,Rd.of_own_slice own1c,⟨Rd.of_own_slice own2c,V7.o0.lg.each⟩,Rd.of_own_slice own3',lS,lH⟩
    have R1:RowW 5 m.sn IsU8 V.heap.size W7.heap.size a1 W7:=RowW.of_own own1c (Nat.mul_one _) z1 (fun x hx=>by
     simp only[byV,List.mem_map] at hx
     obtain⟨y,_,rfl⟩:=hx
     exact⟨_,rfl⟩)
    have R2:RowP 43 (m.ln*9) IsNum V.heap.size W7.heap.size a2 W7:=RowP.of_own own2c rfl z3 (rpV_num _)
    have R3:RowW 41 m.hn IsU64 V.heap.size W7.heap.size a3 W7:=RowW.of_own own3' (Nat.mul_one _) z5 (fun x hx=>by
     simp only[u64V,List.mem_map] at hx
     obtain⟨y,_,rfl⟩:=hx
     exact⟨_,rfl⟩)
    clear own1c own2c own3' z1 z3 z5
    have hcp:=copyMsg_any { m with so:=a1,sn:=m.sn,sc:=x1,lo:=a2,ln:=m.ln,lc:=x2,ho:=a3,hn:=m.hn,hc:=x3 } c W7 oO hl6 (show m.rs.en≤1000000 by omega)
    unfold MV.val MV.cells at hcp
    go_wp2_with (refine wpList_load_row (ty:=74) k7 rfl rfl rfl (by kernel_rfl) (by kernel_rfl) ?_;go_simp)
    refine hcp.mono ?_
    rintro e W8 ⟨Q,lq,rfl,oQ,hsq,fQ,hb8⟩
    have HQ:Hid (sameMsg Q lq m c=true):=hid hsq
    obtain⟨own,hown⟩:∃o:MV,({ m with so:=a1,sn:=m.sn,sc:=x1,lo:=a2,ln:=m.ln,lc:=x2,ho:=a3,hn:=m.hn,hc:=x3 }:MV)=o:=⟨_,rfl⟩
    have r1:RowW 5 own.sn IsU8 V.heap.size W7.heap.size own.so W7:=by rw[←hown];exact R1
    have r2:RowP 43 (own.ln*9) IsNum V.heap.size W7.heap.size own.lo W7:=by rw[←hown];exact R2
    have r3:RowW 41 own.hn IsU64 V.heap.size W7.heap.size own.ho W7:=by rw[←hown];exact R3
    have lsn:own.sn≤1000000000:=by rw[←hown];exact lS
    have lhn:own.hn≤1000000000:=by rw[←hown];exact lH
    have lln:own.ln≤1000000:=by rw[←hown];exact hl6
    rw[hown] at k7
    unfold MV.val MV.cells
    clear hsq hcp oO R1 R2 R3
    go_upto_region 12 with (refine wpList_store_new rfl rfl rfl rfl (by kernel_rfl) rfl (by kernel_rfl) ?_;go_simp)
    generalize hg:W8.alloc _=W9
    have e9:W8.alloc Q.box=W9:=hg
    have hb9:Below W8.heap.size W8 W9:=by rw[←e9];exact (Below.refl _ _).alloc (Nat.le_refl _) _
    have k9:W9.heap[W8.heap.size]?=some Q.box:=by rw[←e9];exact at_new _ _
    have hb79:=hb8.trans (hb9.mono hb8.size)
    have hL:LpM V W7.heap.size own Q lq V.heap.size W8.heap.size W9:=
     ⟨B7.trans (hb79.mono B7.size),mbox_step k7 hb79,k9,oQ.later hb9,r1.later hb79,r2.later hb79,r3.later hb79,fQ⟩
    clear hg e9 hb9 k9 hb79 hown k7 oQ fQ hb8 B7 V7 r1 r2 r3 lS lH
    generalize W7.heap.size=M at *
    generalize W8.heap.size=cb at *
    go_wp2_with fail
    go_loopw [11] (fun p wr=>∃i:Nat,i≤own.sn∧p=.int .i64 (i:Int)∧LpM V M own Q lq V.heap.size cb wr) (fun p _=>own.sn-(intOf p).toNat)
    case atStart=>exact⟨0,Nat.zero_le _,rfl,hL⟩
    case round=>
     obtain⟨i,hi,rfl,L⟩:=hrel
     clear hL
     by_cases hin:i<own.sn
     ·have D:=L.drew
      have d22:=(McAt.of L.bo).c22
      have f22:=(McAt.of D.bo).c22
      obtain⟨g,cur,hao,hlo,hhi,hg,hcs⟩:=D.r1 (by omega)
      obtain⟨x,hx,z,rfl⟩:=hcs i hin
      rw[hao] at d22 f22
      have i0:(0:Int)≤(i:Int):=by omega
      have i1:(i:Int)<(own.sn:Int):=by omega
      have hz:=D.set (i:=i) (x:=.int .u8 (IntKind.u8.wrap (z+1))) hg (by decide) hlo hhi (fun _=>⟨_,rfl⟩) (fun h=>absurd h (by decide)) (fun h=>absurd h (by decide))
      have y1:wr.drew.cell? ⟨g,i,none⟩=some (.int .u8 z):=by simp[World.cell?,hg,hx]
      have y2:wr.drew.frozen? ⟨g,i,none⟩=false:=by simp[World.frozen?,hg]
      clear hcs hao hx
      go_upto_region 15 with fail
      refine wp_region_T (k:=10) (S:=fun w2=>w2=World.drew wr) hmo ?_
      change wpAnyT _ _ _ _ _ _ _ _ _ (World.drew wr)
      generalize World.drew wr=Wd at *
      refine zTp 0 (.pointer (some ⟨V.heap.size,22,none⟩)) rfl rfl ?_
      go_simp
      refine zTa 1 (.slice (some ⟨g,0,none⟩) own.sn own.sc) rfl (by rintro w2 h;subst h;go_simp) rfl ?_
      go_simp
      refine zTp 2 (.int .i64 (i:Int)) rfl rfl ?_
      go_simp
      refine zTp 3 (.pointer (some ⟨V.heap.size,22,none⟩)) rfl rfl ?_
      go_simp
      refine zTa 4 (.slice (some ⟨g,0,none⟩) own.sn own.sc) rfl (by rintro w2 h;subst h;go_simp) rfl ?_
      go_simp
      refine zTp 5 (.int .i64 (i:Int)) rfl rfl ?_
      go_simp
      refine zTa 6 (.pointer (some ⟨g,i,none⟩)) rfl (by rintro w2 h;subst h;go_simp) rfl ?_
      go_simp
      refine zTa 7 (.int .u8 z) rfl (by rintro w2 h;subst h;go_simp) rfl ?_
      go_simp
      refine zTa 8 (.int .u8 (IntKind.u8.wrap (z+1))) rfl (by rintro w2 h;subst h;go_simp) rfl ?_
      go_simp
      refine zTa 9 (.pointer (some ⟨g,i,none⟩)) rfl (by rintro w2 h;subst h;go_simp) rfl ?_
      go_simp
      refine wpAnyT_last (by kernel_rfl) (by kernel_rfl) ?_
      refine zA1 10 rfl (fun K hK=>?_)
      go_simp
      refine hK _ _ ?_
      clear hK K
      refine wpAny_done (by kernel_rfl) ?_ _
      clear D hg y1 y2 f22 d22 L
      generalize Wd.setCell _ _=We at *
      go_wp2_with fail
      go_roundw
      case rel=>exact⟨i+1,by omega,by go_num,hz⟩
      case measure=>simp[intOf];omega
     obtain rfl:i=own.sn:=by omega
     clear hi hin
     obtain⟨Wa,hWa⟩:∃x,x=wr:=⟨wr,rfl⟩
     subst hWa
     have d22:=(McAt.of L.bo).c22
     go_wp2_with fail
     clear d22
     go_loopw [12] (fun p wr=>∃i:Nat,i≤own.ln∧p=.int .i64 (i:Int)∧LpM V M own Q lq V.heap.size cb wr) (fun p _=>own.ln-(intOf p).toNat)
     case atStart=>exact⟨0,Nat.zero_le _,rfl,L⟩
     case round=>
      obtain⟨i,hi,rfl,L2⟩:=hrel
      clear L
      by_cases hin:i<own.ln
      ·have d23:=(McAt.of L2.bo).c23
       obtain⟨g,cur,hao,hlo,hhi,hg,hcs⟩:=L2.r2 (by omega)
       obtain⟨x,hx,hnum⟩:=hcs (i*9+1) (by omega)
       obtain⟨z,rfl⟩:=hnum (by omega)
       rw[hao] at d23
       have i0:(0:Int)≤(i:Int):=by omega
       have i1:(i:Int)<(own.ln:Int):=by omega
       have hz:=L2.set (i:=i*9+1) (x:=.int .u64 (IntKind.u64.wrap (z+1))) hg (by decide) hlo hhi (fun h=>absurd h (by decide)) (fun _ _=>⟨_,rfl⟩) (fun h=>absurd h (by decide))
       have y1:wr.cell? ⟨g,i*9+1,none⟩=some (.int .u64 z):=by simp[World.cell?,hg,hx]
       have y2:wr.frozen? ⟨g,i*9+1,none⟩=false:=by simp[World.frozen?,hg]
       obtain⟨zz,hzz⟩:∃zz,IntKind.u64.wrap (z+1)=zz:=⟨_,rfl⟩
       rw[hzz] at hz
       clear hcs hao hx hnum
       go_wp2_with fail
       go_roundw
       case rel=>exact⟨i+1,by omega,by go_num,hz⟩
       case measure=>simp[intOf];omega
      obtain rfl:i=own.ln:=by omega
      clear hi hin
      obtain⟨Wb,hWb⟩:∃x,x=wr:=⟨wr,rfl⟩
      subst hWb
      have d23:=(McAt.of L2.bo).c23
      go_wp2_with fail
      clear d23
      go_loopw [13] (fun p wr=>∃i:Nat,i≤own.hn∧p=.int .i64 (i:Int)∧LpM V M own Q lq V.heap.size cb wr) (fun p _=>own.hn-(intOf p).toNat)
      case atStart=>exact⟨0,Nat.zero_le _,rfl,L2⟩
      case round=>
       obtain⟨i,hi,rfl,L3⟩:=hrel
       clear L2
       by_cases hin:i<own.hn
       ·have d26:=(McAt.of L3.bo).c26
        obtain⟨g,cur,hao,hlo,hhi,hg,hcs⟩:=L3.r3 (by omega)
        obtain⟨x,hx,z,rfl⟩:=hcs i hin
        rw[hao] at d26
        have i0:(0:Int)≤(i:Int):=by omega
        have i1:(i:Int)<(own.hn:Int):=by omega
        have hz:=L3.set (i:=i) (x:=.int .u64 (IntKind.u64.wrap (z+1))) hg (by decide) hlo hhi (fun h=>absurd h (by decide)) (fun h=>absurd h (by decide)) (fun _=>⟨_,rfl⟩)
        have y1:wr.cell? ⟨g,i,none⟩=some (.int .u64 z):=by simp[World.cell?,hg,hx]
        have y2:wr.frozen? ⟨g,i,none⟩=false:=by simp[World.frozen?,hg]
        obtain⟨zz,hzz⟩:∃zz,IntKind.u64.wrap (z+1)=zz:=⟨_,rfl⟩
        rw[hzz] at hz
        clear hcs hao hx
        go_wp2_with fail
        go_roundw
        case rel=>exact⟨i+1,by omega,by go_num,hz⟩
        case measure=>simp[intOf];omega
       obtain rfl:i=own.hn:=by omega
       clear hi hin
       obtain⟨Wc,hWc⟩:∃x,x=wr:=⟨wr,rfl⟩
       subst hWc
       have VE:=V0.step L3.bel
       have bc:=L3.bc
       have b0:=VE.b0
       have hsr:=rSameMsg_any Q m lq c Wc L3.oc VE.o0
       rw[HQ.out] at hsr
       unfold MV.val MV.cells at hsr
       have d26:=(McAt.of L3.bo).c26
       clear L3
       go_wp2_with (first | (refine wpList_load_row (ty:=74) bc rfl rfl rfl (by kernel_rfl) (by kernel_rfl) ?_;go_simp) | (refine wpList_load_row (ty:=74) b0 rfl rfl rfl (by kernel_rfl) (by kernel_rfl) ?_;go_simp))
       refine hsr.mono ?_
       rintro e Y0 ⟨rfl,hbx⟩
       have s0:=VE.step hbx
       have hX:=s0.bel
       clear d26 VE bc b0 hsr hbx V0 HQ
       cases mm with
       | false=>
        obtain⟨hl,hx⟩:=Hx2.out HM.out
        subst hl hx
        go_wp2_with fail
        refine (num_any 2 Y0).mono ?_
        rintro e YA ⟨rfl,hwA⟩
        subst hwA
        go_wp2_with fail
        refine (known_any Y0).mono ?_
        rintro e YB ⟨rfl,hbB⟩
        go_wp2_with fail
        go_ret
        exact⟨rfl,hX.trans (hbB.mono hX.size)⟩
       | true=>
        obtain⟨hl,hx⟩:=Hx1.out HM.out
        have hlw:=Hw.out (by first | rfl | trivial)
        subst hx
        rw[←hlw] at hl
        subst hl
        have hs1:=run_strD ax _ cx _ Y0 s0.rx
        have hs2:=run_strD aw _ cw _ Y0 s0.rw
        have hq2:=tol_yes ⟨lx.toArray⟩
        clear hlw s0 Hx1 Hx2 Hw
        go_wp2_with fail
        refine (num_any 0 Y0).mono ?_
        rintro e YA ⟨rfl,hwA⟩
        subst hwA
        go_wp2_with fail
        refine (known_any Y0).mono ?_
        rintro e YB ⟨rfl,hbB⟩
        go_wp2_with fail
        go_ret
        exact⟨rfl,hX.trans (hbB.mono hX.size)⟩
end Go.Proofs.YtgeafnggodkpaaaGreat.Msg
