/-
  A part of the proof.
-/
import Derived.Test.YtgeafnggodkpaaaGreatKabh
import Derived.Test.YtgeafnggodkpaaaGreatKabk
import Derived.Test.YtgeafnggodkpaaaGreatKaab
import Derived.Test.YtgeafnggodkpaaaGreatKaak
set_option maxHeartbeats 40000000
namespace Go.Proofs.YtgeafnggodkpaaaGreat.Msg
open Go.RowKit Go.Lib Go.Proofs.YtgeafnggodkpaaaGreat.Mem Go.Proofs.YtgeafnggodkpaaaGreat.Tlv
theorem sliceT_u64:SliceT Tryz.prog 72 41 (.int .u64 0) 1 8:=⟨Tryz.underlying72,by kernel_rfl,rfl,by decide⟩
set_option maxRecDepth 100000 in
theorem clone_u64 (ao:Option Addr)(n cap:Nat)(l:List Nat)(w:World)(hr:Rd w 1 ao n cap (u64V l))(hn:n≤1000000000) :
  Calls Tryz.prog 110 #[.slice ao n cap] w (GivesCp w 1 (u64V l) n ao):=by
 cases ao with
 | none=>
  have hc:=hr.2.2.2.1 rfl
  obtain⟨h0,hx⟩:=hr.empty hc
  subst hc;subst h0
  have hn0:Sem.run Tryz.prog (binOp BinOp.eql 72 (.slice none 0 0) (.slice none 0 0)) w=.ok (.bool true) w:=by kernel_rfl
  go_enter Tryz.func110,Tryz.ntmps110
  go_wp2
  go_ret
  exact⟨none,0,rfl,hr,Below.refl _ _,(fun a ha=>by cases ha),fun _=>⟨rfl,rfl⟩⟩
 | some a=>
  have hn0:Sem.run Tryz.prog (binOp BinOp.eql 72 (.slice (some a) n cap) (.slice none 0 0)) w=.ok (.bool false) w:=by kernel_rfl
  go_enter Tryz.func110,Tryz.ntmps110
  have ho0:(w.alloc (.cells #[] 41)).ownsRow w.heap.size 41 1 (.slice (some ⟨w.heap.size,0,none⟩) 0 0) 0 []:=by
   refine⟨rfl,.inr ⟨w.heap.size,0,#[],rfl,?_⟩⟩
   exact⟨Nat.le_refl _,(by show (w.heap.push _)[w.heap.size]?=some _;simp),Nat.le_refl _,Nat.zero_le _,rfl,rfl⟩
  go_wp2_with (at_builtin;refine wpList_app _ rfl (.tmp 5) (.tmp 6) 72 rfl w.heap.size 41 (.int .u64 0) 1 8 sliceT_u64 _ 0 [] rfl ho0 (some a) n cap (u64V l) rfl (hr.later ((Below.refl _ w).alloc (Nat.le_refl _) _)) (u64V_one _) (by unfold maxLen;omega) (by omega) (by simp) ?_;intro ao' cap' w1 ho1 _ hb1 _)
  go_ret
  exact gives_cp ho1 (((Below.refl _ w).alloc (Nat.le_refl _) _).trans hb1)
structure ApartC (v:OV)(l:Value):Prop where
 a:0<v.ac→∀x,v.ao=some x→some x.block≠l.ownBlock
 b:0<v.bc→∀x,v.bo=some x→some x.block≠l.ownBlock
 c:0<v.cc→∀x,v.co=some x→some x.block≠l.ownBlock
theorem OpAt.grownC {W W':World}{l:Value}{v:OV}{c:OC}(h:OpAt W v c)(hg:W.grownBy W' l.ownBlock)(hd:ApartC v l):OpAt W' v c:=
 ⟨rd_grownG h.a hg hd.a,rd_grownG h.b hg hd.b,rd_grownG h.c hg hd.c,h.la,h.lb,h.lc⟩
theorem ApartC.next {W:World}{v:OV}{c:OC}{l l':Value}(h:ApartC v l)(ho:OpAt W v c)(hn:∀k,l'.ownBlock=some k→l.ownBlock=some k∨W.heap.size≤k):ApartC v l':=by
 refine⟨fun h0 x hx e=>?_,fun h0 x hx e=>?_,fun h0 x hx e=>?_⟩
 ·rcases hn _ e.symm with h1 | h1
  ·exact h.a h0 x hx h1.symm
  have:=ho.a.lt h0 x hx;omega
 ·rcases hn _ e.symm with h1 | h1
  ·exact h.b h0 x hx h1.symm
  have:=ho.b.lt h0 x hx;omega
 rcases hn _ e.symm with h1 | h1
 ·exact h.c h0 x hx h1.symm
 have:=ho.c.lt h0 x hx;omega
structure FreshO (k:Nat)(v:OV):Prop where
 a:∀x,v.ao=some x→k≤x.block
 b:∀x,v.bo=some x→k≤x.block
 c:∀x,v.co=some x→k≤x.block
theorem FreshO.mono {k k':Nat}{v:OV}(h:FreshO k v)(hk:k'≤k):FreshO k' v:=⟨fun x hx=>Nat.le_trans hk (h.a x hx),fun x hx=>Nat.le_trans hk (h.b x hx),fun x hx=>Nat.le_trans hk (h.c x hx)⟩
theorem CopyOf.fresh {W:World}{v u:OV}(h:CopyOf W v u){k:Nat}(hk:k≤W.heap.size):FreshO k u:=⟨fun x hx=>Nat.le_trans hk (h.fa x hx),fun x hx=>Nat.le_trans hk (h.fb x hx),fun x hx=>Nat.le_trans hk (h.fc x hx)⟩
theorem FreshO.apart {k:Nat}{v:OV}{l:Value}(h:FreshO k v)(hl:∀j,l.ownBlock=some j→j<k):ApartC v l:=
 ⟨fun _ x hx e=>by have:=h.a x hx;have:=hl _ e.symm;omega,fun _ x hx e=>by have:=h.b x hx;have:=hl _ e.symm;omega,fun _ x hx e=>by have:=h.c x hx;have:=hl _ e.symm;omega⟩
theorem CopyOf.same {W:World}{v u:OV}(h:CopyOf W v u)(c:OC):sameOp u c v c=true:=by unfold sameOp;exact decide_eq_true ⟨h.ek,h.ename,h.eto,rfl,rfl,rfl,h.en⟩
theorem CopyOf.sameR {W:World}{r:RV}{u:OV}(h:CopyOf W r.op u)(c:OC):sameReq ⟨r.cl,r.nu,u⟩ c r c=true:=by unfold sameReq;rw[h.same c];simp
structure FreshM (k:Nat)(u:MV)(d:MC):Prop where
 so:∀a,u.so=some a→k≤a.block
 lo:∀a,u.lo=some a→k≤a.block
 ho:∀a,u.ho=some a→k≤a.block
 rq:FreshO k u.rq.op
 rs:FreshQ k u.rs d.rs.ents
 log:∀p∈d.log,FreshO k p.1.op
theorem FreshM.mono {k k':Nat}{u:MV}{d:MC}(h:FreshM k u d)(hk:k'≤k):FreshM k' u d:=⟨fun a ha=>Nat.le_trans hk (h.so a ha),fun a ha=>Nat.le_trans hk (h.lo a ha),fun a ha=>Nat.le_trans hk (h.ho a ha),h.rq.mono hk,h.rs.mono hk,fun p hp=>(h.log p hp).mono hk⟩
theorem rd_freshX {M m:Nat}{ys:List Nat}{a b:World}{size n cap:Nat}{ao:Option Addr}{xs:List Value}(hr:Rd a size ao n cap xs)(hX:BelX M ys a b)(hM:a.heap.size≤M)(hy:∀k∈ys,k<m)(hf:∀x,ao=some x→m≤x.block):Rd b size ao n cap xs:=
 rd_belX hr hX (fun h0 x hx=>⟨Nat.lt_of_lt_of_le (hr.lt h0 x hx) hM,fun hm=>by have:=hy _ hm;have:=hf x hx;omega⟩)
theorem OpAt.freshX {M m:Nat}{ys:List Nat}{a b:World}{v:OV}{c:OC}(h:OpAt a v c)(hf:FreshO m v)(hX:BelX M ys a b)(hM:a.heap.size≤M)(hy:∀k∈ys,k<m):OpAt b v c:=
 ⟨rd_freshX h.a hX hM hy hf.a,rd_freshX h.b hX hM hy hf.b,rd_freshX h.c hX hM hy hf.c,h.la,h.lb,h.lc⟩
theorem MAt.freshX {M m:Nat}{ys:List Nat}{a b:World}{u:MV}{d:MC}(h:MAt a u d)(hf:FreshM m u d)(hX:BelX M ys a b)(hM:a.heap.size≤M)(hy:∀k∈ys,k<m):MAt b u d:=
 ⟨h.rq.freshX hf.rq hX hM hy,h.rs.freshX hf.rs hX hM hy,rd_freshX h.sn hX hM hy hf.so,⟨rd_freshX h.lg.r hX hM hy hf.lo,fun p hp=>(h.lg.each p hp).freshX (hf.log p hp) hX hM hy⟩,rd_freshX h.se hX hM hy hf.ho,h.ls,h.lh⟩
def GivesCM (m:MV)(c:MC)(w:World)(e:Ending)(w':World):Prop:=∃(u:MV) (d:MC),e=.returned u.val∧MAt w' u d∧sameMsg u d m c=true∧FreshM w.heap.size u d∧Below w.heap.size w w'
structure CmAt (w:World)(m:MV)(W:World):Prop where
 o:W.heap[w.heap.size]?=some m.box
 z:W.heap[w.heap.size+1]?=some (MV.box ⟨0,0,0,0,0,0,zeroR,zeroQ,0,0,0,none,0,0,none,0,0,0,false,none,0,0⟩)
 bel:Below w.heap.size w W
theorem CmAt.step {w W W':World}{m:MV}(h:CmAt w m W)(hb:Below W.heap.size W W'):CmAt w m W':=⟨mbox_step h.o hb,mbox_step h.z hb,h.bel.trans (hb.mono h.bel.size)⟩
theorem CmAt.turn {w W W':World}{m:MV}{B:Nat}(h:CmAt w m W)(hb:Below B W W')(hB:w.heap.size+2≤B):CmAt w m W':=⟨(hb.block _ (by omega)).trans h.o,(hb.block _ (by omega)).trans h.z,h.bel.trans (hb.mono (by omega))⟩
structure CmLoop (w:World)(m:MV)(c:MC)(k:Nat)(lv:Value)(wr:World):Prop where
 at_:CmAt w m wr
 ex:∃l:List RP,wr.ownsRow (w.heap.size+2) 43 9 lv k (rpV l)∧l.length=k∧(∀p∈l,OpAt wr p.1.op p.2∧FreshO (w.heap.size+2) p.1.op∧ApartC p.1.op lv)∧sameLog l (c.log.take k)=true
def setM (W:World)(b:Nat)(m:MV):World:=(((((((((((((((W.setCell ⟨b,6,none⟩ (.int .u64 m.rq.cl)).setCell ⟨b,7,none⟩ (.int .u64 m.rq.nu)).setCell ⟨b,8,none⟩ (.int .i64 m.rq.op.k)).setCell ⟨b,9,none⟩ (.string m.rq.op.name)).setCell ⟨b,10,none⟩ (.string m.rq.op.to)).setCell ⟨b,11,none⟩ (.slice m.rq.op.ao m.rq.op.an m.rq.op.ac)).setCell ⟨b,12,none⟩ (.slice m.rq.op.bo m.rq.op.bn m.rq.op.bc)).setCell ⟨b,13,none⟩ (.slice m.rq.op.co m.rq.op.cn m.rq.op.cc)).setCell ⟨b,14,none⟩ (.int .i64 m.rq.op.n)).setCell ⟨b,15,none⟩ (.int .i64 m.rs.code)).setCell ⟨b,16,none⟩ (.bool m.rs.yes)).setCell ⟨b,17,none⟩ (.slice m.rs.eo m.rs.en m.rs.ec)).setCell ⟨b,18,none⟩ (.slice m.rs.co m.rs.cn m.rs.cc)).setCell ⟨b,22,none⟩ (.slice m.so m.sn m.sc)).setCell ⟨b,23,none⟩ (.slice m.lo m.ln m.lc))
theorem setM_at {W:World}{b:Nat}{m0 m:MV}(h:W.heap[b]?=some m0.box):(setM W b m).heap[b]?=some (MV.box ⟨m0.k,m0.vi,m0.no,m0.fr,m0.cl,m0.nu,m.rq,m.rs,m0.at_,m0.cm,m0.bs,m.so,m.sn,m.sc,m.lo,m.ln,m.lc,m0.nc,m0.wh,m0.ho,m0.hn,m0.hc⟩):=by
 unfold MV.box MV.cells at h
 have h0:=at_set (i:=6) (x:=.int .u64 m.rq.cl) h
 have h1:=at_set (i:=7) (x:=.int .u64 m.rq.nu) h0
 have h2:=at_set (i:=8) (x:=.int .i64 m.rq.op.k) h1
 have h3:=at_set (i:=9) (x:=.string m.rq.op.name) h2
 have h4:=at_set (i:=10) (x:=.string m.rq.op.to) h3
 have h5:=at_set (i:=11) (x:=.slice m.rq.op.ao m.rq.op.an m.rq.op.ac) h4
 have h6:=at_set (i:=12) (x:=.slice m.rq.op.bo m.rq.op.bn m.rq.op.bc) h5
 have h7:=at_set (i:=13) (x:=.slice m.rq.op.co m.rq.op.cn m.rq.op.cc) h6
 have h8:=at_set (i:=14) (x:=.int .i64 m.rq.op.n) h7
 have h9:=at_set (i:=15) (x:=.int .i64 m.rs.code) h8
 have h10:=at_set (i:=16) (x:=.bool m.rs.yes) h9
 have h11:=at_set (i:=17) (x:=.slice m.rs.eo m.rs.en m.rs.ec) h10
 have h12:=at_set (i:=18) (x:=.slice m.rs.co m.rs.cn m.rs.cc) h11
 have h13:=at_set (i:=22) (x:=.slice m.so m.sn m.sc) h12
 have h14:=at_set (i:=23) (x:=.slice m.lo m.ln m.lc) h13
 unfold setM
 exact h14.trans (by kernel_rfl)
theorem setM_belX {M:Nat}{ys:List Nat}{a:World}{b:Nat}{m:MV}(hb:b∈ys∨M≤b):BelX M ys a (setM a b m):=(((((((((((((((BelX.refl M ys a).set b 6 _ hb).set b 7 _ hb).set b 8 _ hb).set b 9 _ hb).set b 10 _ hb).set b 11 _ hb).set b 12 _ hb).set b 13 _ hb).set b 14 _ hb).set b 15 _ hb).set b 16 _ hb).set b 17 _ hb).set b 18 _ hb).set b 22 _ hb).set b 23 _ hb
theorem setM_below {B:Nat}{w W:World}{b:Nat}{m:MV}(h:Below B w W)(hb:B≤b):Below B w (setM W b m):=(((((((((((((((h.setCell (p:=⟨b,6,none⟩) hb _).setCell (p:=⟨b,7,none⟩) hb _).setCell (p:=⟨b,8,none⟩) hb _).setCell (p:=⟨b,9,none⟩) hb _).setCell (p:=⟨b,10,none⟩) hb _).setCell (p:=⟨b,11,none⟩) hb _).setCell (p:=⟨b,12,none⟩) hb _).setCell (p:=⟨b,13,none⟩) hb _).setCell (p:=⟨b,14,none⟩) hb _).setCell (p:=⟨b,15,none⟩) hb _).setCell (p:=⟨b,16,none⟩) hb _).setCell (p:=⟨b,17,none⟩) hb _).setCell (p:=⟨b,18,none⟩) hb _).setCell (p:=⟨b,22,none⟩) hb _).setCell (p:=⟨b,23,none⟩) hb _)
theorem setM_other {W:World}{b j:Nat}{m:MV}{o:Obj}(h:W.heap[j]?=some o)(hne:j≠b):(setM W b m).heap[j]?=some o:=(at_other (at_other (at_other (at_other (at_other (at_other (at_other (at_other (at_other (at_other (at_other (at_other (at_other (at_other (at_other h hne) hne) hne) hne) hne) hne) hne) hne) hne) hne) hne) hne) hne) hne) hne)
theorem sliceT_rq:SliceT Tryz.prog 71 43 zeroR.val 9 136:=⟨Tryz.underlying71,by kernel_rfl,rfl,by decide⟩
theorem rq_one (r:RV):∀u∈r.cells.toList,u.oneCell'=true:=by
 intro u hu
 simp only[RV.cells,List.mem_cons,List.not_mem_nil,or_false] at hu
 rcases hu with rfl|rfl|rfl|rfl|rfl|rfl|rfl|rfl|rfl<;>rfl
set_option maxRecDepth 100000 in
theorem copyMsg_any (m:MV)(c:MC)(w:World)(h:MAt w m c)(hln:m.ln≤1000000)(hen:m.rs.en≤1000000):Calls Tryz.prog 41 #[m.val] w (GivesCM m c w):=by
 have hmo:Tryz.prog.follows .mixedOrders=true:=by kernel_rfl
 have lx:=h.lg.len
 have LX:=hid lx
 have hb0:Below w.heap.size w ((w.alloc m.box).alloc (MV.box ⟨0,0,0,0,0,0,zeroR,zeroQ,0,0,0,none,0,0,none,0,0,0,false,none,0,0⟩)):=below_two w _ _
 obtain⟨k1,k2⟩:=two_boxes w m.box (MV.box ⟨0,0,0,0,0,0,zeroR,zeroQ,0,0,0,none,0,0,none,0,0,0,false,none,0,0⟩)
 clear lx
 have s0':CmAt w m ((w.alloc m.box).alloc (MV.box ⟨0,0,0,0,0,0,zeroR,zeroQ,0,0,0,none,0,0,none,0,0,0,false,none,0,0⟩)):=⟨k1,k2,hb0⟩
 clear k1 k2 hb0
 unfold MV.val MV.cells
 go_enter Tryz.func41,Tryz.ntmps41
 go_upto_region 1 with fail
 generalize hg:World.alloc _ _=W0
 have e0:(w.alloc m.box).alloc (MV.box ⟨0,0,0,0,0,0,zeroR,zeroQ,0,0,0,none,0,0,none,0,0,0,false,none,0,0⟩)=W0:=hg
 rw[e0] at s0'
 have s0:=s0'
 clear hg e0 s0'
 have c23:=(McAt.of s0.o).c23
 have own0:W0.ownsRow (w.heap.size+2) 43 9 (.slice none 0 0) 0 (rpV []):=World.ownsRow_nil _ _ _ _
 go_wp2_with fail
 clear c23
 go_loopw [3,9] (fun l p wr=>∃k:Nat,k≤m.ln∧p=.int .i64 (k:Int)∧CmLoop w m c k l wr) (fun _ p _=>m.ln-(intOf p).toNat)
 case atStart=>exact⟨0,Nat.zero_le _,rfl,s0,[],own0,rfl,(fun p hp=>by cases hp),rfl⟩
 case round=>
  obtain⟨k,hk,rfl,hL⟩:=hrel
  obtain⟨l,own,hlk,hE,hsm⟩:=hL.ex
  have s1:=hL.at_
  have HLk:=hid hlk
  have HSm:=hid hsm
  clear hL hlk hsm own0 s0
  obtain⟨u3a,u3k,e3,-⟩:=Rd.of_own own
  by_cases hkn:k<m.ln
  ·have hEn:=(h.later s1.bel).lg
   obtain⟨b1,o1,hao,hl1,hc1⟩:=hEn.r.some (by have:=hEn.r.le;omega)
   obtain⟨p,hp⟩:∃p,c.log[k]?=some p:=⟨_,List.getElem?_eq_getElem (by rw[LX.out];exact hkn)⟩
   have hx1:=hEn.r
   rw[hao] at hx1
   have hrg:=rp_range hx1 hp
   unfold RV.cells at hrg
   have hEp:=hEn.each p (List.mem_of_getElem? hp)
   have HP:=hid hp
   have i0:(0:Int)≤(k:Int):=by omega
   have i1:(k:Int)<(m.ln:Int):=by omega
   rw[hao]
   clear hc1 hp hEn hao hx1
   go_upto_region 5 with (first | (refine wpList_load_at (ty:=43) hrg rfl rfl rfl (by kernel_rfl) (by kernel_rfl) ?_;go_simp) | (refine wpList_store_new rfl rfl rfl rfl (by kernel_rfl) rfl (by kernel_rfl) ?_;go_simp))
   generalize hg:wr.alloc _=W1
   have e1:wr.alloc p.1.box=W1:=hg
   have hb1:Below wr.heap.size wr W1:=by rw[←e1];exact (Below.refl _ _).alloc (Nat.le_refl _) _
   have q1:W1.heap[wr.heap.size]?=some p.1.box:=by rw[←e1];show (wr.heap.push _)[wr.heap.size]?=some _;exact Array.getElem?_push_size
   have hcp:=copyReq_any p.1 p.2 W1 (hEp.later hb1)
   unfold RV.val RV.cells at hcp
   unfold RV.box RV.cells at q1
   clear hg e1 hrg
   go_wp2_with (refine wpList_load_row (ty:=43) q1 rfl rfl rfl (by kernel_rfl) (by kernel_rfl) ?_;go_simp)
   refine hcp.mono ?_
   rintro e W2 ⟨Y,rfl,hY,oY,hb2⟩
   have hb12:=hb1.trans (hb2.mono hb1.size)
   have s2:=s1.step hb12
   have own2:=own_later own hb12
   have z2:w.heap.size+2≤W2.heap.size:=(Array.getElem?_eq_some_iff.1 s2.z).1
   have zr:w.heap.size+2≤wr.heap.size:=(Array.getElem?_eq_some_iff.1 s1.z).1
   have hz12:=hb1.size
   subst e3
   have hurow:∀j,(Value.slice u3a k u3k).ownBlock=some j→j<wr.heap.size:=fun j hj=>(own_blk own hj).2.1
   have fY:FreshO wr.heap.size Y:=hY.fresh hz12
   have hsE:=hY.sameR p.2
   have HSE:=hid hsE
   clear hcp q1 hb1 hsE own s1 hY
   unfold RV.val RV.cells
   go_wp2_with (at_builtin;refine wpList_lit3 _ rfl (.tmp 13) (.tmp 16) 71 rfl (w.heap.size+2) 43 zeroR.val 9 136 sliceT_rq (by decide) (.slice u3a k u3k) k (rpV l) rfl own2 1 [.int .u64 p.1.cl,.int .u64 p.1.nu,.int .i64 Y.k,.string Y.name,.string Y.to,.slice Y.ao Y.an Y.ac,.slice Y.bo Y.bn Y.bc,.slice Y.co Y.cn Y.cc,.int .i64 Y.n] rfl rfl (rq_one ⟨p.1.cl,p.1.nu,Y⟩) z2 (by omega) ?_;intro a4 k4 W4 own4 hg4 hb4 hnx)
   have hba:Below W2.heap.size W2 (W2.alloc (.cells #[.int .u64 p.1.cl,.int .u64 p.1.nu,.int .i64 Y.k,.string Y.name,.string Y.to,.slice Y.ao Y.an Y.ac,.slice Y.bo Y.bn Y.bc,.slice Y.co Y.cn Y.cc,.int .i64 Y.n] 43)):=(Below.refl _ _).alloc (Nat.le_refl _) _
   have s4:=s2.turn hb4 (Nat.le_refl _)
   have hE4:∀q∈l++[(⟨p.1.cl,p.1.nu,Y⟩,p.2)],OpAt W4 q.1.op q.2∧FreshO (w.heap.size+2) q.1.op∧ApartC q.1.op (.slice a4 (k+1) k4):=by
    intro q hq
    have key:∀(E:OpAt W2 q.1.op q.2),FreshO (w.heap.size+2) q.1.op→ApartC q.1.op (.slice u3a k u3k)→OpAt W4 q.1.op q.2∧FreshO (w.heap.size+2) q.1.op∧ApartC q.1.op (.slice a4 (k+1) k4):=fun E hf ha=>
     ⟨(E.later hba).grownC hg4 ha,hf,ha.next E (fun j hj=>(hnx j hj).imp id (fun h=>by omega))⟩
    rcases List.mem_append.1 hq with hq | hq
    ·obtain⟨q1,q2,q3⟩:=hE q hq
     exact key (q1.later hb12) q2 q3
    rw[List.mem_singleton] at hq
    subst hq
    exact key oY (fY.mono zr) (fY.apart hurow)
   have hp2:=HP.out
   have HSS:Hid (sameLog (l++[(⟨p.1.cl,p.1.nu,Y⟩,p.2)]) (c.log.take (k+1))=true):=hid (by
    have hlk:=HLk.out
    have h1:=sameLog_next (l++[(⟨p.1.cl,p.1.nu,Y⟩,p.2)]) (c.log.take (k+1)) k (⟨p.1.cl,p.1.nu,Y⟩,p.2) p (by rw[←hlk];simp) (by rw[List.getElem?_take_of_lt (Nat.lt_succ_self k)];exact hp2)
    have e1:(l++[(⟨p.1.cl,p.1.nu,Y⟩,p.2)]:List RP).take (k+1)=l++[(⟨p.1.cl,p.1.nu,Y⟩,p.2)]:=List.take_of_length_le (by simp;omega)
    have e2:(l++[(⟨p.1.cl,p.1.nu,Y⟩,p.2)]:List RP).take k=l:=by rw[←hlk];simp
    have e3:(c.log.take (k+1)).take (k+1)=c.log.take (k+1):=by rw[List.take_take,Nat.min_self]
    have e4:(c.log.take (k+1)).take k=c.log.take k:=by rw[List.take_take,Nat.min_eq_left (Nat.le_succ k)]
    rw[e1,e2,e3,e4] at h1
    rw[h1,HSm.out,HSE.out]
    rfl)
   clear hp2
   go_roundw
   case rel=>
    refine⟨k+1,by omega,by go_num,s4,l++[(⟨p.1.cl,p.1.nu,Y⟩,p.2)],?_,by rw[List.length_append,List.length_singleton,HLk.out],hE4,HSS.out⟩
    rw[rpV_snoc];exact own4
   case measure=>simp[intOf];omega
  have hke:k=m.ln:=by omega
  subst hke
  have hfull:c.log.take m.ln=c.log:=List.take_of_length_le (by rw[LX.out];exact Nat.le_refl _)
  have hsm:sameLog l c.log=true:=by rw[←hfull];exact HSm.out
  have HS:=hid hsm
  obtain⟨a4,k4,e4,r4⟩:=Rd.of_own own
  subst e4
  have hf4:=own_fresh own
  have z1:w.heap.size+2≤wr.heap.size:=(Array.getElem?_eq_some_iff.1 s1.z).1
  have hAt:LgAt wr a4 m.ln k4 l:=⟨r4,fun p hp=>(hE p hp).1⟩
  have hFl:∀p∈l,FreshO (w.heap.size+2) p.1.op:=fun p hp=>(hE p hp).2.1
  clear hfull hsm hkn hk e3 own r4 hE HSm HLk
  go_upto_region 7 with fail
  refine wp_region_T (k:=11) (S:=CmAt w m) hmo ?_
  change wpAnyT _ _ _ _ _ _ _ _ _ (World.drew wr)
  have hd:Below wr.heap.size wr wr.drew:=(Below.refl _ _).drew
  have s2:=s1.step hd
  have hAt2:=hAt.later hd
  have z2:=Nat.le_trans z1 hd.size
  generalize World.drew wr=X0 at *
  clear hd s1 hAt z1
  refine zTp 0 (.pointer (some ⟨w.heap.size,6,none⟩)) rfl s2 ?_
  go_simp
  refine zTa 1 (.agg #[.int .u64 m.rq.cl,.int .u64 m.rq.nu,.int .i64 m.rq.op.k,.string m.rq.op.name,.string m.rq.op.to,.slice m.rq.op.ao m.rq.op.an m.rq.op.ac,.slice m.rq.op.bo m.rq.op.bn m.rq.op.bc,.slice m.rq.op.co m.rq.op.cn m.rq.op.cc,.int .i64 m.rq.op.n]) rfl (by rintro w2 h2;have c6:=(McAt.of h2.o).c6;have c7:=(McAt.of h2.o).c7;have c8:=(McAt.of h2.o).c8;have c9:=(McAt.of h2.o).c9;have c10:=(McAt.of h2.o).c10;have c11:=(McAt.of h2.o).c11;have c12:=(McAt.of h2.o).c12;have c13:=(McAt.of h2.o).c13;have c14:=(McAt.of h2.o).c14;go_simp) s2 ?_
  go_simp
  refine zTp 3 (.pointer (some ⟨w.heap.size,15,none⟩)) rfl s2 ?_
  go_simp
  refine zTa 4 (.agg #[.int .i64 m.rs.code,.bool m.rs.yes,.slice m.rs.eo m.rs.en m.rs.ec,.slice m.rs.co m.rs.cn m.rs.cc]) rfl (by rintro w2 h2;have c15:=(McAt.of h2.o).c15;have c16:=(McAt.of h2.o).c16;have c17:=(McAt.of h2.o).c17;have c18:=(McAt.of h2.o).c18;go_simp) s2 ?_
  go_simp
  refine zTp 6 (.pointer (some ⟨w.heap.size,22,none⟩)) rfl s2 ?_
  go_simp
  refine zTa 7 (.slice m.so m.sn m.sc) rfl (by rintro w2 h2;have c22:=(McAt.of h2.o).c22;go_simp) s2 ?_
  go_simp
  refine wpAnyT_take0 (i:=9) (v:=.slice a4 m.ln k4) rfl (by kernel_rfl) (by kernel_rfl) (by kernel_rfl) (by decide) (fun _ _ _ h=>h) (Or.inl ⟨by kernel_rfl,by intro _ _;kernel_rfl⟩) (.inr s2) ?_
  go_simp
  have hq:=copyReq_any m.rq c.rq X0 (h.later s2.bel).rq
  unfold RV.val RV.cells at hq
  refine zT1 2 rfl (fun K hK=>?_)
  go_simp
  refine hq.mono ?_
  rintro e X1 ⟨uo,rfl,hU,oU,hb1⟩
  have s3:=s2.step hb1
  have hAt3:=hAt2.later hb1
  have fU:=hU.fresh z2
  have z3:=Nat.le_trans z2 hb1.size
  have HU:=hid (hU.sameR c.rq)
  clear hq hU hAt2 s2
  unfold RV.val RV.cells
  go_simp
  refine hK _ _ ⟨.inr s3,?_⟩
  clear hK K
  refine wpAnyT_take0 (i:=10) (v:=.pointer (some ⟨w.heap.size,6,none⟩)) rfl (by kernel_rfl) (by kernel_rfl) (by kernel_rfl) (by decide) (fun _ _ _ h=>h) (Or.inl ⟨by kernel_rfl,by intro _ _;kernel_rfl⟩) (.inr s3) ?_
  go_simp
  have hq:=copyRes_any m.rs c.rs X1 (h.later s3.bel).rs hen
  unfold QV.val QV.cells at hq
  refine zT1 5 rfl (fun K hK=>?_)
  go_simp
  refine hq.mono ?_
  rintro e X2 ⟨qv,ql,rfl,hQ,hQs,hQe,hQc,hQf,hb2⟩
  have s4:=s3.step hb2
  have hAt4:=hAt3.later hb2
  have oU4:=oU.later hb2
  have fQ:=hQf.mono z3
  have z4:=Nat.le_trans z3 hb2.size
  have HQ:=hid hQs
  clear hq hQs hQe hQc hQf hAt3 s3 oU
  unfold QV.val QV.cells
  go_simp
  refine hK _ _ ⟨.inr s4,?_⟩
  clear hK K
  have hq:=clone_byt m.so m.sn m.sc c.snap X2 (h.later s4.bel).sn h.ls
  refine zT1 8 rfl (fun K hK=>?_)
  go_simp
  refine hq.mono ?_
  rintro e X3 ⟨a5,k5,rfl,r5,hb3,hf5,-⟩
  have s5:=s4.step hb3
  have hAt5:=hAt4.later hb3
  have oU5:=oU4.later hb3
  have hQ5:=hQ.later hb3
  have f5:∀a,a5=some a→w.heap.size+2≤a.block:=fun a ha=>Nat.le_trans z4 (hf5 a ha)
  have z5:=Nat.le_trans z4 hb3.size
  clear hq hAt4 s4 oU4 hQ hf5
  go_simp
  refine hK _ _ ⟨.inr s5,?_⟩
  clear hK K
  have c6:=(McAt.of s5.o).c6
  have c7:=(McAt.of s5.o).c7
  have c8:=(McAt.of s5.o).c8
  have c9:=(McAt.of s5.o).c9
  have c10:=(McAt.of s5.o).c10
  have c11:=(McAt.of s5.o).c11
  have c12:=(McAt.of s5.o).c12
  have c13:=(McAt.of s5.o).c13
  have c14:=(McAt.of s5.o).c14
  have c15:=(McAt.of s5.o).c15
  have c16:=(McAt.of s5.o).c16
  have c17:=(McAt.of s5.o).c17
  have c18:=(McAt.of s5.o).c18
  have c19:=(McAt.of s5.o).c19
  have c20:=(McAt.of s5.o).c20
  have c21:=(McAt.of s5.o).c21
  have c22:=(McAt.of s5.o).c22
  have c23:=(McAt.of s5.o).c23
  have c24:=(McAt.of s5.o).c24
  have c25:=(McAt.of s5.o).c25
  have c26:=(McAt.of s5.o).c26
  have zf:=mfrozen s5.o
  refine wpAnyT_last (by kernel_rfl) (by kernel_rfl) ?_
  refine zA1 11 rfl (fun K hK=>?_)
  go_simp
  refine hK _ _ ?_
  clear hK K
  refine zA1 12 rfl (fun K hK=>?_)
  go_simp
  refine hK _ _ ?_
  clear hK K
  refine zA1 13 rfl (fun K hK=>?_)
  go_simp
  refine hK _ _ ?_
  clear hK K
  refine zA1 14 rfl (fun K hK=>?_)
  go_simp
  refine hK _ _ ?_
  clear hK K
  refine zA1 15 rfl (fun K hK=>?_)
  go_simp
  refine hK _ _ ?_
  clear hK K
  refine zA1 16 rfl (fun K hK=>?_)
  go_simp
  refine hK _ _ ?_
  clear hK K
  refine zA1 17 rfl (fun K hK=>?_)
  go_simp
  refine hK _ _ ?_
  clear hK K
  refine wpAny_done (by kernel_rfl) ?_ _
  clear c6 c7 c8 c9 c10 c11 c12 c13 c14 c15 c16 c17 c18 c19 c20 c21 c22 c23 c24 c25 c26 zf
  generalize hg:World.setCell _ _ _=X4
  have e4:setM X3 w.heap.size ⟨m.k,m.vi,m.no,m.fr,m.cl,m.nu,⟨m.rq.cl,m.rq.nu,uo⟩,qv,m.at_,m.cm,m.bs,a5,m.sn,k5,a4,m.ln,k4,m.nc,m.wh,m.ho,m.hn,m.hc⟩=X4:=hg
  have q4:X4.heap[w.heap.size]?=some (MV.box ⟨m.k,m.vi,m.no,m.fr,m.cl,m.nu,⟨m.rq.cl,m.rq.nu,uo⟩,qv,m.at_,m.cm,m.bs,a5,m.sn,k5,a4,m.ln,k4,m.nc,m.wh,m.ho,m.hn,m.hc⟩):=by rw[←e4];exact setM_at s5.o
  have z4':X4.heap[w.heap.size+1]?=some (MV.box ⟨0,0,0,0,0,0,zeroR,zeroQ,0,0,0,none,0,0,none,0,0,0,false,none,0,0⟩):=by rw[←e4];exact setM_other s5.z (by omega)
  have X4b:BelX X3.heap.size [w.heap.size,w.heap.size+1] X3 X4:=by rw[←e4];exact setM_belX (.inl (by simp))
  have b4:Below w.heap.size w X4:=by rw[←e4];exact setM_below s5.bel (Nat.le_refl _)
  clear hg e4
  have hys:∀k∈[w.heap.size,w.heap.size+1],k<w.heap.size+2:=fun k hk=>by simp only[List.mem_cons,List.not_mem_nil,or_false] at hk;omega
  have oU6:=oU5.freshX fU X4b (Nat.le_refl _) hys
  have hQ6:=hQ5.freshX fQ X4b (Nat.le_refl _) hys
  have r6:=rd_freshX r5 X4b (Nat.le_refl _) hys f5
  have hAt6:LgAt X4 a4 m.ln k4 l:=⟨rd_freshX hAt5.r X4b (Nat.le_refl _) hys hf4,fun p hp=>(hAt5.each p hp).freshX (hFl p hp) X4b (Nat.le_refl _) hys⟩
  have z6:=Nat.le_trans z5 X4b.size
  clear X4b s5 oU5 hQ5 r5 hAt5
  have c26:=(McAt.of q4).c26
  go_wp2_with fail
  refine (clone_u64 m.ho m.hn m.hc c.seen X4 (h.later b4).se h.lh).mono ?_
  rintro e X5 ⟨a6,k6,rfl,r7,hb5,hf6,-⟩
  have f6:∀a,a6=some a→w.heap.size+2≤a.block:=fun a ha=>Nat.le_trans z6 (hf6 a ha)
  have q5:=mbox_step q4 hb5
  have z5':=mbox_step z4' hb5
  have b5:=b4.trans (hb5.mono b4.size)
  have c26:=(McAt.of q5).c26
  have zf:=mfrozen q5 26
  have hu5:MAt X5 ⟨m.k,m.vi,m.no,m.fr,m.cl,m.nu,⟨m.rq.cl,m.rq.nu,uo⟩,qv,m.at_,m.cm,m.bs,a5,m.sn,k5,a4,m.ln,k4,m.nc,m.wh,a6,m.hn,k6⟩ ⟨c.rq,⟨ql,c.rs.cursor⟩,c.snap,l,c.seen⟩:=⟨oU6.later hb5,hQ6.later hb5,r6.later hb5,hAt6.later hb5,r7,h.ls,h.lh⟩
  have hfr:FreshM (w.heap.size+2) ⟨m.k,m.vi,m.no,m.fr,m.cl,m.nu,⟨m.rq.cl,m.rq.nu,uo⟩,qv,m.at_,m.cm,m.bs,a5,m.sn,k5,a4,m.ln,k4,m.nc,m.wh,a6,m.hn,k6⟩ ⟨c.rq,⟨ql,c.rs.cursor⟩,c.snap,l,c.seen⟩:=⟨f5,hf4,f6,fU,fQ,hFl⟩
  have hsame:sameMsg ⟨m.k,m.vi,m.no,m.fr,m.cl,m.nu,⟨m.rq.cl,m.rq.nu,uo⟩,qv,m.at_,m.cm,m.bs,a5,m.sn,k5,a4,m.ln,k4,m.nc,m.wh,a6,m.hn,k6⟩ ⟨c.rq,⟨ql,c.rs.cursor⟩,c.snap,l,c.seen⟩ m c=true:=by
   unfold sameMsg
   simp only[HU.out,HQ.out,HS.out,decide_true,Bool.and_self]
  obtain⟨F,hF⟩:∃F:MV,F=⟨m.k,m.vi,m.no,m.fr,m.cl,m.nu,⟨m.rq.cl,m.rq.nu,uo⟩,qv,m.at_,m.cm,m.bs,a5,m.sn,k5,a4,m.ln,k4,m.nc,m.wh,a6,m.hn,k6⟩:=⟨_,rfl⟩
  have q6:(X5.setCell ⟨w.heap.size,26,none⟩ (.slice a6 m.hn k6)).heap[w.heap.size]?=some F.box:=by rw[hF];exact (at_set q5).trans (by kernel_rfl)
  have z6':=at_other (i:=26) (x:=.slice a6 m.hn k6) z5' (show w.heap.size+1≠w.heap.size by omega)
  have X6:BelX X5.heap.size [w.heap.size,w.heap.size+1] X5 (X5.setCell ⟨w.heap.size,26,none⟩ (.slice a6 m.hn k6)):=(BelX.refl _ _ _).set _ _ _ (.inl (by simp))
  have b6:=b5.setCell (p:=⟨w.heap.size,26,none⟩) (Nat.le_refl _) (.slice a6 m.hn k6)
  rw[←hF] at hu5 hfr hsame
  have HSame:=hid hsame
  clear r7 hf6 hb5 q4 z4' oU6 hQ6 r6 hAt6 b4 f5 f6 fU fQ hFl hf4 hF hsame z5' b5 q5
  go_upto_region 9 with fail
  generalize World.setCell X5 _ _=X7 at *
  clear c26 zf
  have X8:=belX_row X6 (w.heap.size+1) F.cells (by simp)
  have hu8:=hu5.freshX hfr X8 (Nat.le_refl _) hys
  have b8:=below_setRow b6 (Nat.le_succ _) F.cells
  have f8:(X7.setRow (w.heap.size+1) F.cells).heap[w.heap.size+1]?=some (.cells F.cells 74):=setRow_at' z6'
  go_wp2_with (first | (refine wpList_load_row (ty:=74) q6 rfl rfl rfl (by kernel_rfl) (by kernel_rfl) ?_;go_simp) | (refine wpList_store_row z6' rfl rfl rfl rfl (by kernel_rfl) rfl (by kernel_rfl) ?_;go_simp))
  exact bodyPost_ret (w:=X7.setRow (w.heap.size+1) F.cells) (results_row1 (i:=2) (t:=74) rfl rfl (by kernel_rfl) (by kernel_rfl) f8) rfl ⟨F,_,rfl,hu8,HSame.out,hfr.mono (by omega),b8⟩
end Go.Proofs.YtgeafnggodkpaaaGreat.Msg
