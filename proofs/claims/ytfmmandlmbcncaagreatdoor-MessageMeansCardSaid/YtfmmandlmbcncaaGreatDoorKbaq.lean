/-
  A part of the proof.
-/
import Derived.Test.YtfmmandlmbcncaaGreatDoorKbap
set_option maxHeartbeats 40000000
namespace Go.Proofs.YtfmmandlmbcncaaGreatDoor.Msg
open Go.RowKit Go.Lib Go.Proofs.YtfmmandlmbcncaaGreatDoor.Mem Go.Proofs.YtfmmandlmbcncaaGreatDoor.Tlv
def comM:FM:=⟨5,1,0,0,0,0,zeroR,0,false,0,2,0,0,false⟩
def comB0:FM:=⟨5,0,0,0,0,0,zeroR,0,false,0,0,0,0,false⟩
def comB1:FM:=⟨5,1,0,0,0,0,zeroR,0,false,0,0,0,0,false⟩
def fldV (t0:Nat):FV:=plainF 118 t0 (t0+1)
def fldM (t5:Nat):FV:=plainF 109 t5 (t5+1)
theorem ofL_com (t0 t1 t2 t3 t4 t5 t6 t7:Nat):ofL 5 false t0 t1 t2 t3 t4 t5 t6 t7=[fldV t0,fldM t5]:=rfl
def fn1:Value:=.func (.func 164) #[] #[]
def fn6:Value:=.func (.func 169) #[] #[]
structure FldAt (b t0 t5 n:Nat)(W:World):Prop where
 row:Rd W 4 (some ⟨b,0,none⟩) 2 n (fV [fldV t0,fldM t5])
 a0:plainAt W 2 fn1 t0 (t0+1)
 a5:plainAt W 10 fn6 t5 (t5+1)
theorem FldAt.pos {b t0 t5 n:Nat}{W:World}(h:FldAt b t0 t5 n W):0<n:=by have:=h.row.2.1;omega
theorem FldAt.cell {b t0 t5 n:Nat}{W:World}(h:FldAt b t0 t5 n W)(j:Nat)(v:Value)(hv:(fV [fldV t0,fldM t5])[j]?=some v):W.cell? ⟨b,j,none⟩=some v:=by
 obtain⟨-,-,q⟩:=h.row.2.2.2.2 h.pos _ rfl
 have:=q j v hv
 rwa [show (0:Nat)+j=j by omega] at this
theorem FldAt.lt {b t0 t5 n:Nat}{W:World}(h:FldAt b t0 t5 n W):b<W.heap.size:=(h.row.2.2.2.2 h.pos _ rfl).2.1
theorem FldAt.later {b t0 t5 n:Nat}{W W':World}(h:FldAt b t0 t5 n W)(hb:Below W.heap.size W W'):FldAt b t0 t5 n W':=⟨h.row.later hb,h.a0.later hb,h.a5.later hb⟩
theorem FldAt.keep {b t0 t5 n:Nat}{W W':World}(h:FldAt b t0 t5 n W)(hz:W.heap.size≤W'.heap.size)(h1:W'.heap[b]?=W.heap[b]?)(h2:W'.heap[t0]?=W.heap[t0]?)(h3:W'.heap[t0+1]?=W.heap[t0+1]?)(h4:W'.heap[t5]?=W.heap[t5]?)(h5:W'.heap[t5+1]?=W.heap[t5+1]?):FldAt b t0 t5 n W':=by
 refine⟨?_,⟨h2.trans h.a0.1,h3.trans h.a0.2⟩,⟨h4.trans h.a5.1,h5.trans h.a5.2⟩⟩
 obtain⟨r1,r2,r3,r4,r5⟩:=h.row
 refine⟨r1,r2,r3,r4,fun h0 a ha=>?_⟩
 cases ha
 obtain⟨s,l,c⟩:=r5 h0 _ rfl
 exact⟨s,Nat.lt_of_lt_of_le l hz,fun j u hu=>(World.cell?_of_block (a:=⟨b,0+j,none⟩) h1).trans (c j u hu)⟩
theorem FldAt.ne {b t0 t5 n k:Nat}{W:World}(h:FldAt b t0 t5 n W){cs:Array Value}{t:TypeId}(hk:W.heap[k]?=some (.cells cs t))(hc:cs[0]?≠some (.int .i32 118))(ht:t≠5)(ht2:t≠251):b≠k∧t0≠k∧t0+1≠k∧t5≠k∧t5+1≠k:=by
 refine⟨?_,?_,?_,?_,?_⟩
 ·rintro rfl
  have h1:=h.cell 0 (.int .i32 118) rfl
  simp only[World.cell?,hk] at h1
  exact hc h1
 all_goals
  intro e
  first
  | (have h1:=h.a0.1;rw[e,hk] at h1;cases h1;exact ht rfl)
  | (have h1:=h.a0.2;rw[e,hk] at h1;cases h1;exact ht2 rfl)
  | (have h1:=h.a5.1;rw[e,hk] at h1;cases h1;exact ht rfl)
  | (have h1:=h.a5.2;rw[e,hk] at h1;cases h1;exact ht2 rfl)
theorem FldAt.oth {b t0 t5 n B tb:Nat}{W W':World}{cs:Array Value}(h:FldAt b t0 t5 n W)(ho:Oth B tb W W')(hk:W.heap[tb]?=some (msgO cs))(hc:cs[0]?≠some (.int .i32 118)):FldAt b t0 t5 n W':=by
 obtain⟨n1,n2,n3,n4,n5⟩:=h.ne hk hc (by decide) (by decide)
 exact h.keep ho.bel.size (ho.oth _ h.lt n1) (ho.oth _ (Array.getElem?_eq_some_iff.1 h.a0.1).1 n2) (ho.oth _ (Array.getElem?_eq_some_iff.1 h.a0.2).1 n3) (ho.oth _ (Array.getElem?_eq_some_iff.1 h.a5.1).1 n4) (ho.oth _ (Array.getElem?_eq_some_iff.1 h.a5.2).1 n5)
structure ComAt (w:World)(M:FM)(W:World):Prop where
 bel:Below w.heap.size w W
 msg:W.heap[w.heap.size]?=some comM.box
 bare:W.heap[w.heap.size+1]?=some M.box
theorem ComAt.lt {w:World}{M:FM}{W:World}(h:ComAt w M W):w.heap.size+1<W.heap.size:=(Array.getElem?_eq_some_iff.1 h.bare).1
theorem ComAt.later {w:World}{M:FM}{W W':World}(h:ComAt w M W)(hb:Below W.heap.size W W'):ComAt w M W':=
 ⟨h.bel.trans (hb.mono h.bel.size),(hb.block _ (Nat.lt_of_succ_lt h.lt)).trans h.msg,(hb.block _ h.lt).trans h.bare⟩
theorem zeroOp (W:World):OpAt W comM.rq.op ⟨[],[],[]⟩:=⟨Rd.nil _ _,Rd.nil _ _,Rd.nil _ _,Nat.zero_le _,Nat.zero_le _,Nat.zero_le _⟩
set_option maxRecDepth 100000 in
theorem well_com (w:World):Calls Tryz.prog 60 #[comM.val] w (GivesB true w):=by
 have hb0:Below w.heap.size w (w.alloc comM.box):=(Below.refl _ _).alloc (Nat.le_refl _) _
 have k0:(w.alloc comM.box).heap[w.heap.size]?=some comM.box:=by show (w.heap.push _)[w.heap.size]?=some _;exact Array.getElem?_push_size
 have hz0:(w.alloc comM.box).heap.size=w.heap.size+1:=by simp
 unfold comM at hb0 k0 hz0
 unfold FM.box FM.cells zeroR zeroV at hb0 k0 hz0
 unfold comM FM.val FM.cells zeroR zeroV
 dsimp only at hb0 k0 hz0 ⊢
 go_enter Tryz.func60,Tryz.ntmps60
 go_upto_region 1 with fail
 generalize hg:w.alloc _=W0 at *
 have k0f:W0.heap[w.heap.size]?=some comM.box:=k0
 have c0:W0.cell? ⟨w.heap.size,0,none⟩=some (.int .i64 5):=mbox_cells k0f 0 _ rfl
 have HZ:=hid hz0
 clear hg k0 hz0
 go_upto_region 2 with (refine wpList_store_new rfl rfl rfl rfl (by kernel_rfl) rfl (by kernel_rfl) ?_;go_simp)
 generalize hg:W0.alloc _=W1
 have hz0:=HZ.out
 have hb1:Below W0.heap.size W0 W1:=by rw[←hg];exact (Below.refl _ _).alloc (Nat.le_refl _) _
 have k1:W1.heap[w.heap.size+1]?=some comB0.box:=by rw[←hg,←hz0];show (W0.heap.push _)[W0.heap.size]?=some _;exact Array.getElem?_push_size
 have hA:ComAt w comB0 W1:=⟨hb0.trans (hb1.mono hb0.size),(hb1.block _ (by rw[hz0];omega)).trans k0f,k1⟩
 rw[hz0]
 clear hg c0 k1 hb1 k0f hz0 hb0 HZ
 have a0:W1.cell? ⟨w.heap.size,0,none⟩=some (.int .i64 5):=mbox_cells hA.msg 0 _ rfl
 have a25:W1.cell? ⟨w.heap.size,25,none⟩=some (.bool false):=mbox_cells hA.msg 25 _ rfl
 go_wp2_with fail
 refine (of_any 5 false W1).mono ?_
 rintro e W2 ⟨b,t0,t1,t2,t3,t4,t5,t6,t7,m,n,rfl,hm,hrd,hat,hb2⟩
 rw[ofL_com] at hm hrd
 have hm1:m=2:=hm
 subst hm1
 have hA2:=hA.later hb2
 have hF2:FldAt b t0 t5 n W2:=⟨hrd,hat.a0,hat.a5⟩
 clear hat hm hA a0 a25 hrd
 go_wp2_with fail
 go_loopw [17] (fun p wr=>(p=.int .i64 0∧ComAt w comB0 wr∧FldAt b t0 t5 n wr)∨(p=.int .i64 1∧ComAt w comB1 wr∧FldAt b t0 t5 n wr)∨(p=.int .i64 2∧ComAt w comM wr)) (fun p _=>2-(intOf p).toNat)
 case atStart=>exact .inl ⟨rfl,hA2,hF2⟩
 case round=>
  rcases hrel with ⟨rfl,hB,hr⟩ | ⟨rfl,hB,hr⟩ | ⟨rfl,hB⟩
  ·have f0:wr.cell? ⟨b,0,none⟩=some (.int .i32 118):=hr.cell 0 _ rfl
   have f1:wr.cell? ⟨b,1,none⟩=some (fldV t0).kp:=hr.cell 1 _ rfl
   have f2:wr.cell? ⟨b,2,none⟩=some (fldV t0).pt:=hr.cell 2 _ rfl
   have f3:wr.cell? ⟨b,3,none⟩=some (fldV t0).tk:=hr.cell 3 _ rfl
   unfold fldV plainF at f1 f2 f3
   dsimp only at f1 f2 f3
   go_upto_region 6 with fail
   generalize hg:wr.alloc _=W3
   have hb3:Below wr.heap.size wr W3:=by rw[←hg];exact (Below.refl _ _).alloc (Nat.le_refl _) _
   have kf:W3.heap[wr.heap.size]?=some (fldV t0).box:=by rw[←hg];show (wr.heap.push _)[wr.heap.size]?=some _;exact Array.getElem?_push_size
   have hB3:=hB.later hb3
   have hr3:=hr.later hb3
   obtain⟨-,g1,-,-,-⟩:=fbox_all kf
   unfold fldV plainF at g1
   dsimp only at g1
   clear hg f0 f1 f2 f3 kf
   go_wp2_with fail
   refine (keepP1 w.heap.size (w.heap.size+1) w.heap.size (t0+1) comB0.cells comM.cells 1 (.int .u64 0) W3 hB3.bare hB3.msg rfl rfl hr3.a0.2 (by omega)).mono ?_
   rintro e W4 ⟨rfl,hbare,hoth⟩
   have hB4:ComAt w comB1 W4:=⟨hB3.bel.trans hoth.bel,(hoth.oth _ (Nat.lt_of_succ_lt hB3.lt) (by omega)).trans hB3.msg,hbare⟩
   have hr4:=hr3.oth hoth hB3.bare (by simp[comB0,FM.cells])
   go_wp2_with fail
   go_roundw
   case rel=>exact .inr (.inl ⟨rfl,hB4,hr4⟩)
   case measure=>simp[intOf]
  ·have f0:wr.cell? ⟨b,4,none⟩=some (.int .i32 109):=hr.cell 4 _ rfl
   have f1:wr.cell? ⟨b,5,none⟩=some (fldM t5).kp:=hr.cell 5 _ rfl
   have f2:wr.cell? ⟨b,6,none⟩=some (fldM t5).pt:=hr.cell 6 _ rfl
   have f3:wr.cell? ⟨b,7,none⟩=some (fldM t5).tk:=hr.cell 7 _ rfl
   unfold fldM plainF at f1 f2 f3
   dsimp only at f1 f2 f3
   go_upto_region 6 with fail
   generalize hg:wr.alloc _=W3
   have hb3:Below wr.heap.size wr W3:=by rw[←hg];exact (Below.refl _ _).alloc (Nat.le_refl _) _
   have kf:W3.heap[wr.heap.size]?=some (fldM t5).box:=by rw[←hg];show (wr.heap.push _)[wr.heap.size]?=some _;exact Array.getElem?_push_size
   have hB3:=hB.later hb3
   have hr3:=hr.later hb3
   obtain⟨-,g1,-,-,-⟩:=fbox_all kf
   unfold fldM plainF at g1
   dsimp only at g1
   clear hg f0 f1 f2 f3 kf
   go_wp2_with fail
   refine (keepP6 w.heap.size (w.heap.size+1) w.heap.size (t5+1) comB1.cells comM.cells 2 (.int .u64 0) W3 hB3.bare hB3.msg rfl rfl hr3.a5.2 (by omega)).mono ?_
   rintro e W4 ⟨rfl,hbare,hoth⟩
   have hB4:ComAt w comM W4:=⟨hB3.bel.trans hoth.bel,(hoth.oth _ (Nat.lt_of_succ_lt hB3.lt) (by omega)).trans hB3.msg,hbare⟩
   go_wp2_with fail
   go_roundw
   case rel=>exact .inr (.inr ⟨rfl,hB4⟩)
   case measure=>simp[intOf]
  have hsame:=same_self comM ⟨[],[],[]⟩ wr (zeroOp wr)
  go_wp2_with (first | (refine wpList_load_row hB.msg rfl rfl rfl (by kernel_rfl) (by kernel_rfl) ?_;go_simp) | (refine wpList_load_row hB.bare rfl rfl rfl (by kernel_rfl) (by kernel_rfl) ?_;go_simp))
  refine hsame.mono ?_
  rintro e W5 ⟨rfl,hb5⟩
  have hB5:=hB.later hb5
  clear hsame
  have a3:W5.cell? ⟨w.heap.size,3,none⟩=some (.int .i64 0):=mbox_cells hB5.msg 3 _ rfl
  have a22:W5.cell? ⟨w.heap.size,22,none⟩=some (.slice none 0 0):=mbox_cells hB5.msg 22 _ rfl
  have a23:W5.cell? ⟨w.heap.size,23,none⟩=some (.slice none 0 0):=mbox_cells hB5.msg 23 _ rfl
  have a26:W5.cell? ⟨w.heap.size,26,none⟩=some (.slice none 0 0):=mbox_cells hB5.msg 26 _ rfl
  go_wp2_with fail
  refine (containsReq_nil _ W5).mono ?_
  rintro e W6 ⟨rfl,hb6⟩
  have hB6:=hB5.later hb6
  clear a3 a22 a23 a26
  have a0:W6.cell? ⟨w.heap.size,0,none⟩=some (.int .i64 5):=mbox_cells hB6.msg 0 _ rfl
  go_wp2_with fail
  go_ret
  exact⟨rfl,hB6.bel⟩
def comL:List UInt8:=val 1 (num8 5)++val 2 (num8 1)++val 10 (num8 2)
theorem comL_len:comL.length=39:=rfl
structure PkAt (w:World)(g b t0 t5 n:Nat)(l:List UInt8)(W:World):Prop where
 bel:Below w.heap.size w W
 msg:W.heap[w.heap.size]?=some comM.box
 wr:∃v,WrAt g g l 0 v W
 lt:w.heap.size<g
 fld:FldAt b t0 t5 n W
theorem own_big {W:World}{B n size k:Nat}{e t:TypeId}{v x:Value}{xs:List Value}(h:W.ownsRow B e size v n xs)(hn:2≤n*size)(hk:W.heap[k]?=some (.cells #[x] t)):v.ownBlock≠some k:=by
 intro e'
 rcases h.2 with ⟨rfl,_⟩ | ⟨g',cap,cur,rfl,_,hc,h1,h2,h3,h4⟩
 ·cases e'
 have:g'=k:=by simpa [Value.ownBlock] using e'
 subst this
 rw[hk] at hc
 have e2:cur=#[x]:=by cases hc;rfl
 have h5:=Nat.le_trans (Nat.mul_le_mul_right size h1) (Nat.le_of_eq h3.symm)
 rw[e2] at h5
 simp at h5
 omega
theorem own_first {W:World}{B n k:Nat}{l:List UInt8}{v x:Value}(h:W.ownsRow B 5 1 v n (byV l))(hl:0<l.length)(hk:W.cell? ⟨k,0,none⟩=some x)(hx:∀z,x≠.int .u8 z):v.ownBlock≠some k:=by
 intro e'
 obtain⟨ao,cap,rfl,hr⟩:=Rd.of_own h
 rcases h.2 with ⟨h1,_⟩ | ⟨g',cap',cur,h1,_⟩
 ·cases h1;cases e'
 cases h1
 have:g'=k:=by simpa [Value.ownBlock] using e'
 subst this
 have hlen:=hr.1
 rw[byV_len] at hlen
 obtain⟨-,-,q⟩:=hr.2.2.2.2 (by have:=hr.2.1;omega) _ rfl
 cases l with
 | nil=>simp at hl
 | cons c l=>
  have:=q 0 (.int .u8 (c.toNat:Int)) rfl
  rw[show (0:Nat)+0=0 by rfl] at this
  rw[hk] at this
  exact hx _ (Option.some.inj this)
theorem FldAt.keepW {b t0 t5 n g:Nat}{W W':World}{l:List UInt8}{v v':Value}(h:FldAt b t0 t5 n W)(hw:WrAt g g l 0 v W)(hl:2≤l.length)(hb:Below g W W')(hk:KeepW g v v' W W'):FldAt b t0 t5 n W':=by
 obtain⟨n1,n2,n3,n4,n5⟩:=h.ne (k:=g) hw.at_ (by simp;exact fun e=>(by rw[e] at hw;have:=hw.own.2;rcases this with ⟨h,_⟩ | ⟨_,_,_,h,_⟩<;>cases h)) (by decide) (by decide)
 have q1:v.ownBlock≠some b:=own_first hw.own (by omega) (h.cell 0 (.int .i32 118) rfl) (fun z e=>by cases e)
 have q2:v.ownBlock≠some t0:=own_big hw.own (by omega) h.a0.1
 have q3:v.ownBlock≠some (t0+1):=own_big hw.own (by omega) h.a0.2
 have q4:v.ownBlock≠some t5:=own_big hw.own (by omega) h.a5.1
 have q5:v.ownBlock≠some (t5+1):=own_big hw.own (by omega) h.a5.2
 exact h.keep hb.size (hk.1 _ h.lt n1 q1) (hk.1 _ (Array.getElem?_eq_some_iff.1 h.a0.1).1 n2 q2) (hk.1 _ (Array.getElem?_eq_some_iff.1 h.a0.2).1 n3 q3) (hk.1 _ (Array.getElem?_eq_some_iff.1 h.a5.1).1 n4 q4) (hk.1 _ (Array.getElem?_eq_some_iff.1 h.a5.2).1 n5 q5)
theorem PkAt.later {w:World}{g b t0 t5 n:Nat}{l:List UInt8}{W W':World}(h:PkAt w g b t0 t5 n l W)(hb:Below W.heap.size W W'):PkAt w g b t0 t5 n l W':=by
 obtain⟨v,hv⟩:=h.wr
 exact⟨h.bel.trans (hb.mono h.bel.size),(hb.block _ (Nat.lt_trans h.lt hv.lt)).trans h.msg,⟨v,hv.later hb⟩,h.lt,h.fld.later hb⟩
theorem PkAt.put {w:World}{g b t0 t5 n:Nat}{l l':List UInt8}{v v':Value}{W W':World}(h:PkAt w g b t0 t5 n l W)(hv:WrAt g g l 0 v W)(hl:2≤l.length)(hw:WrAt g g l' 0 v' W')(hb:Below g W W')(hk:KeepW g v v' W W'):PkAt w g b t0 t5 n l' W':=
 ⟨h.bel.trans (hb.mono (Nat.le_of_lt h.lt)),(hb.block _ h.lt).trans h.msg,⟨v',hw⟩,h.lt,h.fld.keepW hv hl hb hk⟩
set_option maxRecDepth 100000 in
theorem pack_com (w:World):Calls Tryz.prog 61 #[comM.val] w (GivesQ w comL):=by
 have hb0:Below w.heap.size w (w.alloc comM.box):=(Below.refl _ _).alloc (Nat.le_refl _) _
 have k0:(w.alloc comM.box).heap[w.heap.size]?=some comM.box:=by show (w.heap.push _)[w.heap.size]?=some _;exact Array.getElem?_push_size
 have hz0:(w.alloc comM.box).heap.size=w.heap.size+1:=by simp
 unfold comM at hb0 k0 hz0
 unfold FM.box FM.cells zeroR zeroV at hb0 k0 hz0
 unfold comM FM.val FM.cells zeroR zeroV
 dsimp only at hb0 k0 hz0 ⊢
 go_enter Tryz.func61,Tryz.ntmps61
 go_upto_region 1 with fail
 generalize hg:w.alloc _=W0 at *
 have k0f:W0.heap[w.heap.size]?=some comM.box:=k0
 have hlt:w.heap.size<W0.heap.size:=by rw[hz0];exact Nat.lt_succ_self _
 have g0:WrAt W0.heap.size W0.heap.size [] 0 (.slice none 0 0) (W0.alloc (.cells #[.slice none 0 0,.int .i64 0] 177)):=⟨by show (W0.heap.push _)[W0.heap.size]?=some _;exact Array.getElem?_push_size,Nat.le_refl _,World.ownsRow_nil _ _ _ _⟩
 have hm0:(W0.alloc (.cells #[.slice none 0 0,.int .i64 0] 177)).heap[w.heap.size]?=some comM.box:=(((Below.refl _ W0).alloc (Nat.le_refl _) _).block _ hlt).trans k0f
 have hbW:Below w.heap.size w (W0.alloc (.cells #[.slice none 0 0,.int .i64 0] 177)):=hb0.trans (((Below.refl _ _).alloc (Nat.le_refl _) _).mono (Nat.le_of_lt hlt))
 have c1:(W0.alloc (.cells #[.slice none 0 0,.int .i64 0] 177)).cell? ⟨w.heap.size,0,none⟩=some (.int .i64 5):=mbox_cells hm0 0 _ rfl
 clear hg k0 hz0 hb0 k0f
 go_wp2_with fail
 refine (wnumber2 W0.heap.size W0.heap.size [] (.slice none 0 0) 1 5 _ g0 (by decide) (by decide)).mono ?_
 rintro e W1 ⟨rfl,v1,g1,hb1,hk1⟩
 rw[List.nil_append] at g1
 have hm1:W1.heap[w.heap.size]?=some comM.box:=(hb1.block _ hlt).trans hm0
 have hbW1:Below w.heap.size w W1:=hbW.trans (hb1.mono (Nat.le_of_lt hlt))
 clear g0 hm0 hbW c1 hb1 hk1
 generalize W0.heap.size=g at *
 have a0:W1.cell? ⟨w.heap.size,0,none⟩=some (.int .i64 5):=mbox_cells hm1 0 _ rfl
 have a25:W1.cell? ⟨w.heap.size,25,none⟩=some (.bool false):=mbox_cells hm1 25 _ rfl
 go_wp2_with fail
 refine (of_any 5 false W1).mono ?_
 rintro e W2 ⟨b,t0,t1,t2,t3,t4,t5,t6,t7,m,n,rfl,hm2,hrd,hat,hb2⟩
 rw[ofL_com] at hm2 hrd
 have hme:m=2:=hm2
 subst hme
 have hA2:PkAt w g b t0 t5 n (val 1 (num8 5)) W2:=⟨hbW1.trans (hb2.mono hbW1.size),(hb2.block _ (Nat.lt_trans hlt g1.lt)).trans hm1,⟨v1,g1.later hb2⟩,hlt,⟨hrd,hat.a0,hat.a5⟩⟩
 clear hat hm2 a0 a25 hb2 g1 hm1 hbW1 hrd
 go_wp2_with fail
 go_loopw [18] (fun p wr=>(p=.int .i64 0∧PkAt w g b t0 t5 n (val 1 (num8 5)) wr)∨(p=.int .i64 1∧PkAt w g b t0 t5 n (val 1 (num8 5)++val 2 (num8 1)) wr)∨(p=.int .i64 2∧PkAt w g b t0 t5 n comL wr)) (fun p _=>2-(intOf p).toNat)
 case atStart=>exact .inl ⟨rfl,hA2⟩
 case round=>
  rcases hrel with ⟨rfl,hB⟩ | ⟨rfl,hB⟩ | ⟨rfl,hB⟩
  ·have f0:wr.cell? ⟨b,0,none⟩=some (.int .i32 118):=hB.fld.cell 0 _ rfl
   have f1:wr.cell? ⟨b,1,none⟩=some (fldV t0).kp:=hB.fld.cell 1 _ rfl
   have f2:wr.cell? ⟨b,2,none⟩=some (fldV t0).pt:=hB.fld.cell 2 _ rfl
   have f3:wr.cell? ⟨b,3,none⟩=some (fldV t0).tk:=hB.fld.cell 3 _ rfl
   unfold fldV plainF at f1 f2 f3
   dsimp only at f1 f2 f3
   go_upto_region 5 with fail
   generalize hg:wr.alloc _=W3
   have hb3:Below wr.heap.size wr W3:=by rw[←hg];exact (Below.refl _ _).alloc (Nat.le_refl _) _
   have kf:W3.heap[wr.heap.size]?=some (fldV t0).box:=by rw[←hg];show (wr.heap.push _)[wr.heap.size]?=some _;exact Array.getElem?_push_size
   have hB3:=hB.later hb3
   obtain⟨-,-,g1,-,-⟩:=fbox_all kf
   unfold fldV plainF at g1
   dsimp only at g1
   clear hg f0 f1 f2 f3 kf hb3 hB
   obtain⟨v3,hv3⟩:=hB3.wr
   go_wp2_with fail
   refine (putP1 g g w.heap.size t0 (t0+1) (val 1 (num8 5)) v3 comM.cells 1 W3 hv3 (by decide) hB3.msg rfl hB3.fld.a0).mono ?_
   rintro e W4 ⟨rfl,v4,hw4,hb4,hk4⟩
   have hB4:=hB3.put hv3 (by decide) hw4 hb4 hk4
   go_wp2_with fail
   go_roundw
   case rel=>exact .inr (.inl ⟨rfl,hB4⟩)
   case measure=>simp[intOf]
  ·have f0:wr.cell? ⟨b,4,none⟩=some (.int .i32 109):=hB.fld.cell 4 _ rfl
   have f1:wr.cell? ⟨b,5,none⟩=some (fldM t5).kp:=hB.fld.cell 5 _ rfl
   have f2:wr.cell? ⟨b,6,none⟩=some (fldM t5).pt:=hB.fld.cell 6 _ rfl
   have f3:wr.cell? ⟨b,7,none⟩=some (fldM t5).tk:=hB.fld.cell 7 _ rfl
   unfold fldM plainF at f1 f2 f3
   dsimp only at f1 f2 f3
   go_upto_region 5 with fail
   generalize hg:wr.alloc _=W3
   have hb3:Below wr.heap.size wr W3:=by rw[←hg];exact (Below.refl _ _).alloc (Nat.le_refl _) _
   have kf:W3.heap[wr.heap.size]?=some (fldM t5).box:=by rw[←hg];show (wr.heap.push _)[wr.heap.size]?=some _;exact Array.getElem?_push_size
   have hB3:=hB.later hb3
   obtain⟨-,-,g1,-,-⟩:=fbox_all kf
   unfold fldM plainF at g1
   dsimp only at g1
   clear hg f0 f1 f2 f3 kf hb3 hB
   obtain⟨v3,hv3⟩:=hB3.wr
   go_wp2_with fail
   refine (putP6 g g w.heap.size t5 (t5+1) (val 1 (num8 5)++val 2 (num8 1)) v3 comM.cells 2 W3 hv3 (by decide) hB3.msg rfl hB3.fld.a5).mono ?_
   rintro e W4 ⟨rfl,v4,hw4,hb4,hk4⟩
   have hB4:PkAt w g b t0 t5 n comL W4:=hB3.put hv3 (by decide) hw4 hb4 hk4
   go_wp2_with fail
   go_roundw
   case rel=>exact .inr (.inr ⟨rfl,hB4⟩)
   case measure=>simp[intOf]
  obtain⟨v,hv⟩:=hB.wr
  go_wp2_with fail
  refine (wend_ok g g comL v wr hv (by rw[comL_len];decide)).mono ?_
  rintro e W5 ⟨v5,rfl,hown,hb5⟩
  obtain⟨ao,cap,rfl,hr5⟩:=Rd.of_own hown
  have hfr:=own_fresh hown
  have hle:=hB.bel.size
  have hB5:=hB.later hb5
  go_wp2_with fail
  go_ret2
  exact⟨ao,cap,rfl,hr5,hB5.bel,fun a ha=>Nat.le_trans hle (hfr a ha)⟩
set_option maxRecDepth 100000 in
theorem bytes_com (w:World):Calls Tryz.prog 27 #[comM.val] w (GivesQ w comL):=by
 have hb0:Below w.heap.size w (w.alloc comM.box):=(Below.refl _ _).alloc (Nat.le_refl _) _
 have k0:(w.alloc comM.box).heap[w.heap.size]?=some comM.box:=by show (w.heap.push _)[w.heap.size]?=some _;exact Array.getElem?_push_size
 unfold comM at hb0 k0
 unfold FM.box FM.cells zeroR zeroV at hb0 k0
 unfold comM FM.val FM.cells zeroR zeroV
 dsimp only at hb0 k0 ⊢
 go_enter Tryz.func27,Tryz.ntmps27
 go_upto_region 1 with fail
 generalize hg:w.alloc _=W0 at *
 have k0f:W0.heap[w.heap.size]?=some comM.box:=k0
 clear hg k0
 have hwell:=well_com W0
 go_wp2_with (refine wpList_load_row k0f rfl rfl rfl (by kernel_rfl) (by kernel_rfl) ?_;go_simp)
 refine hwell.mono ?_
 rintro e W1 ⟨rfl,hb1⟩
 have k1:W1.heap[w.heap.size]?=some comM.box:=(hb1.block _ (Array.getElem?_eq_some_iff.1 k0f).1).trans k0f
 have hB1:=hb0.trans (hb1.mono hb0.size)
 have hpack:=pack_com W1
 have hl3:(decide ((8388608:Int)<((comL.length:Nat):Int)))=false:=by rw[comL_len];decide
 clear hwell hb1 hb0 k0f
 go_wp2_with (refine wpList_load_row k1 rfl rfl rfl (by kernel_rfl) (by kernel_rfl) ?_;go_simp)
 refine hpack.mono ?_
 rintro e W2 ⟨ao,cap,rfl,hr2,hb2,hf2⟩
 have hB2:=hB1.trans (hb2.mono hB1.size)
 clear hpack hb2 k1
 go_wp2_with fail
 go_ret2
 exact⟨ao,cap,rfl,hr2,hB2,fun a ha=>Nat.le_trans hB1.size (hf2 a ha)⟩
set_option maxRecDepth 100000 in
theorem num_any (z:Int)(w:World):Calls Tryz.prog 28 #[.int .i64 z] w fun e w'=>e=.returned (.int .i64 z)∧w=w':=by
 go_enter Tryz.func28,Tryz.ntmps28
 go_wp2
 go_ret
 exact⟨rfl,rfl⟩
set_option maxRecDepth 100000 in
theorem known_any (w:World):Calls Tryz.prog 25 #[] w (GivesB true w):=by
 have hc:=bytes_com w
 unfold comM FM.val FM.cells zeroR zeroV at hc
 dsimp only at hc
 have hl:comL.length=39:=comL_len
 go_enter Tryz.func25,Tryz.ntmps25
 go_wp2_with fail
 refine hc.mono ?_
 rintro e W1 ⟨ao,cap,rfl,hr,hb,-⟩
 rw[hl]
 clear hc
 go_wp2_with fail
 refine (num_any 0 W1).mono ?_
 rintro e W2 ⟨rfl,rfl⟩
 go_wp2_with fail
 go_ret
 exact⟨rfl,hb⟩
end Go.Proofs.YtfmmandlmbcncaaGreatDoor.Msg
