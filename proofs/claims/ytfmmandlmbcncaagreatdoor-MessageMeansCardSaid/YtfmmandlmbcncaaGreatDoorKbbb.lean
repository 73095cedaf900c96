/-
  A part of the proof.
-/
import Derived.Test.YtfmmandlmbcncaaGreatDoorKbaz
import Derived.Test.YtfmmandlmbcncaaGreatDoorKbak
import Derived.Test.YtfmmandlmbcncaaGreatDoorKbao
import Derived.Test.YtfmmandlmbcncaaGreatDoorKbam
import Derived.Test.YtfmmandlmbcncaaGreatDoorKbag
set_option maxHeartbeats 40000000
namespace Go.Proofs.YtfmmandlmbcncaaGreatDoor.Msg
open Go.RowKit Go.Lib Go.Proofs.YtfmmandlmbcncaaGreatDoor.Mem Go.Proofs.YtfmmandlmbcncaaGreatDoor.Tlv
structure EV where
 name:ByteArray
 ao:Option Addr
 an:Nat
 ac:Nat
def EV.cells (v:EV):Array Value:=#[.string v.name,.slice v.ao v.an v.ac]
def EV.val (v:EV):Value:=.agg v.cells
def EV.box (v:EV):Obj:=.cells v.cells 124
structure EAt (W:World)(v:EV)(x:List (ByteArray×ByteArray)):Prop where
 a:Rd W 2 v.ao v.an v.ac (atV x)
 la:v.an≤1000000000
theorem EAt.later {W W':World}{v:EV}{x:List (ByteArray×ByteArray)}(h:EAt W v x)(hb:Below W.heap.size W W'):EAt W' v x:=⟨h.a.later hb,h.la⟩
theorem ebox_all {W:World}{B:Nat}{v:EV}(h:W.heap[B]?=some v.box):W.cell? ⟨B,0,none⟩=some (.string v.name)∧W.cell? ⟨B,1,none⟩=some (.slice v.ao v.an v.ac)∧∀i,W.frozen? ⟨B,i,none⟩=false:=by
 unfold EV.box EV.cells at h
 simp[World.cell?,World.frozen?,h]
def sameEntry (v:EV)(x:List (ByteArray×ByteArray))(v':EV)(x':List (ByteArray×ByteArray)):Bool:=decide (v.name=v'.name)&&decide (x=x')
def mayEntry (v:EV)(x:List (ByteArray×ByteArray)):Bool:=mayName v.name&&mayAttrs x
set_option maxRecDepth 100000 in
theorem sameEntry_any (v v':EV)(x x':List (ByteArray×ByteArray))(w:World)(h:EAt w v x)(h':EAt w v' x'):Calls Tryz.prog 173 #[v.val,v'.val] w (GivesB (sameEntry v x v' x') w):=by
 have hb0:Below w.heap.size w ((w.alloc v.box).alloc v'.box):=below_two w _ _
 obtain⟨k1,k2⟩:=two_boxes w v.box v'.box
 have hsame:=equal_att v.ao v'.ao v.an v'.an v.ac v'.ac x x' _ (h.a.later hb0) (h'.a.later hb0) h.la
 unfold EV.box EV.cells at hb0 k1 k2 hsame
 unfold EV.val EV.cells
 by_cases e1:v.name=v'.name
 case neg=>
  have f1:(v.name.toList==v'.name.toList)=false:=tol_no e1
  have Hs:Hid (sameEntry v x v' x'=false):=hid (by unfold sameEntry;rw[decide_eq_false e1];simp)
  clear e1 hsame
  go_enter Tryz.func173,Tryz.ntmps173
  go_wp2_with fail
  go_ret
  exact⟨by rw[Hs.out];rfl,hb0⟩
 have f1:(v.name.toList==v'.name.toList)=true:=by simp[e1]
 have Hs:Hid (sameEntry v x v' x'=decide (x=x')):=hid (by unfold sameEntry;rw[decide_eq_true e1];simp)
 clear e1
 go_enter Tryz.func173,Tryz.ntmps173
 go_wp2_with fail
 refine hsame.mono ?_
 rintro e w1 ⟨rfl,hb1⟩
 rw[←Hs.out]
 go_wp2_with fail
 go_ret
 exact⟨rfl,hb0.trans (hb1.mono hb0.size)⟩
set_option maxRecDepth 100000 in
theorem rSameEntry_any (v v':EV)(x x':List (ByteArray×ByteArray))(w:World)(h:EAt w v x)(h':EAt w v' x'):Calls Tryz.prog 57 #[v.val,v'.val] w (GivesB (sameEntry v x v' x') w):=by
 have hb0:Below w.heap.size w ((w.alloc v.box).alloc v'.box):=below_two w _ _
 obtain⟨k1,k2⟩:=two_boxes w v.box v'.box
 have hsame:=rSameAttrs_any v.ao v'.ao v.an v'.an v.ac v'.ac x x' _ (h.a.later hb0) (h'.a.later hb0) h.la
 unfold EV.box EV.cells at hb0 k1 k2 hsame
 unfold EV.val EV.cells
 by_cases e1:v.name=v'.name
 case neg=>
  have f1:(v.name.toList==v'.name.toList)=false:=tol_no e1
  have Hs:Hid (sameEntry v x v' x'=false):=hid (by unfold sameEntry;rw[decide_eq_false e1];simp)
  clear e1 hsame
  go_enter Tryz.func57,Tryz.ntmps57
  go_wp2_with fail
  go_ret
  exact⟨by rw[Hs.out];rfl,hb0⟩
 have f1:(v.name.toList==v'.name.toList)=true:=by simp[e1]
 have Hs:Hid (sameEntry v x v' x'=decide (x=x')):=hid (by unfold sameEntry;rw[decide_eq_true e1];simp)
 clear e1
 go_enter Tryz.func57,Tryz.ntmps57
 go_wp2_with fail
 refine hsame.mono ?_
 rintro e w1 ⟨rfl,hb1⟩
 rw[←Hs.out]
 go_wp2_with fail
 go_ret
 exact⟨rfl,hb0.trans (hb1.mono hb0.size)⟩
set_option maxRecDepth 100000 in
theorem mayEntry_any (v:EV)(x:List (ByteArray×ByteArray))(w:World)(h:EAt w v x):Calls Tryz.prog 145 #[v.val] w (GivesB (mayEntry v x) w):=by
 have hb0:Below w.heap.size w (w.alloc v.box):=(Below.refl _ _).alloc (Nat.le_refl _) _
 have k0:(w.alloc v.box).heap[w.heap.size]?=some v.box:=by show (w.heap.push _)[w.heap.size]?=some _;exact Array.getElem?_push_size
 unfold EV.box EV.cells at hb0 k0
 unfold EV.val EV.cells
 go_enter Tryz.func145,Tryz.ntmps145
 go_upto_region 1 with fail
 generalize hg:w.alloc _=W0 at *
 have k0f:W0.heap[w.heap.size]?=some v.box:=k0
 clear hg k0
 obtain⟨c0,c1,-⟩:=ebox_all k0f
 go_wp2_with fail
 refine (mayName_any v.name W0).mono ?_
 rintro e W1 ⟨rfl,hb1⟩
 have k1f:=(hb1.block _ (Array.getElem?_eq_some_iff.1 k0f).1).trans k0f
 have hb1':=hb0.trans (hb1.mono hb0.size)
 clear c0 c1
 obtain⟨c0,c1,-⟩:=ebox_all k1f
 cases hm:mayName v.name with
 | false=>
  have HM:=hid hm
  clear hm
  go_wp2_with fail
  go_ret
  exact⟨by unfold mayEntry;rw[HM.out];rfl,hb1'⟩
 | true=>
  have HM:=hid hm
  clear hm
  go_wp2_with fail
  refine (mayAttrs_any v.ao v.an v.ac x W1 (h.a.later hb1') h.la).mono ?_
  rintro e W2 ⟨rfl,hb2⟩
  go_wp2_with fail
  go_ret
  exact⟨by unfold mayEntry;rw[HM.out];rfl,hb1'.trans (hb2.mono hb1'.size)⟩
theorem mayResult1_any (v:EV)(x:List (ByteArray×ByteArray))(w:World)(h:EAt w v x):Calls Tryz.prog 144 #[v.val] w (GivesB (!mayEntry v x) w):=by
 have hb0:Below w.heap.size w (w.alloc v.box):=(Below.refl _ _).alloc (Nat.le_refl _) _
 have k0:(w.alloc v.box).heap[w.heap.size]?=some v.box:=by show (w.heap.push _)[w.heap.size]?=some _;exact Array.getElem?_push_size
 have hc:=mayEntry_any v x _ (h.later hb0)
 unfold EV.box EV.cells at hb0 k0 hc
 unfold EV.val EV.cells at hc
 unfold EV.val EV.cells
 go_enter Tryz.func144,Tryz.ntmps144
 go_wp2_with fail
 refine hc.mono ?_
 rintro e W1 ⟨rfl,hb1⟩
 go_wp2_with fail
 go_ret
 exact⟨rfl,hb0.trans (hb1.mono hb0.size)⟩
def entL (v:EV)(x:List (ByteArray×ByteArray)):List UInt8:=val 1 v.name.data.toList++val 2 (attB x)
structure FitE (v:EV)(x:List (ByteArray×ByteArray)):Prop where
 name:v.name.size≤1000
 n:x.length≤50
 attrs:∀u∈x,u.1.size≤1000∧u.2.size≤1000
 len:(attB x).length≤100750
theorem attB_fits {x:List (ByteArray×ByteArray)}(h1:x.length≤50)(h2:∀u∈x,u.1.size≤1000∧u.2.size≤1000):(attB x).length≤100750:=by
 have:=atE_all x x.length (Nat.le_refl _)
 rw[List.take_length] at this
 rw[←this]
 have h9:=allIt_le (atE x) 2015 x.length (fun i hi=>by
  have:=h2 x[i] (List.getElem_mem hi)
  simp only[atE,List.getElem?_eq_getElem hi,Option.getD_some,val_len,List.length_append,sz_len]
  omega)
 exact Nat.le_trans h9 (Nat.mul_le_mul_right 2015 h1)
theorem FitE.of {v:EV}{x:List (ByteArray×ByteArray)}(h:mayEntry v x=true):FitE v x:=by
 unfold mayEntry mayAttrs at h
 simp only[Bool.and_eq_true,decide_eq_true_eq] at h
 obtain⟨h1,⟨h2,-⟩,h3⟩:=h
 have ha:∀u∈x,u.1.size≤1000∧u.2.size≤1000:=fun u hu=>mayAttr_le (List.all_eq_true.1 h2 u hu)
 exact⟨mayName_le h1,h3,ha,attB_fits h3 ha⟩
theorem entL_len {v:EV}{x:List (ByteArray×ByteArray)}(h:mayEntry v x=true):(entL v x).length≤101760:=by
 have f:=FitE.of h
 have h1:=f.name
 have h2:=f.len
 have h3:v.name.data.toList.length=v.name.size:=sz_len _
 unfold entL
 rw[List.length_append,val_len,val_len]
 omega
def GivesEB (v:EV)(x:List (ByteArray×ByteArray))(w:World)(e:Ending)(w':World):Prop:=∃(l:List UInt8) (ax:Option Addr) (cx:Nat) (ex:Int),e=.returned (.tuple #[.slice ax l.length cx,.int .i64 ex])∧Rd w' 1 ax l.length cx (byV l)∧Below w.heap.size w w'∧(∀a,ax=some a→w.heap.size≤a.block)∧(mayEntry v x=true→l=entL v x∧ex=0)∧(mayEntry v x=false→l=[]∧ex=2)
set_option maxRecDepth 100000 in
theorem entBytes_any (v:EV)(x:List (ByteArray×ByteArray))(w:World)(h:EAt w v x):Calls Tryz.prog 178 #[v.val] w (GivesEB v x w):=by
 have lx:x.length=v.an:=by have:=h.a.1;rw[atV_len] at this;omega
 have hb0:Below w.heap.size w (w.alloc v.box):=(Below.refl _ _).alloc (Nat.le_refl _) _
 have k0:(w.alloc v.box).heap[w.heap.size]?=some v.box:=by show (w.heap.push _)[w.heap.size]?=some _;exact Array.getElem?_push_size
 unfold EV.box EV.cells at hb0 k0
 unfold EV.val EV.cells
 go_enter Tryz.func178,Tryz.ntmps178
 go_upto_region 1 with fail
 generalize hg:w.alloc _=W0 at *
 have k0f:W0.heap[w.heap.size]?=some v.box:=k0
 have hh:=h.later hb0
 clear hg k0
 have hc:=mayEntry_any v x W0 hh
 unfold EV.val EV.cells at hc
 obtain⟨c0,c1,-⟩:=ebox_all k0f
 go_wp2_with fail
 refine hc.mono ?_
 rintro e W1 ⟨rfl,hb1⟩
 have k1f:=(hb1.block _ (Array.getElem?_eq_some_iff.1 k0f).1).trans k0f
 have hb1':=hb0.trans (hb1.mono hb0.size)
 clear hc c0 c1
 cases hm:mayEntry v x with
 | false=>
  have HM:=hid hm
  clear hm
  go_wp2_with fail
  go_ret2
  exact⟨[],none,0,2,rfl,Rd.nil _ _,hb1',(fun a ha=>by cases ha),fun h=>(by rw[HM.out] at h;cases h),fun _=>⟨rfl,rfl⟩⟩
 | true=>
  have HM:=hid hm
  have F:=FitE.of hm
  have f1:=F.name
  clear hm
  obtain⟨c0,c1,-⟩:=ebox_all k1f
  have hw:WrS W1.heap.size W1.heap.size ⟨[],0⟩ (W1.alloc (.cells #[.slice none 0 0,.int .i64 0] 177)):=⟨_,by show (W1.heap.push _)[W1.heap.size]?=some _;exact Array.getElem?_push_size,Nat.le_refl _,World.ownsRow_nil _ _ _ _⟩
  have hbw:Below W1.heap.size W1 (W1.alloc (.cells #[.slice none 0 0,.int .i64 0] 177)):=(Below.refl _ _).alloc (Nat.le_refl _) _
  have k2f:=(hbw.block _ (Array.getElem?_eq_some_iff.1 k1f).1).trans k1f
  obtain⟨g0,g1,-⟩:=ebox_all k2f
  go_wp2_with fail
  refine (wtext_any W1.heap.size W1.heap.size ⟨[],0⟩ 1 v.name _ hw (by decide) (by omega)).mono ?_
  rintro e W3 ⟨rfl,hw3,hb3,-⟩
  have hb13:=hbw.trans hb3
  have k3f:=(hb13.block _ (Array.getElem?_eq_some_iff.1 k1f).1).trans k1f
  clear c0 c1 g0 g1
  obtain⟨c0,c1,-⟩:=ebox_all k3f
  go_wp2_with fail
  have e1:(WS.put ⟨[],0⟩ 1 v.name.data.toList)=⟨val 1 v.name.data.toList,0⟩:=rfl
  rw[e1] at hw3
  have h3:=hh.later (hb1.trans (hb13.mono hb1.size))
  refine (attPut_any W1.heap.size W1.heap.size _ 2 v.ao v.an v.ac x W3 hw3 rfl (by dsimp only;rw[val_len,sz_len];omega) h3.a (by rw[←lx];exact F.n) F.attrs).mono ?_
  rintro e W4 ⟨⟨r,rfl⟩,hw4,hb4,-⟩
  have hb14:=hb13.trans hb4
  have e2:(WS.put ⟨val 1 v.name.data.toList,0⟩ 2 (attB x))=⟨entL v x,0⟩:=rfl
  rw[e2] at hw4
  obtain⟨vw,hw4⟩:=hw4
  have hln:=entL_len HM.out
  go_wp2_with fail
  refine (wend_ok _ _ _ _ _ hw4 (by omega)).mono ?_
  rintro e W5 ⟨v5,rfl,ho5,hb5⟩
  obtain⟨a5,c5,rfl,hr5⟩:=Rd.of_own ho5
  have hf5:=own_fresh ho5
  have hz:=(hb1'.trans (hb14.mono hb1'.size))
  go_wp2_with fail
  go_ret2
  exact⟨_,a5,c5,0,rfl,hr5,hz.trans (hb5.mono hz.size),fun a ha=>Nat.le_trans hz.size (hf5 a ha),fun _=>⟨rfl,rfl⟩,fun h=>(by rw[HM.out] at h;cases h)⟩
end Go.Proofs.YtfmmandlmbcncaaGreatDoor.Msg
namespace Go.Proofs.YtfmmandlmbcncaaGreatDoor.Msg
open Go.RowKit Go.Lib Go.Proofs.YtfmmandlmbcncaaGreatDoor.Mem Go.Proofs.YtfmmandlmbcncaaGreatDoor.Utf Go.Proofs.YtfmmandlmbcncaaGreatDoor.Tlv
def zeroE:EV:=⟨⟨#[]⟩,none,0,0⟩
end Go.Proofs.YtfmmandlmbcncaaGreatDoor.Msg
namespace Go.Proofs.YtfmmandlmbcncaaGreatDoor.Msg
open Go.RowKit Go.Lib Go.Proofs.YtfmmandlmbcncaaGreatDoor.Mem Go.Proofs.YtfmmandlmbcncaaGreatDoor.Tlv
abbrev EP:=EV×List (ByteArray×ByteArray)
def enV (l:List EP):List Value:=l.flatMap fun p=>p.1.cells.toList
theorem enV_len (l:List EP):(enV l).length=l.length*2:=by
 induction l with
 | nil=>rfl
 | cons p l ih=>simp only[enV,List.flatMap_cons,List.length_append,EV.cells,List.length_cons] at ih ⊢;simp only[List.length_nil];omega
theorem enV_at:∀(l:List EP) (k:Nat) (p:EP),l[k]?=some p→(enV l)[k*2]?=some (.string p.1.name)∧(enV l)[k*2+1]?=some (.slice p.1.ao p.1.an p.1.ac)
 | [],k,p,h=>by simp at h
 | q::l,0,p,h=>by
  obtain rfl:q=p:=by simpa using h
  exact⟨rfl,rfl⟩
 | q::l,k+1,p,h=>by
  obtain⟨h1,h2⟩:=enV_at l k p (by simpa using h)
  have e1:(k+1)*2=k*2+1+1:=by omega
  have e:enV (q::l)=.string q.1.name::.slice q.1.ao q.1.an q.1.ac::enV l:=rfl
  rw[e,e1]
  exact⟨h1,h2⟩
structure EnAt (W:World)(ao:Option Addr)(n cap:Nat)(l:List EP):Prop where
 r:Rd W 2 ao n cap (enV l)
 each:∀p∈l,EAt W p.1 p.2
theorem EnAt.later {W W':World}{ao:Option Addr}{n cap:Nat}{l:List EP}(h:EnAt W ao n cap l)(hb:Below W.heap.size W W'):EnAt W' ao n cap l:=⟨h.r.later hb,fun p hp=>(h.each p hp).later hb⟩
theorem EnAt.len {W:World}{ao:Option Addr}{n cap:Nat}{l:List EP}(h:EnAt W ao n cap l):l.length=n:=by have:=h.r.1;rw[enV_len] at this;omega
set_option maxRecDepth 100000 in
theorem index_ent (ao:Option Addr)(n cap:Nat)(x:List EP)(w:World)(h:EnAt w ao n cap x) :
  Calls Tryz.prog 174 #[.slice ao n cap,.func (.func 144) #[] #[]] w (GivesI (x.any fun u=>!mayEntry u.1 u.2) w):=by
 have lx:=h.len
 have hx:=h.r
 have LX:=hid lx
 have hcap:n≤9223372036854775807:=by have:=hx.2.1;have:=hx.2.2.1;unfold maxLen at this;omega
 clear lx
 go_enter Tryz.func174,Tryz.ntmps174
 go_wp2_with fail
 go_loopw [8] (fun p wr=>∃k:Nat,k≤n∧p=.int .i64 (k:Int)∧Hid ((x.take k).any (fun u=>!mayEntry u.1 u.2)=false)∧Below w.heap.size w wr) (fun p _=>n-(intOf p).toNat)
 case atStart=>exact⟨0,Nat.zero_le _,rfl,hid rfl,Below.refl _ _⟩
 case round=>
  obtain⟨k,hk,rfl,Ht,hbr⟩:=hrel
  by_cases hkn:k<n
  ·obtain⟨b1,o1,rfl,hl1,hc1⟩:=hx.some (by have:=hx.le;omega)
   obtain⟨u,hu⟩:∃u,x[k]?=some u:=⟨_,List.getElem?_eq_getElem (by rw[LX.out];exact hkn)⟩
   obtain⟨v1,v2⟩:=enV_at x k u hu
   have c1:=(hbr.cell (p:=⟨b1,o1+k*2,none⟩) hl1).trans (hc1 (k*2) _ v1)
   have c2:wr.cell? ⟨b1,o1+k*2+1,none⟩=_:=(hbr.cell (p:=⟨b1,o1+(k*2+1),none⟩) hl1).trans (hc1 (k*2+1) _ v2)
   have hE:=(h.each u (List.mem_of_getElem? hu)).later hbr
   have hc:=fun W (hb:Below wr.heap.size wr W)=>mayResult1_any u.1 u.2 W (hE.later hb)
   unfold EV.val EV.cells at hc
   clear v1 v2
   have i0:(0:Int)≤(k:Int):=by omega
   have i1:(k:Int)<(n:Int):=by omega
   go_wp2_with fail
   refine (hc _ (by first | exact Below.refl _ _ | exact (Below.refl _ _).alloc (Nat.le_refl _) _)).mono ?_
   rintro e w1 ⟨rfl,hb1⟩
   have hb2:=hbr.trans (hb1.mono hbr.size)
   by_cases hm:(!mayEntry u.1 u.2)=true
   ·have Hs:=hid (any_here (fun u:EP=>!mayEntry u.1 u.2) x k u hu hm)
    rw[hm]
    go_wp2_with fail
    go_ret
    exact⟨k,rfl,by rw[Hs.out];simp,hb2⟩
   have hm2:(!mayEntry u.1 u.2)=false:=by simpa using hm
   have Hs:=hid (any_next (fun u:EP=>!mayEntry u.1 u.2) x k u hu Ht.out hm2)
   rw[hm2]
   go_wp2_with fail
   go_roundw
   case rel=>exact⟨k+1,by omega,by go_num,Hs,hb2⟩
   case measure=>simp[intOf];omega
  have Hs:Hid (x.any (fun u=>!mayEntry u.1 u.2)=false):=hid (by have:=Ht.out;rw[List.take_of_length_le (by rw[LX.out];omega)] at this;exact this)
  have hkn2:k=n:=by omega
  subst hkn2
  go_wp2_with fail
  go_ret
  exact⟨-1,rfl,by rw[Hs.out];rfl,hbr⟩
set_option maxRecDepth 100000 in
theorem contains_ent (ao:Option Addr)(n cap:Nat)(x:List EP)(w:World)(hx:EnAt w ao n cap x) :
  Calls Tryz.prog 143 #[.slice ao n cap,.func (.func 144) #[] #[]] w (GivesB (x.any fun u=>!mayEntry u.1 u.2) w):=by
 go_enter Tryz.func143,Tryz.ntmps143
 go_wp2_with fail
 refine (index_ent _ _ _ x _ hx).mono ?_
 rintro e w1 ⟨r,rfl,hr,hb1⟩
 have Hr:=hid hr
 clear hr
 go_wp2_with fail
 go_ret
 exact⟨by rw[←Hr.out];rfl,hb1⟩
def sameEnts:List EP→List EP→Bool
 | [],[]=>true
 | p::l,q::m=>sameEntry p.1 p.2 q.1 q.2&&sameEnts l m
 | _,_=>false
theorem sameEnts_len:∀ {l m:List EP},sameEnts l m=true→l.length=m.length
 | [],[],_=>rfl
 | p::l,q::m,h=>by
  unfold sameEnts at h
  simp only[Bool.and_eq_true] at h
  simp[sameEnts_len h.2]
 | [],_::_,h=>by cases h
 | _::_,[],h=>by cases h
theorem sameEnts_cut:∀(l m:List EP) (k:Nat),sameEnts (l.take k) (m.take k)=false→l.length=m.length→sameEnts l m=false
 | [],[],_,h,_=>by simp[sameEnts] at h
 | p::l,q::m,0,h,_=>by simp[sameEnts] at h
 | p::l,q::m,k+1,h,hl=>by
  rw[List.take_succ_cons,List.take_succ_cons] at h
  unfold sameEnts at h ⊢
  cases h1:sameEntry p.1 p.2 q.1 q.2 with
  | false=>rfl
  | true=>
   rw[h1,Bool.true_and] at h
   rw[Bool.true_and]
   exact sameEnts_cut l m k h (by simpa using hl)
 | [],_::_,_,_,hl=>by simp at hl
 | _::_,[],_,_,hl=>by simp at hl
theorem sameEnts_next:∀(l m:List EP) (k:Nat) (p q:EP),l[k]?=some p→m[k]?=some q→sameEnts (l.take (k+1)) (m.take (k+1))=(sameEnts (l.take k) (m.take k)&&sameEntry p.1 p.2 q.1 q.2)
 | [],_,k,p,q,h,_=>by simp at h
 | _::_,[],k,p,q,_,h=>by simp at h
 | a::l,b::m,0,p,q,h1,h2=>by
  obtain rfl:a=p:=by simpa using h1
  obtain rfl:b=q:=by simpa using h2
  simp[sameEnts]
 | a::l,b::m,k+1,p,q,h1,h2=>by
  have:=sameEnts_next l m k p q (by simpa using h1) (by simpa using h2)
  rw[List.take_succ_cons,List.take_succ_cons,List.take_succ_cons,List.take_succ_cons]
  unfold sameEnts
  rw[this,Bool.and_assoc]
set_option maxRecDepth 100000 in
theorem eqfEnt_any (ao bo:Option Addr)(n m cap cbp:Nat)(x y:List EP)(w:World)(hx:EnAt w ao n cap x)(hy:EnAt w bo m cbp y) :
  Calls Tryz.prog 172 #[.slice ao n cap,.slice bo m cbp,.func (.func 173) #[] #[]] w (GivesB (sameEnts x y) w):=by
 have lx:=hx.len
 have ly:=hy.len
 have hcap:n≤9223372036854775807:=by have:=hx.r.2.1;have:=hx.r.2.2.1;unfold maxLen at this;omega
 by_cases hnm:n=m
 case neg=>
  have f1:((n:Int)==(m:Int))=false:=by rw[beq_eq_false_iff_ne];omega
  have Hs:Hid (sameEnts x y=false):=hid (by
   cases h:sameEnts x y with
   | false=>rfl
   | true=>have:=sameEnts_len h;omega)
  clear lx ly
  go_enter Tryz.func172,Tryz.ntmps172
  go_wp2_with fail
  go_ret
  exact⟨by rw[Hs.out];rfl,Below.refl _ _⟩
 subst hnm
 have LX:=hid lx
 have LY:=hid ly
 clear lx ly
 go_enter Tryz.func172,Tryz.ntmps172
 go_wp2_with fail
 go_loopw [17] (fun p wr=>∃k:Nat,k≤n∧p=.int .i64 (k:Int)∧Hid (sameEnts (x.take k) (y.take k)=true)∧Below w.heap.size w wr) (fun p _=>n-(intOf p).toNat)
 case atStart=>exact⟨0,Nat.zero_le _,rfl,hid rfl,Below.refl _ _⟩
 case round=>
  obtain⟨k,hk,rfl,Ht,hbr⟩:=hrel
  by_cases hkn:k<n
  ·obtain⟨b1,o1,rfl,hl1,hc1⟩:=hx.r.some (by have:=hx.r.le;omega)
   obtain⟨b2,o2,rfl,hl2,hc2⟩:=hy.r.some (by have:=hy.r.le;omega)
   obtain⟨u,hu⟩:∃u,x[k]?=some u:=⟨_,List.getElem?_eq_getElem (by rw[LX.out];exact hkn)⟩
   obtain⟨v,hv⟩:∃v,y[k]?=some v:=⟨_,List.getElem?_eq_getElem (by rw[LY.out];exact hkn)⟩
   obtain⟨v1,v2⟩:=enV_at x k u hu
   obtain⟨v3,v4⟩:=enV_at y k v hv
   have c1:=(hbr.cell (p:=⟨b1,o1+k*2,none⟩) hl1).trans (hc1 (k*2) _ v1)
   have c2:wr.cell? ⟨b1,o1+k*2+1,none⟩=_:=(hbr.cell (p:=⟨b1,o1+(k*2+1),none⟩) hl1).trans (hc1 (k*2+1) _ v2)
   have hbA:Below wr.heap.size wr (wr.alloc u.1.box):=(Below.refl _ _).alloc (Nat.le_refl _) _
   have c3:=((hbr.trans (hbA.mono hbr.size)).cell (p:=⟨b2,o2+k*2,none⟩) hl2).trans (hc2 (k*2) _ v3)
   have c4:(wr.alloc u.1.box).cell? ⟨b2,o2+k*2+1,none⟩=_:=((hbr.trans (hbA.mono hbr.size)).cell (p:=⟨b2,o2+(k*2+1),none⟩) hl2).trans (hc2 (k*2+1) _ v4)
   have hb0:Below wr.heap.size wr ((wr.alloc u.1.box).alloc v.1.box):=below_two wr _ _
   obtain⟨k1,k2⟩:=two_boxes wr u.1.box v.1.box
   have hE1:=(hx.each u (List.mem_of_getElem? hu)).later hbr
   have hE2:=(hy.each v (List.mem_of_getElem? hv)).later hbr
   have hc:=sameEntry_any u.1 v.1 u.2 v.2 _ (hE1.later hb0) (hE2.later hb0)
   have hnx:=sameEnts_next x y k u v hu hv
   rw[Ht.out,Bool.true_and] at hnx
   have HN:=hid hnx
   unfold EV.val EV.box EV.cells at hc
   unfold EV.box EV.cells at c3 c4 hb0 k1 k2 hbA
   clear v1 v2 v3 v4 hnx
   have i0:(0:Int)≤(k:Int):=by omega
   have i1:(k:Int)<(n:Int):=by omega
   go_wp2_with fail
   refine hc.mono ?_
   rintro e w1 ⟨rfl,hb1⟩
   have hb2:=hbr.trans ((hb0.trans (hb1.mono hb0.size)).mono hbr.size)
   cases hm:sameEntry u.1 u.2 v.1 v.2 with
   | false=>
    have Hs:Hid (sameEnts x y=false):=hid (sameEnts_cut x y (k+1) (by rw[HN.out];exact hm) (by rw[LX.out,LY.out]))
    clear hm
    go_wp2_with fail
    go_ret
    exact⟨by rw[Hs.out];rfl,hb2⟩
   | true=>
    have Hs:Hid (sameEnts (x.take (k+1)) (y.take (k+1))=true):=hid (by rw[HN.out];exact hm)
    clear hm
    go_wp2_with fail
    go_roundw
    case rel=>exact⟨k+1,by omega,by go_num,Hs,hb2⟩
    case measure=>simp[intOf];omega
  have Hs:Hid (sameEnts x y=true):=hid (by have:=Ht.out;rw[List.take_of_length_le (by rw[LX.out];omega),List.take_of_length_le (by rw[LY.out];omega)] at this;exact this)
  have hkn2:k=n:=by omega
  subst hkn2
  go_wp2_with fail
  go_ret
  exact⟨by rw[Hs.out];rfl,hbr⟩
structure QV where
 code:Int
 yes:Bool
 eo:Option Addr
 en:Nat
 ec:Nat
 co:Option Addr
 cn:Nat
 cc:Nat
def QV.cells (v:QV):Array Value:=#[.int .i64 v.code,.bool v.yes,.slice v.eo v.en v.ec,.slice v.co v.cn v.cc]
def QV.val (v:QV):Value:=.agg v.cells
def QV.box (v:QV):Obj:=.cells v.cells 39
structure QC where
 ents:List EP
 cursor:List UInt8
structure QAt (W:World)(v:QV)(c:QC):Prop where
 e:EnAt W v.eo v.en v.ec c.ents
 c:Rd W 1 v.co v.cn v.cc (byV c.cursor)
 lc:v.cn≤1000000000
theorem QAt.later {W W':World}{v:QV}{c:QC}(h:QAt W v c)(hb:Below W.heap.size W W'):QAt W' v c:=⟨h.e.later hb,h.c.later hb,h.lc⟩
theorem qbox_all {W:World}{B:Nat}{v:QV}(h:W.heap[B]?=some v.box):W.cell? ⟨B,0,none⟩=some (.int .i64 v.code)∧W.cell? ⟨B,1,none⟩=some (.bool v.yes)∧W.cell? ⟨B,2,none⟩=some (.slice v.eo v.en v.ec)∧W.cell? ⟨B,3,none⟩=some (.slice v.co v.cn v.cc)∧∀i,W.frozen? ⟨B,i,none⟩=false:=by
 unfold QV.box QV.cells at h
 simp[World.cell?,World.frozen?,h]
def sameRes (v:QV)(c:QC)(v':QV)(c':QC):Bool:=decide (v.code=v'.code)&&(decide (v.yes=v'.yes)&&(sameEnts c.ents c'.ents&&decide (c.cursor=c'.cursor)))
theorem qtwo_step {w W W':World}{v v':QV}(h1:W.heap[w.heap.size]?=some v.box)(h2:W.heap[w.heap.size+1]?=some v'.box)(hb:Below W.heap.size W W'):W'.heap[w.heap.size]?=some v.box∧W'.heap[w.heap.size+1]?=some v'.box:=
 ⟨(hb.block _ (Array.getElem?_eq_some_iff.1 h1).1).trans h1,(hb.block _ (Array.getElem?_eq_some_iff.1 h2).1).trans h2⟩
set_option maxRecDepth 100000 in
theorem sameRes_any (v v':QV)(c c':QC)(w:World)(h:QAt w v c)(h':QAt w v' c'):Calls Tryz.prog 139 #[v.val,v'.val] w (GivesB (sameRes v c v' c') w):=by
 have hb0:Below w.heap.size w ((w.alloc v.box).alloc v'.box):=below_two w _ _
 obtain⟨k1,k2⟩:=two_boxes w v.box v'.box
 have hE:=eqfEnt_any v.eo v'.eo v.en v'.en v.ec v'.ec c.ents c'.ents _ (h.e.later hb0) (h'.e.later hb0)
 unfold QV.box QV.cells at hb0 k1 k2 hE
 unfold QV.val QV.cells
 by_cases e1:v.code=v'.code
 case neg=>
  have f1:(v.code==v'.code)=false:=by simp[e1]
  have Hs:Hid (sameRes v c v' c'=false):=hid (by unfold sameRes;rw[decide_eq_false e1];simp)
  clear e1 hE
  go_enter Tryz.func139,Tryz.ntmps139
  go_wp2_with fail
  go_ret
  exact⟨by rw[Hs.out];rfl,hb0⟩
 have f1:(v.code==v'.code)=true:=by simp[e1]
 by_cases e2:v.yes=v'.yes
 case neg=>
  have f2:(v.yes==v'.yes)=false:=by simp[e2]
  have Hs:Hid (sameRes v c v' c'=false):=hid (by unfold sameRes;rw[decide_eq_false e2];simp)
  clear e1 e2 hE
  go_enter Tryz.func139,Tryz.ntmps139
  go_wp2_with fail
  go_ret
  exact⟨by rw[Hs.out];rfl,hb0⟩
 have f2:(v.yes==v'.yes)=true:=by simp[e2]
 have Hs:Hid (sameRes v c v' c'=(sameEnts c.ents c'.ents&&decide (c.cursor=c'.cursor))):=hid (by unfold sameRes;rw[decide_eq_true e1,decide_eq_true e2];simp)
 clear e1 e2
 go_enter Tryz.func139,Tryz.ntmps139
 go_upto_region 1 with fail
 generalize hg:World.alloc _ _=W0 at *
 have q1:W0.heap[w.heap.size]?=some v.box:=k1
 have q2:W0.heap[w.heap.size+1]?=some v'.box:=k2
 clear hg k1 k2
 obtain⟨c0,c1,c2,c3,-⟩:=qbox_all q1
 obtain⟨d0,d1,d2,d3,-⟩:=qbox_all q2
 go_wp2_with fail
 refine hE.mono ?_
 rintro e W1 ⟨rfl,hb1⟩
 obtain⟨q1',q2'⟩:=qtwo_step q1 q2 hb1
 have hbel:=hb0.trans (hb1.mono hb0.size)
 clear c0 c1 c2 c3 d0 d1 d2 d3 hE q1 q2
 obtain⟨c0,c1,c2,c3,-⟩:=qbox_all q1'
 obtain⟨d0,d1,d2,d3,-⟩:=qbox_all q2'
 cases hm:sameEnts c.ents c'.ents with
 | false=>
  have HM:=hid hm
  clear hm
  go_wp2_with fail
  go_ret
  exact⟨by rw[Hs.out,HM.out];rfl,hbel⟩
 | true=>
  have HM:=hid hm
  clear hm
  go_wp2_with fail
  refine (equal_byt v.co v'.co v.cn v'.cn v.cc v'.cc c.cursor c'.cursor W1 (h.c.later hbel) (h'.c.later hbel) h.lc).mono ?_
  rintro e W2 ⟨rfl,hb2⟩
  go_wp2_with fail
  go_ret
  exact⟨by rw[Hs.out,HM.out,Bool.true_and];rfl,hbel.trans (hb2.mono hbel.size)⟩
end Go.Proofs.YtfmmandlmbcncaaGreatDoor.Msg
