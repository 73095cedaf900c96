/-
  A part of the proof.
-/
import Derived.Deep.MidRow
import Derived.Test.YtfmmandlmbcncaaGreatDoorKdaw
set_option maxHeartbeats 40000000
set_option maxRecDepth 100000
namespace Go.Proofs.YtfmmandlmbcncaaGreatDoor.Msg
open Go.RowKit Go.Lib Mem Tlv
theorem dR {P:Program}{ops:Array Oper}{rest:List Oper}{o:Oper}{a:Act}{Q:Exit->Act->World->Prop}{w:World}{ty:TypeId}{p:Operand}{b off:Nat}{cs:Array Value}
  (hc:∀(j:Nat) (v:Value),cs[j]?=some v->w.cell? ⟨b,off+j,none⟩=some v) (hop:o.op=.load ty p) (hw:Region.wanted o (yielded ops a.tmps)=true) (hp:a.eval p=.pointer (some ⟨b,off,none⟩)) (hu:ku P ty=true) (hi:(P.info? ty).map (·.size)=some cs.size)
  (hn:wpList P ops Q rest (a.put o.dst (.agg cs)) w):wpList P ops Q (o::rest) a w:=by
 refine wpList_step fun K hK=>?_;rw[if_pos hw];obtain⟨d,h1,h2⟩:=lN hu;have hd:d.isRow=true:=by cases d<;>first | rfl | cases h2
 have hr:w.rangeAt b off cs.toList:=fun j v hv=>hc j v (by simpa using hv);refine wp_load_mid ty p hop b off hp cs.toList d hr h1 hd (by simpa using hi) ?_;rw[Array.toArray_toList];exact hK _ _ hn
def kL (l:List Nat):List Value:=l.map fun (n:Nat)=>Value.int .u64 (n:Int)
theorem jl (l:List Nat):(kL l).length=l.length:=by simp[kL]
theorem yH (l:List Nat)(k:Nat)(y:Nat)(h:l[k]?=some y):(kL l)[k]?=some (.int .u64 (y:Int)):=by simp[kL,h]
theorem J5 (ao bo:Option Addr)(n m cap cbp:Nat)(x y:List Nat)(w:World)(hx:Rd w 1 ao n cap (kL x))(hy:Rd w 1 bo m cbp (kL y))(hn:n<=1000000000) :
  Calls Tryz.prog 141 #[.slice ao n cap,.slice bo m cbp] w (aY (decide (x=y)) w):=by
 have lx:x.length=n:=by have:=hx.1;rw[jl] at this;omega
 have ly:y.length=m:=by have:=hy.1;rw[jl] at this;omega
 by_cases hnm:n=m
 ·subst hnm;have LX:=hid lx;have LY:=hid ly;clear lx ly;go_in;go_wp2_with fail;go_loopw [13] (fun p wr=>∃k:Nat,k<=n/\p=.int .i64 (k:Int)/\Hid (x.take k=y.take k)/\Below w.heap.size w wr) (fun p _=>n-(intOf p).toNat)
  case atStart=>exact⟨0,by omega,rfl,hid (by simp),Below.refl _ _⟩
  case round=>
   obtain⟨k,hk,rfl,Ht,hbr⟩:=hrel;by_cases hkn:k<n
   ·obtain⟨b1,o1,rfl,hl1,hc1⟩:=hx.some (by have:=hx.le;omega);obtain⟨b2,o2,rfl,hl2,hc2⟩:=hy.some (by have:=hy.le;omega);obtain⟨u,hu⟩:∃u,x[k]?=some u:=⟨_,List.getElem?_eq_getElem (by rw[LX.out];exact hkn)⟩
    obtain⟨v,hv⟩:∃v,y[k]?=some v:=⟨_,List.getElem?_eq_getElem (by rw[LY.out];exact hkn)⟩
    have c1:=(hbr.cell (p:=⟨b1,o1+k,none⟩) hl1).trans (hc1 k _ (yH x k u hu));have c2:=(hbr.cell (p:=⟨b2,o2+k,none⟩) hl2).trans (hc2 k _ (yH y k v hv));have i0:(0:Int)<=(k:Int):=by omega
    have i1:(k:Int)<(n:Int):=by omega
    by_cases huv:u=v
    ·have Hs:=hid (nD x y k u v Ht.out hu hv huv);subst huv;have f1:((u:Int) != (u:Int))=false:=by simp
     go_wp2_with fail
     go_quiet (fail)
     go_wp2;go_roundw
     case rel=>exact⟨k+1,by omega,by go_num,Hs,below_drewN hbr _⟩
     case measure=>simp[intOf];omega
    have Hs:=hid (uK x y k u v hu hv huv);have f1:((u:Int) != (v:Int))=true:=by simp only[bne_iff_ne,ne_eq];exact fun h=>huv (Int.ofNat.inj h)
    go_wp2_with fail
    go_quiet (fail)
    go_wp2;go_ret;exact⟨by rw[Hs.out];rfl,below_drewN hbr _⟩
   have hkn2:k=n:=by omega
   have Hs:Hid (decide (x=y)=true):=hid (decide_eq_true (by have:=Ht.out;rw[List.take_of_length_le (by rw[LX.out];omega),List.take_of_length_le (by rw[LY.out];omega)] at this;exact this));subst hkn2;go_wp2_with fail;go_ret;exact⟨by rw[Hs.out];rfl,hbr⟩
 have f1:((n:Int)==(m:Int))=false:=by simp;omega
 have f2:((n:Int) != (m:Int))=true:=by simp;omega
 have Hs:=hid (tH x y (by omega));clear hnm lx ly;go_in;go_wp2_with fail;go_ret;exact⟨by rw[Hs.out];rfl,Below.refl _ _⟩
def rqV (l:List RV):List Value:=l.flatMap fun r=>r.cells.toList
theorem NZ (l:List RV):(rqV l).length=l.length*9:=by
 induction l with
 | nil=>rfl
 | cons x l ih=>simp only[rqV,List.flatMap_cons,List.length_append,List.length_cons] at ih ⊢;rw[ih];simp[RV.cells];omega
theorem OM (l:List RV)(k:Nat)(y:RV)(h:l[k]?=some y)(i:Nat)(hi:i<9):(rqV l)[k*9+i]?=y.cells[i]?:=by
 induction l generalizing k with
 | nil=>simp at h
 | cons z xs ih=>
  have hz:z.cells.toList.length=9:=by simp[RV.cells]
  cases k with
  | zero=>
   rw[List.getElem?_cons_zero,Option.some.injEq] at h;subst h;simp only[rqV,List.flatMap_cons];rw[List.getElem?_append_left (by omega)];simp
  | succ k=>
   rw[List.getElem?_cons_succ] at h;have h1:=ih k h;simp only[rqV,List.flatMap_cons] at h1 ⊢;rw[List.getElem?_append_right (by omega),hz,<-h1]
   congr 1
   omega
def rpV (l:List RP):List Value:=rqV (l.map Prod.fst)
theorem DZ (l:List RP):(rpV l).length=l.length*9:=by unfold rpV;rw[NZ,List.length_map]
theorem KG (l:List RP)(p:RP):rpV (l++[p])=rpV l++p.1.cells.toList:=by simp[rpV,rqV]
structure LgAt (W:World)(ao:Option Addr)(n cap:Nat)(l:List RP):Prop where
 r:Rd W 9 ao n cap (rpV l)
 each:∀p∈l,OpAt W p.1.op p.2
theorem LgAt.later {W W':World}{ao:Option Addr}{n cap:Nat}{l:List RP}(h:LgAt W ao n cap l)(hb:Below W.heap.size W W'):LgAt W' ao n cap l:=⟨h.r.later hb,fun p hp=>(h.each p hp).later hb⟩
theorem LgAt.len {W:World}{ao:Option Addr}{n cap:Nat}{l:List RP}(h:LgAt W ao n cap l):l.length=n:=by have:=h.r.1;rw[DZ] at this;omega
theorem LgAt.nil (W:World):LgAt W none 0 0 []:=⟨Rd.nil _ _,fun p hp=>by cases hp⟩
theorem qF {W:World}{b o n cap k:Nat}{l:List RP}{p:RP}(h:Rd W 9 (some ⟨b,o,none⟩) n cap (rpV l))(hp:l[k]?=some p):∀(j:Nat) (v:Value),p.1.cells[j]?=some v->W.cell? ⟨b,o+k*9+j,none⟩=some v:=fun j v hv=>by
 have hj:j<9:=by
  have:=(Array.getElem?_eq_some_iff.1 hv).1;simpa [RV.cells] using this
 have hk:k<l.length:=(List.getElem?_eq_some_iff.1 hp).1;have hl:=h.1;rw[DZ] at hl;have h0:=h.le;obtain⟨b1,o1,e,-,hc⟩:=h.some (by omega);obtain⟨rfl,rfl⟩:b=b1/\o=o1:=by simpa using e
 have h1:=OM (l.map Prod.fst) k p.1 (by rw[List.getElem?_map,hp];rfl) j hj;rw[hv] at h1;rw[Nat.add_assoc];exact hc (k*9+j) v h1
theorem lX {W W':World}{b o:Nat}{cs:Array Value}(h:∀(j:Nat) (v:Value),cs[j]?=some v->W.cell? ⟨b,o+j,none⟩=some v)(hb:Below W.heap.size W W'):∀(j:Nat) (v:Value),cs[j]?=some v->W'.cell? ⟨b,o+j,none⟩=some v:=fun j v hv=>aU hb (h j v hv)
theorem GH (r:RV)(c:OC)(w:World)(h:OpAt w r.op c):Calls Tryz.prog 104 #[r.val] w (aY (!aB r.op c) w):=by
 have hb0:Below w.heap.size w (w.alloc r.box):=(Below.refl _ _).alloc (Nat.le_refl _) _;have k0:(w.alloc r.box).heap[w.heap.size]?=some r.box:=by show (w.heap.push _)[w.heap.size]?=some _;exact Array.getElem?_push_size
 have hc:=qA r c (aB r.op c) _ _ (h.later hb0) (jy _ r.op c (h.later hb0));unfold RV.box RV.cells at hb0 k0 hc;unfold RV.val RV.cells at hc;unfold RV.val RV.cells;go_in;go_wp2_with (refine wpList_load_row (ty:=55) k0 rfl rfl rfl (by kernel_rfl) (by kernel_rfl) ?_;go_simp);refine hc.mono ?_;rintro e W1 ⟨rfl,hb1⟩;go_wp2_with fail;go_ret;exact⟨rfl,hb0.trans (hb1.mono hb0.size)⟩
theorem Jr (ao:Option Addr)(n cap:Nat)(x:List RP)(w:World)(h:LgAt w ao n cap x) :
  Calls Tryz.prog 142 #[.slice ao n cap,.func (.func 104) #[] #[]] w (xx (x.any fun u=>!aB u.1.op u.2) w):=by
 have lx:=h.len;have hx:=h.r;have LX:=hid lx;have hcap:n<=9223372036854775807:=by have:=hx.2.1;have:=hx.2.2.1;unfold maxLen at this;omega
 clear lx;go_in;go_wp2_with fail;go_loopw [8] (fun p wr=>∃k:Nat,k<=n/\p=.int .i64 (k:Int)/\Hid ((x.take k).any (fun u=>!aB u.1.op u.2)=false)/\Below w.heap.size w wr) (fun p _=>n-(intOf p).toNat)
 case atStart=>exact⟨0,Nat.zero_le _,rfl,hid rfl,Below.refl _ _⟩
 case round=>
  obtain⟨k,hk,rfl,Ht,hbr⟩:=hrel;by_cases hkn:k<n
  ·obtain⟨b1,o1,rfl,hl1,hc1⟩:=hx.some (by have:=hx.le;omega);obtain⟨u,hu⟩:∃u,x[k]?=some u:=⟨_,List.getElem?_eq_getElem (by rw[LX.out];exact hkn)⟩
   have hrg:=lX (qF hx hu) (hbr:Below w.heap.size w wr);have hE:=(h.each u (List.mem_of_getElem? hu)).later hbr;have hc:=GH u.1 u.2 wr hE;unfold RV.val RV.cells at hc;unfold RV.cells at hrg;have HU:=hid hu;clear hc1 hu;have i0:(0:Int)<=(k:Int):=by omega
   have i1:(k:Int)<(n:Int):=by omega
   go_wp2_with (refine dR (ty:=55) hrg rfl rfl rfl (by kernel_rfl) (by kernel_rfl) ?_;go_simp);refine hc.mono ?_;rintro e w1 ⟨rfl,hb1⟩;have hb2:=hbr.trans (hb1.mono hbr.size);clear hrg hc;by_cases hm:(!aB u.1.op u.2)=true
   ·have Hs:=hid (qY (fun u:RP=>!aB u.1.op u.2) x k u HU.out hm);rw[hm];go_wp2_with fail;go_ret;exact⟨k,rfl,by rw[Hs.out];simp,hb2⟩
   have hm2:(!aB u.1.op u.2)=false:=by simpa using hm
   have Hs:=hid (oC (fun u:RP=>!aB u.1.op u.2) x k u HU.out Ht.out hm2);rw[hm2];go_wp2_with fail;go_roundw
   case rel=>exact⟨k+1,by omega,by go_num,Hs,hb2⟩
   case measure=>simp[intOf];omega
  have Hs:Hid (x.any (fun u=>!aB u.1.op u.2)=false):=hid (by have:=Ht.out;rw[List.take_of_length_le (by rw[LX.out];omega)] at this;exact this);have hkn2:k=n:=by omega
  subst hkn2;go_wp2_with fail;go_ret;exact⟨-1,rfl,by rw[Hs.out];rfl,hbr⟩
theorem BX (ao:Option Addr)(n cap:Nat)(x:List RP)(w:World)(hx:LgAt w ao n cap x) :
  Calls Tryz.prog 103 #[.slice ao n cap,.func (.func 104) #[] #[]] w (aY (x.any fun u=>!aB u.1.op u.2) w):=by
 go_in;go_wp2_with fail;refine (Jr _ _ _ x _ hx).mono ?_;rintro e w1 ⟨r,rfl,hr,hb1⟩;have Hr:=hid hr;clear hr;go_wp2_with fail;go_ret;exact⟨by rw[<-Hr.out];rfl,hb1⟩
def bT:List RP->List RP->Bool
 | [],[]=>true
 | p::l,q::m=>bP p.1 p.2 q.1 q.2&&bT l m
 | _,_=>false
theorem kD:∀ {l m:List RP},bT l m=true->l.length=m.length
 | [],[],_=>rfl
 | p::l,q::m,h=>by
  unfold bT at h;simp only[Bool.and_eq_true] at h;simp[kD h.2]
 | [],_::_,h=>by cases h
 | _::_,[],h=>by cases h
theorem vI:∀(l m:List RP) (k:Nat),bT (l.take k) (m.take k)=false->l.length=m.length->bT l m=false
 | [],[],_,h,_=>by simp[bT] at h
 | p::l,q::m,0,h,_=>by simp[bT] at h
 | p::l,q::m,k+1,h,hl=>by
  rw[List.take_succ_cons,List.take_succ_cons] at h;unfold bT at h ⊢;cases h1:bP p.1 p.2 q.1 q.2 with
  | false=>rfl
  | true=>
   rw[h1,Bool.true_and] at h;rw[Bool.true_and];exact vI l m k h (by simpa using hl)
 | [],_::_,_,_,hl=>by simp at hl
 | _::_,[],_,_,hl=>by simp at hl
theorem sJ:∀(l m:List RP) (k:Nat) (p q:RP),l[k]?=some p->m[k]?=some q->bT (l.take (k+1)) (m.take (k+1))=(bT (l.take k) (m.take k)&&bP p.1 p.2 q.1 q.2)
 | [],_,k,p,q,h,_=>by simp at h
 | _::_,[],k,p,q,_,h=>by simp at h
 | a::l,b::m,0,p,q,h1,h2=>by
  obtain rfl:a=p:=by simpa using h1
  obtain rfl:b=q:=by simpa using h2
  simp[bT]
 | a::l,b::m,k+1,p,q,h1,h2=>by
  have:=sJ l m k p q (by simpa using h1) (by simpa using h2);rw[List.take_succ_cons,List.take_succ_cons,List.take_succ_cons,List.take_succ_cons];unfold bT;rw[this,Bool.and_assoc]
theorem F7 (ao bo:Option Addr)(n m cap cbp:Nat)(x y:List RP)(w:World)(hx:LgAt w ao n cap x)(hy:LgAt w bo m cbp y) :
  Calls Tryz.prog 140 #[.slice ao n cap,.slice bo m cbp,.func (.func 138) #[] #[]] w (aY (bT x y) w):=by
 have lx:=hx.len;have ly:=hy.len;have hcap:n<=9223372036854775807:=by have:=hx.r.2.1;have:=hx.r.2.2.1;unfold maxLen at this;omega
 by_cases hnm:n=m
 case neg=>
  have f1:((n:Int)==(m:Int))=false:=by rw[beq_eq_false_iff_ne];omega
  have Hs:Hid (bT x y=false):=hid (by
   cases h:bT x y with
   | false=>rfl
   | true=>have:=kD h;omega)
  clear lx ly;go_in;go_wp2_with fail;go_ret;exact⟨by rw[Hs.out];rfl,Below.refl _ _⟩
 subst hnm;have LX:=hid lx;have LY:=hid ly;clear lx ly;go_in;go_wp2_with fail;go_loopw [17] (fun p wr=>∃k:Nat,k<=n/\p=.int .i64 (k:Int)/\Hid (bT (x.take k) (y.take k)=true)/\Below w.heap.size w wr) (fun p _=>n-(intOf p).toNat)
 case atStart=>exact⟨0,Nat.zero_le _,rfl,hid rfl,Below.refl _ _⟩
 case round=>
  obtain⟨k,hk,rfl,Ht,hbr⟩:=hrel;by_cases hkn:k<n
  ·obtain⟨b1,o1,rfl,hl1,-⟩:=hx.r.some (by have:=hx.r.le;omega);obtain⟨b2,o2,rfl,hl2,-⟩:=hy.r.some (by have:=hy.r.le;omega);obtain⟨u,hu⟩:∃u,x[k]?=some u:=⟨_,List.getElem?_eq_getElem (by rw[LX.out];exact hkn)⟩
   obtain⟨v,hv⟩:∃v,y[k]?=some v:=⟨_,List.getElem?_eq_getElem (by rw[LY.out];exact hkn)⟩
   have hbA:Below wr.heap.size wr (wr.alloc u.1.box):=(Below.refl _ _).alloc (Nat.le_refl _) _;have hr1:=lX (qF hx.r hu) hbr;have hr2:=lX (lX (qF hy.r hv) hbr) hbA;have hb0:Below wr.heap.size wr ((wr.alloc u.1.box).alloc v.1.box):=bU wr _ _;obtain⟨k1,k2⟩:=bY wr u.1.box v.1.box;have hE1:=(hx.each u (List.mem_of_getElem? hu)).later hbr;have hE2:=(hy.each v (List.mem_of_getElem? hv)).later hbr;have hc:=uf u.1 v.1 u.2 v.2 _ (hE1.later hb0) (hE2.later hb0);have hnx:=sJ x y k u v hu hv;rw[Ht.out,Bool.true_and] at hnx;have HN:=hid hnx;unfold RV.val RV.box RV.cells at hc;unfold RV.cells at hr1 hr2;unfold RV.box RV.cells at hb0 k1 k2 hbA hr2;have i0:(0:Int)<=(k:Int):=by omega
   have i1:(k:Int)<(n:Int):=by omega
   clear hnx hu hv;go_wp2_with (first | (refine dR (ty:=55) hr1 rfl rfl rfl (by kernel_rfl) (by kernel_rfl) ?_;go_simp) | (refine dR (ty:=55) hr2 rfl rfl rfl (by kernel_rfl) (by kernel_rfl) ?_;go_simp) | (refine zNr rfl ?_;go_simp) | (refine wpList_load_row (ty:=55) k1 rfl rfl rfl (by kernel_rfl) (by kernel_rfl) ?_;go_simp) | (refine wpList_load_row (ty:=55) k2 rfl rfl rfl (by kernel_rfl) (by kernel_rfl) ?_;go_simp));refine hc.mono ?_;rintro e w1 ⟨rfl,hb1⟩;have hb2:=hbr.trans ((hb0.trans (hb1.mono hb0.size)).mono hbr.size);clear hr1 hr2 hc k1 k2;cases hm:bP u.1 u.2 v.1 v.2 with
   | false=>
    have Hs:Hid (bT x y=false):=hid (vI x y (k+1) (by rw[HN.out];exact hm) (by rw[LX.out,LY.out]));clear hm;go_wp2_with fail;go_ret;exact⟨by rw[Hs.out];rfl,hb2⟩
   | true=>
    have Hs:Hid (bT (x.take (k+1)) (y.take (k+1))=true):=hid (by rw[HN.out];exact hm);clear hm;go_wp2_with fail;go_roundw
    case rel=>exact⟨k+1,by omega,by go_num,Hs,hb2⟩
    case measure=>simp[intOf];omega
  have Hs:Hid (bT x y=true):=hid (by have:=Ht.out;rw[List.take_of_length_le (by rw[LX.out];omega),List.take_of_length_le (by rw[LY.out];omega)] at this;exact this);have hkn2:k=n:=by omega
  subst hkn2;go_wp2_with fail;go_ret;exact⟨by rw[Hs.out];rfl,hbr⟩
end Go.Proofs.YtfmmandlmbcncaaGreatDoor.Msg
