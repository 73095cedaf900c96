/-A part of the proof.-/
import Derived.Deep.MidRow
import Derived.Test.YtfmmandlmbcncaaGreatDoorKfau
set_option maxHeartbeats 40000000
set_option maxRecDepth 100000
set_option linter.all false
namespace Go.Proofs.YtfmmandlmbcncaaGreatDoor
namespace Msg
open Go.RowKit Go.Lib Mem Tlv
variable{A B b cap n o:Nat}{W W' w:World}{ao:Option Addr}{arr cs:Array Value}{t:TypeId}
theorem dB{P:Program}{ops:Array Oper}{rest:List Oper}{o:Oper}{a:Act}{Q:Exit->Act->World->Prop}{ty:TypeId}{p:Operand}{off:Nat}
  (hc:∀(j:Nat) (v:Value),cs[j]?=some v->w.cell? ⟨b,off+j,none⟩=some v) (hop:o.op=.load ty p) (hw:Region.wanted o (yielded ops a.tmps)=true) (hp:a.eval p=.pointer (some ⟨b,off,none⟩)) (hu:lG P ty=true) (hi:(P.info? ty).map (·.size)=some cs.size)
  (hn:wpList P ops Q rest (a.put o.dst (.agg cs)) w):wpList P ops Q (o::rest) a w:=by
 refine wpList_step fun K hK=>?_;rw[if_pos hw];obtain⟨d,h1,h2⟩:=nO hu;have hd:d.isRow=true:=by cases d<;>first | rfl | cases h2
 have hr:w.rangeAt b off cs.toList:=fun j v hv=>hc j v (by simpa using hv);refine wp_load_mid ty p hop b off hp cs.toList d hr h1 hd (by simpa using hi) ?_;rw[Array.toArray_toList];exact hK _ _ hn
def je (l:List Nat):List Value:=l.map fun (n:Nat)=>Value.int .u64 (n:Int)
theorem iq(l:List Nat):(je l).length=l.length:=by simp[je]
theorem oW(l:List Nat)(k:Nat)(y:Nat)(h:l[k]?=some y):(je l)[k]?=some (.int .u64 (y:Int)):=by simp[je,h]
theorem LV(ao bo:Option Addr)(n m cap cbp:Nat)(x y:List Nat)(w:World)(hx:Rd w 1 ao n cap (je x))(hy:Rd w 1 bo m cbp (je y))(hn:n<=1000000000) :
  Calls Tryz.prog 141 #[.slice ao n cap,.slice bo m cbp] w (GivesB (decide (x=y)) w):=by
 have lx:x.length=n:=by have:=hx.1;rw[iq] at this;omega
 have ly:y.length=m:=by have:=hy.1;rw[iq] at this;omega
 by_cases hnm:n=m
 ·subst hnm;have LX:=hid lx;have LY:=hid ly;clear lx ly;go_in;go_wp2_with fail;go_loopw [13] (fun p wr=>∃k:Nat,k<=n/\p=.int .i64 (k:Int)/\Hid (x.take k=y.take k)/\Below w.heap.size w wr) (fun p _=>n-(intOf p).toNat)
  case atStart=>exact⟨0,by omega,rfl,hid (by simp),yaj _ _⟩
  case round=>
   obtain⟨k,hk,rfl,Ht,hbr⟩:=hrel;by_cases hkn:k<n
   ·obtain⟨b1,o1,rfl,hl1,hc1⟩:=hx.some (by have:=hx.le;omega);obtain⟨b2,o2,rfl,hl2,hc2⟩:=hy.some (by have:=hy.le;omega);obtain⟨u,hu⟩:∃u,x[k]?=some u:=⟨_,yac (by rw[LX.out];exact hkn)⟩
    obtain⟨v,hv⟩:∃v,y[k]?=some v:=⟨_,yac (by rw[LY.out];exact hkn)⟩
    have c1:=(hbr.cell (p:=⟨b1,o1+k,none⟩) hl1).trans (hc1 k _ (oW x k u hu));have c2:=(hbr.cell (p:=⟨b2,o2+k,none⟩) hl2).trans (hc2 k _ (oW y k v hv));have i0:(0:Int)<=(k:Int):=by omega
    have i1:(k:Int)<(n:Int):=by omega
    by_cases huv:u=v
    ·have Hs:=hid (pM x y k u v Ht.out hu hv huv);subst huv;have f1:((u:Int) != (u:Int))=false:=by simp
     go_wp2_with fail
     go_quiet (fail)
     go_wp2;go_roundw
     case rel=>exact⟨k+1,by omega,by go_num,Hs,below_drewN hbr _⟩
     case measure=>simp[intOf];omega
    have Hs:=hid (xw x y k u v hu hv huv);have f1:((u:Int) != (v:Int))=true:=by simp only[bne_iff_ne,ne_eq];exact fun h=>huv (Int.ofNat.inj h)
    go_wp2_with fail
    go_quiet (fail)
    go_wp2;go_ret;exact⟨by rw[Hs.out];rfl,below_drewN hbr _⟩
   have hkn2:k=n:=by omega
   have Hs:Hid (decide (x=y)=true):=hid (yaa (by have:=Ht.out;rw[yak (by rw[LX.out];omega),yak (by rw[LY.out];omega)] at this;exact this));subst hkn2;go_wp2_with fail;go_ret;exact⟨by rw[Hs.out];rfl,hbr⟩
 have f1:((n:Int)==(m:Int))=false:=by simp;omega
 have f2:((n:Int) != (m:Int))=true:=by simp;omega
 have Hs:=hid (wC x y (by omega));clear hnm lx ly;go_in;go_wp2_with fail;go_ret;exact⟨by rw[Hs.out];rfl,yaj _ _⟩
def rqV (l:List RV):List Value:=l.flatMap fun r=>r.cells.toList
theorem Po(l:List RV):(rqV l).length=l.length*9:=by
 induction l with
 | nil=>rfl
 | cons x l ih=>simp only[rqV,yaH,yab,yaF] at ih ⊢;rw[ih];simp[RV.cells];omega
theorem Td(l:List RV)(k:Nat)(y:RV)(h:l[k]?=some y)(i:Nat)(hi:i<9):(rqV l)[k*9+i]?=y.cells[i]?:=by
 induction l generalizing k with
 | nil=>simp at h
 | cons z xs ih=>
  have hz:z.cells.toList.length=9:=by simp[RV.cells]
  cases k with
  | zero=>
   rw[ybx,ybN] at h;subst h;simp only[rqV,yaH];rw[ybe (by omega)];simp
  | succ k=>
   rw[ybd] at h;have h1:=ih k h;simp only[rqV,yaH] at h1 ⊢;rw[ybB (by omega),hz,<-h1]
   congr 1
   omega
def rpV (l:List RP):List Value:=rqV (l.map Prod.fst)
theorem F8(l:List RP):(rpV l).length=l.length*9:=by unfold rpV;rw[Po,ybl]
theorem D9(l:List RP)(p:RP):rpV (l++[p])=rpV l++p.1.cells.toList:=by simp[rpV,rqV]
structure LgAt (W:World)(ao:Option Addr)(n cap:Nat)(l:List RP):Prop where
 r:Rd W 9 ao n cap (rpV l)
 each:∀p∈l,OpAt W p.1.op p.2
theorem LgAt.later{l:List RP}(h:LgAt W ao n cap l)(hb:Below W.heap.size W W'):LgAt W' ao n cap l:=⟨h.r.later hb,fun p hp=>(h.each p hp).later hb⟩
theorem LgAt.len{l:List RP}(h:LgAt W ao n cap l):l.length=n:=by have:=h.r.1;rw[F8] at this;omega
theorem LgAt.nil(W:World):LgAt W none 0 0 []:=⟨Rd.nil _ _,fun p hp=>by cases hp⟩
theorem mg{k:Nat}{l:List RP}{p:RP}(h:Rd W 9 (some ⟨b,o,none⟩) n cap (rpV l))(hp:l[k]?=some p):∀(j:Nat) (v:Value),p.1.cells[j]?=some v->W.cell? ⟨b,o+k*9+j,none⟩=some v:=fun j v hv=>by
 have hj:j<9:=by
  have:=lA hv;simpa [RV.cells] using this
 have hk:k<l.length:=(yao.1 hp).1;have hl:=h.1;rw[F8] at hl;have h0:=h.le;obtain⟨b1,o1,e,-,hc⟩:=h.some (by omega);obtain⟨rfl,rfl⟩:b=b1/\o=o1:=by simpa using e
 have h1:=Td (l.map Prod.fst) k p.1 (by rw[ybh,hp];rfl) j hj;rw[hv] at h1;rw[Nat.add_assoc];exact hc (k*9+j) v h1
theorem jF(h:∀(j:Nat) (v:Value),cs[j]?=some v->W.cell? ⟨b,o+j,none⟩=some v)(hb:Below W.heap.size W W'):∀(j:Nat) (v:Value),cs[j]?=some v->W'.cell? ⟨b,o+j,none⟩=some v:=fun j v hv=>dK hb (h j v hv)
theorem Lm(r:RV)(c:OC)(w:World)(h:OpAt w r.op c):Calls Tryz.prog 104 #[r.val] w (GivesB (!aA r.op c) w):=by
 have hb0:=bN w r.box;have k0:=aN w r.box
 have hc:=tC r c (aA r.op c) _ _ (h.later hb0) (jI _ r.op c (h.later hb0));unfold RV.box RV.cells at hb0 k0 hc;unfold RV.val RV.cells at hc;unfold RV.val RV.cells;go_in;go_wp2_with (refine wpList_load_row (ty:=55) k0 rfl rfl rfl (by kernel_rfl) (by kernel_rfl) ?_;go_simp);refine hc.mono ?_;rintro e W1 ⟨rfl,hb1⟩;go_wp2_with fail;go_ret;exact⟨rfl,hb0.trans (hb1.mono hb0.size)⟩
theorem JB(ao:Option Addr)(n cap:Nat)(x:List RP)(w:World)(h:LgAt w ao n cap x) :
  Calls Tryz.prog 142 #[.slice ao n cap,.func (.func 104) #[] #[]] w (zg (x.any fun u=>!aA u.1.op u.2) w):=by
 have lx:=h.len;have hx:=h.r;have LX:=hid lx;have hcap:n<=9223372036854775807:=by have:=hx.2.1;have:=hx.2.2.1;unfold maxLen at this;omega
 clear lx;go_in;go_wp2_with fail;go_loopw [8] (fun p wr=>∃k:Nat,k<=n/\p=.int .i64 (k:Int)/\Hid ((x.take k).any (fun u=>!aA u.1.op u.2)=false)/\Below w.heap.size w wr) (fun p _=>n-(intOf p).toNat)
 case atStart=>exact⟨0,yam _,rfl,hid rfl,yaj _ _⟩
 case round=>
  obtain⟨k,hk,rfl,Ht,hbr⟩:=hrel;by_cases hkn:k<n
  ·obtain⟨b1,o1,rfl,hl1,hc1⟩:=hx.some (by have:=hx.le;omega);obtain⟨u,hu⟩:∃u,x[k]?=some u:=⟨_,yac (by rw[LX.out];exact hkn)⟩
   have hrg:=jF (mg hx hu) (hbr:Below w.heap.size w wr);have hE:=(h.each u (yan hu)).later hbr;have hc:=Lm u.1 u.2 wr hE;unfold RV.val RV.cells at hc;unfold RV.cells at hrg;have HU:=hid hu;clear hc1 hu;have i0:(0:Int)<=(k:Int):=by omega
   have i1:(k:Int)<(n:Int):=by omega
   go_wp2_with (refine dB (ty:=55) hrg rfl rfl rfl (by kernel_rfl) (by kernel_rfl) ?_;go_simp);refine hc.mono ?_;rintro e w1 ⟨rfl,hb1⟩;have hb2:=hbr.trans (hb1.mono hbr.size);clear hrg hc;by_cases hm:(!aA u.1.op u.2)=true
   ·have Hs:=hid (tV (fun u:RP=>!aA u.1.op u.2) x k u HU.out hm);rw[hm];go_wp2_with fail;go_ret;exact⟨k,rfl,by rw[Hs.out];simp,hb2⟩
   have hm2:(!aA u.1.op u.2)=false:=by simpa using hm
   have Hs:=hid (pR (fun u:RP=>!aA u.1.op u.2) x k u HU.out Ht.out hm2);rw[hm2];go_wp2_with fail;go_roundw
   case rel=>exact⟨k+1,by omega,by go_num,Hs,hb2⟩
   case measure=>simp[intOf];omega
  have Hs:Hid (x.any (fun u=>!aA u.1.op u.2)=false):=hid (by have:=Ht.out;rw[yak (by rw[LX.out];omega)] at this;exact this);have hkn2:k=n:=by omega
  subst hkn2;go_wp2_with fail;go_ret;exact⟨-1,rfl,by rw[Hs.out];rfl,hbr⟩
theorem Eb(ao:Option Addr)(n cap:Nat)(x:List RP)(w:World)(hx:LgAt w ao n cap x) :
  Calls Tryz.prog 103 #[.slice ao n cap,.func (.func 104) #[] #[]] w (GivesB (x.any fun u=>!aA u.1.op u.2) w):=by
 go_in;go_wp2_with fail;refine (JB _ _ _ x _ hx).mono ?_;rintro e w1 ⟨r,rfl,hr,hb1⟩;have Hr:=hid hr;clear hr;go_wp2_with fail;go_ret;exact⟨by rw[<-Hr.out];rfl,hb1⟩
def bH:List RP->List RP->Bool
 | [],[]=>true
 | p::l,q::m=>bQ p.1 p.2 q.1 q.2&&bH l m
 | _,_=>false
theorem jB:∀ {l m:List RP},bH l m=true->l.length=m.length
 | [],[],_=>rfl
 | p::l,q::m,h=>by
  unfold bH at h;simp only[yaq] at h;simp[jB h.2]
 | [],_::_,h=>by cases h
 | _::_,[],h=>by cases h
theorem rG:∀(l m:List RP) (k:Nat),bH (l.take k) (m.take k)=false->l.length=m.length->bH l m=false
 | [],[],_,h,_=>by simp[bH] at h
 | p::l,q::m,0,h,_=>by simp[bH] at h
 | p::l,q::m,k+1,h,hl=>by
  rw[ybb,ybb] at h;unfold bH at h ⊢;cases h1:bQ p.1 p.2 q.1 q.2 with
  | false=>rfl
  | true=>
   rw[h1,yaX] at h;rw[yaX];exact rG l m k h (by simpa using hl)
 | [],_::_,_,_,hl=>by simp at hl
 | _::_,[],_,_,hl=>by simp at hl
theorem ql:∀(l m:List RP) (k:Nat) (p q:RP),l[k]?=some p->m[k]?=some q->bH (l.take (k+1)) (m.take (k+1))=(bH (l.take k) (m.take k)&&bQ p.1 p.2 q.1 q.2)
 | [],_,k,p,q,h,_=>by simp at h
 | _::_,[],k,p,q,_,h=>by simp at h
 | a::l,b::m,0,p,q,h1,h2=>by
  obtain rfl:a=p:=by simpa using h1
  obtain rfl:b=q:=by simpa using h2
  simp[bH]
 | a::l,b::m,k+1,p,q,h1,h2=>by
  have:=ql l m k p q (by simpa using h1) (by simpa using h2);rw[ybb,ybb,ybb,ybb];unfold bH;rw[this,Bool.and_assoc]
theorem Gl(ao bo:Option Addr)(n m cap cbp:Nat)(x y:List RP)(w:World)(hx:LgAt w ao n cap x)(hy:LgAt w bo m cbp y) :
  Calls Tryz.prog 140 #[.slice ao n cap,.slice bo m cbp,.func (.func 138) #[] #[]] w (GivesB (bH x y) w):=by
 have lx:=hx.len;have ly:=hy.len;have hcap:n<=9223372036854775807:=by have:=hx.r.2.1;have:=hx.r.2.2.1;unfold maxLen at this;omega
 by_cases hnm:n=m
 case neg=>
  have f1:((n:Int)==(m:Int))=false:=by rw[yap];omega
  have Hs:Hid (bH x y=false):=hid (by
   cases h:bH x y with
   | false=>rfl
   | true=>have:=jB h;omega)
  clear lx ly;go_in;go_wp2_with fail;go_ret;exact⟨by rw[Hs.out];rfl,yaj _ _⟩
 subst hnm;have LX:=hid lx;have LY:=hid ly;clear lx ly;go_in;go_wp2_with fail;go_loopw [17] (fun p wr=>∃k:Nat,k<=n/\p=.int .i64 (k:Int)/\Hid (bH (x.take k) (y.take k)=true)/\Below w.heap.size w wr) (fun p _=>n-(intOf p).toNat)
 case atStart=>exact⟨0,yam _,rfl,hid rfl,yaj _ _⟩
 case round=>
  obtain⟨k,hk,rfl,Ht,hbr⟩:=hrel;by_cases hkn:k<n
  ·obtain⟨b1,o1,rfl,hl1,-⟩:=hx.r.some (by have:=hx.r.le;omega);obtain⟨b2,o2,rfl,hl2,-⟩:=hy.r.some (by have:=hy.r.le;omega);obtain⟨u,hu⟩:∃u,x[k]?=some u:=⟨_,yac (by rw[LX.out];exact hkn)⟩
   obtain⟨v,hv⟩:∃v,y[k]?=some v:=⟨_,yac (by rw[LY.out];exact hkn)⟩
   have hbA:=bN wr u.1.box;have hr1:=jF (mg hx.r hu) hbr;have hr2:=jF (jF (mg hy.r hv) hbr) hbA;have hb0:Below wr.heap.size wr ((wr.alloc u.1.box).alloc v.1.box):=cu wr _ _;obtain⟨k1,k2⟩:=dh wr u.1.box v.1.box;have hE1:=(hx.each u (yan hu)).later hbr;have hE2:=(hy.each v (yan hv)).later hbr;have hc:=vO u.1 v.1 u.2 v.2 _ (hE1.later hb0) (hE2.later hb0);have hnx:=ql x y k u v hu hv;rw[Ht.out,yaX] at hnx;have HN:=hid hnx;unfold RV.val RV.box RV.cells at hc;unfold RV.cells at hr1 hr2;unfold RV.box RV.cells at hb0 k1 k2 hbA hr2;have i0:(0:Int)<=(k:Int):=by omega
   have i1:(k:Int)<(n:Int):=by omega
   clear hnx hu hv;go_wp2_with (first | (refine dB (ty:=55) hr1 rfl rfl rfl (by kernel_rfl) (by kernel_rfl) ?_;go_simp) | (refine dB (ty:=55) hr2 rfl rfl rfl (by kernel_rfl) (by kernel_rfl) ?_;go_simp) | (refine zNr rfl ?_;go_simp) | (refine wpList_load_row (ty:=55) k1 rfl rfl rfl (by kernel_rfl) (by kernel_rfl) ?_;go_simp) | (refine wpList_load_row (ty:=55) k2 rfl rfl rfl (by kernel_rfl) (by kernel_rfl) ?_;go_simp));refine hc.mono ?_;rintro e w1 ⟨rfl,hb1⟩;have hb2:=hbr.trans ((hb0.trans (hb1.mono hb0.size)).mono hbr.size);clear hr1 hr2 hc k1 k2;cases hm:bQ u.1 u.2 v.1 v.2 with
   | false=>
    have Hs:Hid (bH x y=false):=hid (rG x y (k+1) (by rw[HN.out];exact hm) (by rw[LX.out,LY.out]));clear hm;go_wp2_with fail;go_ret;exact⟨by rw[Hs.out];rfl,hb2⟩
   | true=>
    have Hs:Hid (bH (x.take (k+1)) (y.take (k+1))=true):=hid (by rw[HN.out];exact hm);clear hm;go_wp2_with fail;go_roundw
    case rel=>exact⟨k+1,by omega,by go_num,Hs,hb2⟩
    case measure=>simp[intOf];omega
  have Hs:Hid (bH x y=true):=hid (by have:=Ht.out;rw[yak (by rw[LX.out];omega),yak (by rw[LY.out];omega)] at this;exact this);have hkn2:k=n:=by omega
  subst hkn2;go_wp2_with fail;go_ret;exact⟨by rw[Hs.out];rfl,hbr⟩
structure MV where
 k:Int
 vi:Int
 no:Int
 fr:Int
 cl:Int
 nu:Int
 rq:RV
 rs:QV
 at_:Int
 cm:Int
 bs:Int
 so:Option Addr
 sn:Nat
 sc:Nat
 lo:Option Addr
 ln:Nat
 lc:Nat
 nc:Int
 wh:Bool
 ho:Option Addr
 hn:Nat
 hc:Nat
def MV.cells (m:MV):Array Value:=#[.int .i64 m.k,.int .u64 m.vi,.int .u64 m.no,.int .i64 m.fr,.int .u64 m.cl,.int .u64 m.nu,.int .u64 m.rq.cl,.int .u64 m.rq.nu,.int .i64 m.rq.op.k,.string m.rq.op.name,.string m.rq.op.to,.slice m.rq.op.ao m.rq.op.an m.rq.op.ac,.slice m.rq.op.bo m.rq.op.bn m.rq.op.bc,.slice m.rq.op.co m.rq.op.cn m.rq.op.cc,.int .i64 m.rq.op.n,.int .i64 m.rs.code,.bool m.rs.yes,.slice m.rs.eo m.rs.en m.rs.ec,.slice m.rs.co m.rs.cn m.rs.cc,.int .u64 m.at_,.int .u64 m.cm,.int .u64 m.bs,.slice m.so m.sn m.sc,.slice m.lo m.ln m.lc,.int .u64 m.nc,.bool m.wh,.slice m.ho m.hn m.hc]
def MV.val (m:MV):Value:=.agg m.cells
def MV.box (m:MV):Obj:=.cells m.cells 59
structure MC where
 rq:OC
 rs:QC
 snap:List UInt8
 log:List RP
 seen:List Nat
structure MAt (W:World)(m:MV)(c:MC):Prop where
 rq:OpAt W m.rq.op c.rq
 rs:QAt W m.rs c.rs
 sn:Rd W 1 m.so m.sn m.sc (byV c.snap)
 lg:LgAt W m.lo m.ln m.lc c.log
 se:Rd W 1 m.ho m.hn m.hc (je c.seen)
 ls:m.sn<=1000000000
 lh:m.hn<=1000000000
theorem MAt.later{m:MV}{c:MC}(h:MAt W m c)(hb:Below W.heap.size W W'):MAt W' m c:=⟨h.rq.later hb,h.rs.later hb,h.sn.later hb,h.lg.later hb,h.se.later hb,h.ls,h.lh⟩
theorem eF{m:MV}(h:W.heap[B]?=some m.box)(i:Nat)(v:Value)(hv:m.cells[i]?=some v):W.cell? ⟨B,i,none⟩=some v:=by
 unfold MV.box at h;simp[World.cell?,h,hv]
theorem dR{m:MV}(h:W.heap[B]?=some m.box)(i:Nat):W.frozen? ⟨B,i,none⟩=false:=by
 unfold MV.box at h;simp[World.frozen?,h]
structure McAt (W:World)(B:Nat)(m:MV):Prop where
 c0:W.cell? ⟨B,0,none⟩=some (.int .i64 m.k)
 c1:W.cell? ⟨B,1,none⟩=some (.int .u64 m.vi)
 c2:W.cell? ⟨B,2,none⟩=some (.int .u64 m.no)
 c3:W.cell? ⟨B,3,none⟩=some (.int .i64 m.fr)
 c4:W.cell? ⟨B,4,none⟩=some (.int .u64 m.cl)
 c5:W.cell? ⟨B,5,none⟩=some (.int .u64 m.nu)
 c6:W.cell? ⟨B,6,none⟩=some (.int .u64 m.rq.cl)
 c7:W.cell? ⟨B,7,none⟩=some (.int .u64 m.rq.nu)
 c8:W.cell? ⟨B,8,none⟩=some (.int .i64 m.rq.op.k)
 c9:W.cell? ⟨B,9,none⟩=some (.string m.rq.op.name)
 c10:W.cell? ⟨B,10,none⟩=some (.string m.rq.op.to)
 c11:W.cell? ⟨B,11,none⟩=some (.slice m.rq.op.ao m.rq.op.an m.rq.op.ac)
 c12:W.cell? ⟨B,12,none⟩=some (.slice m.rq.op.bo m.rq.op.bn m.rq.op.bc)
 c13:W.cell? ⟨B,13,none⟩=some (.slice m.rq.op.co m.rq.op.cn m.rq.op.cc)
 c14:W.cell? ⟨B,14,none⟩=some (.int .i64 m.rq.op.n)
 c15:W.cell? ⟨B,15,none⟩=some (.int .i64 m.rs.code)
 c16:W.cell? ⟨B,16,none⟩=some (.bool m.rs.yes)
 c17:W.cell? ⟨B,17,none⟩=some (.slice m.rs.eo m.rs.en m.rs.ec)
 c18:W.cell? ⟨B,18,none⟩=some (.slice m.rs.co m.rs.cn m.rs.cc)
 c19:W.cell? ⟨B,19,none⟩=some (.int .u64 m.at_)
 c20:W.cell? ⟨B,20,none⟩=some (.int .u64 m.cm)
 c21:W.cell? ⟨B,21,none⟩=some (.int .u64 m.bs)
 c22:W.cell? ⟨B,22,none⟩=some (.slice m.so m.sn m.sc)
 c23:W.cell? ⟨B,23,none⟩=some (.slice m.lo m.ln m.lc)
 c24:W.cell? ⟨B,24,none⟩=some (.int .u64 m.nc)
 c25:W.cell? ⟨B,25,none⟩=some (.bool m.wh)
 c26:W.cell? ⟨B,26,none⟩=some (.slice m.ho m.hn m.hc)
 q:∀(j:Nat) (v:Value),m.rq.cells[j]?=some v->W.cell? ⟨B,6+j,none⟩=some v
 r:∀(j:Nat) (v:Value),m.rs.cells[j]?=some v->W.cell? ⟨B,15+j,none⟩=some v
theorem McAt.of{m:MV}(h:W.heap[B]?=some m.box):McAt W B m where
 c0:=eF h 0 _ rfl
 c1:=eF h 1 _ rfl
 c2:=eF h 2 _ rfl
 c3:=eF h 3 _ rfl
 c4:=eF h 4 _ rfl
 c5:=eF h 5 _ rfl
 c6:=eF h 6 _ rfl
 c7:=eF h 7 _ rfl
 c8:=eF h 8 _ rfl
 c9:=eF h 9 _ rfl
 c10:=eF h 10 _ rfl
 c11:=eF h 11 _ rfl
 c12:=eF h 12 _ rfl
 c13:=eF h 13 _ rfl
 c14:=eF h 14 _ rfl
 c15:=eF h 15 _ rfl
 c16:=eF h 16 _ rfl
 c17:=eF h 17 _ rfl
 c18:=eF h 18 _ rfl
 c19:=eF h 19 _ rfl
 c20:=eF h 20 _ rfl
 c21:=eF h 21 _ rfl
 c22:=eF h 22 _ rfl
 c23:=eF h 23 _ rfl
 c24:=eF h 24 _ rfl
 c25:=eF h 25 _ rfl
 c26:=eF h 26 _ rfl
 q:=fun j v hv=>by
  have hj:j<9:=by
   have:=lA hv;simpa [RV.cells] using this
  refine eF h (6+j) v ?_;rcases (by omega:j=0\/j=1\/j=2\/j=3\/j=4\/j=5\/j=6\/j=7\/j=8) with rfl|rfl|rfl|rfl|rfl|rfl|rfl|rfl|rfl<;>exact hv
 r:=fun j v hv=>by
  have hj:j<4:=by
   have:=lA hv;simpa [QV.cells] using this
  refine eF h (15+j) v ?_;rcases (by omega:j=0\/j=1\/j=2\/j=3) with rfl|rfl|rfl|rfl<;>exact hv
theorem af{m:MV}(h:W.heap[B]?=some m.box)(hb:Below W.heap.size W W'):W'.heap[B]?=some m.box:=hb.q h
def aH (m:MV)(c:MC)(m':MV)(c':MC):Bool:=
 decide (m.k=m'.k)&&(decide (m.vi=m'.vi)&&(decide (m.no=m'.no)&&(decide (m.fr=m'.fr)&&(decide (m.cl=m'.cl)&&(decide (m.nu=m'.nu)&&(bQ m.rq c.rq m'.rq c'.rq&&(aF m.rs c.rs m'.rs c'.rs&&(decide (m.at_=m'.at_)&&(decide (m.cm=m'.cm)&&(decide (m.bs=m'.bs)&&(decide (c.snap=c'.snap)&&(bH c.log c'.log&&(decide (m.nc=m'.nc)&&(decide (m.wh=m'.wh)&&decide (c.seen=c'.seen)))))))))))))))
def dP (n2 n3 n4 n5 n6 n7 n8 n9 n10 n11 n12 n13 n14 n15 n16:Int):Array Value:=#[.int .u64 0,.int .u64 0,.int .u64 n2,.int .u64 n3,.int .u64 n4,.int .u64 n5,.int .u64 n6,.int .u64 n7,.int .u64 n8,.int .u64 n9,.int .u64 n10,.int .u64 n11,.int .u64 n12,.int .u64 n13,.int .u64 n14,.int .u64 n15,.int .u64 n16]
def oq (m:MV):Array Value:=dP m.vi m.no 0 m.cl m.nu 0 0 m.at_ m.cm m.bs 0 0 m.nc 0 0
theorem eQ(h:W.heap[A]?=some (.cells arr t))(i:Nat)(v:Value)(hv:arr[i]?=some v):W.cell? ⟨A,i,none⟩=some v:=by
 simp[World.cell?,h,hv]
theorem at_new(W:World)(o:Obj):(W.alloc o).heap[W.heap.size]?=some o:=by show (W.heap.push o)[W.heap.size]?=some o;exact ybH
theorem fF(h:W.heap[A]?=some (.cells arr t))(i:Nat):W.frozen? ⟨A,i,none⟩=false:=by
 simp[World.frozen?,h]
structure Nx (w X:World)(m:MV)(o:Obj)(c:Array Value):Prop where
 t:X.heap[w.heap.size]?=some m.box
 b:X.heap[w.heap.size+1]?=some o
 a:X.heap[w.heap.size+2]?=some (.cells c 154)
 l:Below w.heap.size w X
theorem Nx.set{X:World}{m:MV}{o:Obj}{c:Array Value}(h:Nx w X m o c)(i:Nat)(x:Value):Nx w (X.setCell ⟨w.heap.size+2,i,none⟩ x) m o (c.setIfInBounds i x):=
 ⟨ah h.t (by omega),ah h.b (by omega),at_set h.a,h.l.setCell (p:=⟨w.heap.size+2,i,none⟩) (by show w.heap.size<=w.heap.size+2;omega) x⟩
theorem IL(m:MV)(w:World):Calls Tryz.prog 89 #[m.val] w (fun e w'=>e=.returned (.agg (oq m))/\Below w.heap.size w w'):=by
 have hmo:=hmO
 have hb0:Below w.heap.size w (((w.alloc m.box).alloc (.cells (dP 0 0 0 0 0 0 0 0 0 0 0 0 0 0 0) 154)).alloc (.cells (dP 0 0 0 0 0 0 0 0 0 0 0 0 0 0 0) 154)):=(cu w _ _).alloc (by simp;omega) _;obtain⟨k1,k2⟩:=dh w m.box (.cells (dP 0 0 0 0 0 0 0 0 0 0 0 0 0 0 0) 154);have hz:((w.alloc m.box).alloc (.cells (dP 0 0 0 0 0 0 0 0 0 0 0 0 0 0 0) 154)).heap.size=w.heap.size+2:=by simp
 obtain⟨j1,j2,j3⟩:(((w.alloc m.box).alloc (.cells (dP 0 0 0 0 0 0 0 0 0 0 0 0 0 0 0) 154)).alloc (.cells (dP 0 0 0 0 0 0 0 0 0 0 0 0 0 0 0) 154)).heap[w.heap.size]?=some m.box/\(((w.alloc m.box).alloc (.cells (dP 0 0 0 0 0 0 0 0 0 0 0 0 0 0 0) 154)).alloc (.cells (dP 0 0 0 0 0 0 0 0 0 0 0 0 0 0 0) 154)).heap[w.heap.size+1]?=some (.cells (dP 0 0 0 0 0 0 0 0 0 0 0 0 0 0 0) 154)/\(((w.alloc m.box).alloc (.cells (dP 0 0 0 0 0 0 0 0 0 0 0 0 0 0 0) 154)).alloc (.cells (dP 0 0 0 0 0 0 0 0 0 0 0 0 0 0 0) 154)).heap[w.heap.size+2]?=some (.cells (dP 0 0 0 0 0 0 0 0 0 0 0 0 0 0 0) 154):=by
  have hb:Below (w.heap.size+2) ((w.alloc m.box).alloc (.cells (dP 0 0 0 0 0 0 0 0 0 0 0 0 0 0 0) 154)) (((w.alloc m.box).alloc (.cells (dP 0 0 0 0 0 0 0 0 0 0 0 0 0 0 0) 154)).alloc (.cells (dP 0 0 0 0 0 0 0 0 0 0 0 0 0 0 0) 154)):=by
   have:=(yaj ((w.alloc m.box).alloc (.cells (dP 0 0 0 0 0 0 0 0 0 0 0 0 0 0 0) 154)).heap.size ((w.alloc m.box).alloc (.cells (dP 0 0 0 0 0 0 0 0 0 0 0 0 0 0 0) 154))).alloc (yag _) (.cells (dP 0 0 0 0 0 0 0 0 0 0 0 0 0 0 0) 154);rw[hz] at this;exact this
  refine⟨(hb.block _ (by omega)).trans k1,(hb.block _ (by omega)).trans k2,?_⟩;rw[<-hz];exact at_new _ _
 unfold MV.box MV.cells dP at hb0 j1 j2 j3;clear k1 k2 hz;unfold MV.val MV.cells;go_in;go_upto_region 2 with fail;generalize hg:World.alloc _ _=W0 at *;have s0:W0.heap[w.heap.size]?=some m.box:=j1;have zb:W0.heap[w.heap.size+1]?=some (.cells (dP 0 0 0 0 0 0 0 0 0 0 0 0 0 0 0) 154):=j2;have za:W0.heap[w.heap.size+2]?=some (.cells (dP 0 0 0 0 0 0 0 0 0 0 0 0 0 0 0) 154):=j3;clear hg j1 j2 j3;refine yaB (S:=fun W=>W.heap[w.heap.size]?=some m.box) hmo ?_;change wpAnyH _ _ _ _ _ _ _ _ (World.drew W0);have hd:Below W0.heap.size W0 W0.drew:=(yaj _ _).drew;have t0:=af s0 hd;have b0:=hd.q zb;have a0:=hd.q za;have l0:=hb0.trans (hd.mono hb0.size);generalize World.drew W0=X0 at *;clear s0 zb za hd hb0;have n0:Nx w X0 m (.cells (dP 0 0 0 0 0 0 0 0 0 0 0 0 0 0 0) 154) (dP 0 0 0 0 0 0 0 0 0 0 0 0 0 0 0):=⟨t0,b0,a0,l0⟩
 clear a0 b0 l0;have M:=fun (W:World) (h:W.heap[w.heap.size]?=some m.box)=>McAt.of h;have zf0:=fun (w0:World) (h:w0.heap[w.heap.size]?=some m.box)=>(M w0 h).c1;have zf1:=fun (w0:World) (h:w0.heap[w.heap.size]?=some m.box)=>(M w0 h).c2;have zf2:=fun (w0:World) (h:w0.heap[w.heap.size]?=some m.box)=>(M w0 h).c4;have zf3:=fun (w0:World) (h:w0.heap[w.heap.size]?=some m.box)=>(M w0 h).c5;have zf4:=fun (w0:World) (h:w0.heap[w.heap.size]?=some m.box)=>(M w0 h).c19;have zf5:=fun (w0:World) (h:w0.heap[w.heap.size]?=some m.box)=>(M w0 h).c20;have zf6:=fun (w0:World) (h:w0.heap[w.heap.size]?=some m.box)=>(M w0 h).c21;have zf7:=fun (w0:World) (h:w0.heap[w.heap.size]?=some m.box)=>(M w0 h).c24;refine zp 0 (pp w.heap.size 1) rfl ?_;go_simp;refine zv 1 (.int .u64 m.vi) rfl ?_;go_simp;refine zp 2 (pp w.heap.size 2) rfl ?_;go_simp;refine zv 3 (.int .u64 m.no) rfl ?_;go_simp;refine zp 4 (pp w.heap.size 4) rfl ?_;go_simp;refine zv 5 (.int .u64 m.cl) rfl ?_;go_simp;refine zp 6 (pp w.heap.size 5) rfl ?_;go_simp;refine zv 7 (.int .u64 m.nu) rfl ?_;go_simp;refine zp 8 (pp w.heap.size 19) rfl ?_;go_simp;refine zv 9 (.int .u64 m.at_) rfl ?_;go_simp;refine zp 10 (pp w.heap.size 20) rfl ?_;go_simp;refine zv 11 (.int .u64 m.cm) rfl ?_;go_simp;refine zp 12 (pp w.heap.size 21) rfl ?_;go_simp;refine zv 13 (.int .u64 m.bs) rfl ?_;go_simp;refine zp 14 (pp w.heap.size 24) rfl ?_;go_simp;refine zv 15 (.int .u64 m.nc) rfl ?_;go_simp;refine zp 16 (pp (w.heap.size+2) 2) rfl ?_;go_simp;refine zH1 17 rfl (fun K hK=>?_);have z:=eQ n0.a 2 (.int .u64 0) rfl;have fz:=fF n0.a 2;have n1:=n0.set 2 (.int .u64 m.vi);go_simp;refine hK _ _ ⟨n1.t,?_⟩;generalize World.setCell X0 _ _=X1 at *;clear hK K z fz t0 n0;have t0:=n1.t;refine zp 18 (pp (w.heap.size+2) 3) rfl ?_;go_simp;refine zH1 19 rfl (fun K hK=>?_);have z:=eQ n1.a 3 (.int .u64 0) rfl;have fz:=fF n1.a 3;have n2:=n1.set 3 (.int .u64 m.no);go_simp;refine hK _ _ ⟨n2.t,?_⟩;generalize World.setCell X1 _ _=X2 at *;clear hK K z fz t0 n1;have t0:=n2.t;refine zp 20 (pp (w.heap.size+2) 5) rfl ?_;go_simp;refine zH1 21 rfl (fun K hK=>?_);have z:=eQ n2.a 5 (.int .u64 0) rfl;have fz:=fF n2.a 5;have n3:=n2.set 5 (.int .u64 m.cl);go_simp;refine hK _ _ ⟨n3.t,?_⟩;generalize World.setCell X2 _ _=X3 at *;clear hK K z fz t0 n2;have t0:=n3.t;refine zp 22 (pp (w.heap.size+2) 6) rfl ?_;go_simp;refine zH1 23 rfl (fun K hK=>?_);have z:=eQ n3.a 6 (.int .u64 0) rfl;have fz:=fF n3.a 6;have n4:=n3.set 6 (.int .u64 m.nu);go_simp;refine hK _ _ ⟨n4.t,?_⟩;generalize World.setCell X3 _ _=X4 at *;clear hK K z fz t0 n3;have t0:=n4.t;refine zp 24 (pp (w.heap.size+2) 9) rfl ?_;go_simp;refine zH1 25 rfl (fun K hK=>?_);have z:=eQ n4.a 9 (.int .u64 0) rfl;have fz:=fF n4.a 9;have n5:=n4.set 9 (.int .u64 m.at_);go_simp;refine hK _ _ ⟨n5.t,?_⟩;generalize World.setCell X4 _ _=X5 at *;clear hK K z fz t0 n4;have t0:=n5.t;refine zp 26 (pp (w.heap.size+2) 10) rfl ?_;go_simp;refine zH1 27 rfl (fun K hK=>?_);have z:=eQ n5.a 10 (.int .u64 0) rfl;have fz:=fF n5.a 10;have n6:=n5.set 10 (.int .u64 m.cm);go_simp;refine hK _ _ ⟨n6.t,?_⟩;generalize World.setCell X5 _ _=X6 at *;clear hK K z fz t0 n5;have t0:=n6.t;refine zp 28 (pp (w.heap.size+2) 11) rfl ?_;go_simp;refine zH1 29 rfl (fun K hK=>?_);have z:=eQ n6.a 11 (.int .u64 0) rfl;have fz:=fF n6.a 11;have n7:=n6.set 11 (.int .u64 m.bs);go_simp;refine hK _ _ ⟨n7.t,?_⟩;generalize World.setCell X6 _ _=X7 at *;clear hK K z fz t0 n6;have t0:=n7.t;refine zp 30 (pp (w.heap.size+2) 14) rfl ?_;go_simp;refine zH1 31 rfl (fun K hK=>?_);have z:=eQ n7.a 14 (.int .u64 0) rfl;have fz:=fF n7.a 14;have n8:=n7.set 14 (.int .u64 m.nc);go_simp;refine hK _ _ ⟨n8.t,?_⟩;generalize World.setCell X7 _ _=X8 at *;clear hK K z fz t0 n7;have b8:=n8.b;have a8:X8.heap[w.heap.size+2]?=some (.cells (oq m) 154):=n8.a.trans rfl;have l8:=n8.l;clear n8 M;refine zd ?_;have g8:(X8.setRow (w.heap.size+1) (oq m)).heap[w.heap.size+1]?=some (.cells (oq m) 154):=aO b8;have l9:=below_setRow l8 (show w.heap.size<=w.heap.size+1 by omega) (oq m);go_wp2_with (first | (refine wpList_load_row (ty:=154) a8 rfl rfl rfl (by kernel_rfl) (by kernel_rfl) ?_;go_simp) | (refine zSr rfl b8 ?_;go_simp));exact yay (w:=X8.setRow (w.heap.size+1) (oq m)) (vk (i:=2) (t:=154) rfl rfl (by kernel_rfl) (by kernel_rfl) g8) rfl ⟨rfl,l9⟩
