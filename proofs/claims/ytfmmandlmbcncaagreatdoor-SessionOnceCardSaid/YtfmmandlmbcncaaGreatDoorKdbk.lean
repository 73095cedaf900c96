/-
  A part of the proof.
-/
import Derived.Test.YtfmmandlmbcncaaGreatDoorKdbj
import Derived.Test.YtfmmandlmbcncaaGreatDoorKdbh
set_option maxHeartbeats 40000000
set_option maxRecDepth 100000
namespace Go.Proofs.YtfmmandlmbcncaaGreatDoor.Msg
open Go.RowKit Go.Lib Mem Tlv
def xX (r:RV)(c:OC):Int×Int×Int×ByteArray×ByteArray×List (ByteArray×ByteArray)×List ByteArray×List UInt8×Int:=(r.cl,r.nu,r.op.k,r.op.name,r.op.to,c.attrs,c.parts,c.cursor,r.op.n)
theorem fM {r r':RV}{c c':OC}:bP r c r' c'=true↔xX r c=xX r' c':=by
 unfold bP bK xX;simp only[Bool.and_eq_true,decide_eq_true_eq,Prod.mk.injEq,and_assoc]
def qJ (l:List EP):List (ByteArray×List (ByteArray×ByteArray)):=l.map fun p=>(p.1.name,p.2)
theorem sZ:∀ {l l':List EP},aH l l'=true↔qJ l=qJ l'
 | [],[]=>⟨fun _=>rfl,fun _=>rfl⟩
 | [],_::_=>⟨fun h=>(by cases h),fun h=>(by cases h)⟩
 | _::_,[]=>⟨fun h=>(by cases h),fun h=>(by cases h)⟩
 | p::l,q::m=>by
  show (bJ p.1 p.2 q.1 q.2&&aH l m)=true↔(p.1.name,p.2)::qJ l=(q.1.name,q.2)::qJ m;unfold bJ;rw[Bool.and_eq_true,Bool.and_eq_true,decide_eq_true_eq,decide_eq_true_eq,sZ,List.cons.injEq,Prod.mk.injEq]
def AX (v:QV)(c:QC):Int×Bool×List (ByteArray×List (ByteArray×ByteArray))×List UInt8:=(v.code,v.yes,qJ c.ents,c.cursor)
theorem fC {v v':QV}{c c':QC}:aN v c v' c'=true↔AX v c=AX v' c':=by
 unfold aN AX;rw[Bool.and_eq_true,Bool.and_eq_true,Bool.and_eq_true,decide_eq_true_eq,decide_eq_true_eq,decide_eq_true_eq,sZ,Prod.mk.injEq,Prod.mk.injEq,Prod.mk.injEq]
def Ei (l:List RP):List (Int×Int×Int×ByteArray×ByteArray×List (ByteArray×ByteArray)×List ByteArray×List UInt8×Int):=l.map fun p=>xX p.1 p.2
theorem fK:∀ {l l':List RP},bT l l'=true↔Ei l=Ei l'
 | [],[]=>⟨fun _=>rfl,fun _=>rfl⟩
 | [],_::_=>⟨fun h=>(by cases h),fun h=>(by cases h)⟩
 | _::_,[]=>⟨fun h=>(by cases h),fun h=>(by cases h)⟩
 | p::l,q::m=>by
  show (bP p.1 p.2 q.1 q.2&&bT l m)=true↔xX p.1 p.2::Ei l=xX q.1 q.2::Ei m;rw[Bool.and_eq_true,fM,fK,List.cons.injEq]
theorem gI {x:Int}{m m':MV}{c c':MC}(h:agree x m c m' c'=true):agree x m' c' m c=true:=by
 by_cases e118:x=118
 ·subst e118;exact (decide_eq_true_iff).2 ((decide_eq_true_iff).1 h).symm
 by_cases e110:x=110
 ·subst e110;exact (decide_eq_true_iff).2 ((decide_eq_true_iff).1 h).symm
 by_cases e102:x=102
 ·subst e102;exact (decide_eq_true_iff).2 ((decide_eq_true_iff).1 h).symm
 by_cases e99:x=99
 ·subst e99;exact (decide_eq_true_iff).2 ((decide_eq_true_iff).1 h).symm
 by_cases e117:x=117
 ·subst e117;exact (decide_eq_true_iff).2 ((decide_eq_true_iff).1 h).symm
 by_cases e113:x=113
 ·subst e113;exact fM.2 (fM.1 h).symm
 by_cases e114:x=114
 ·subst e114;exact fC.2 (fC.1 h).symm
 by_cases e97:x=97
 ·subst e97;exact (decide_eq_true_iff).2 ((decide_eq_true_iff).1 h).symm
 by_cases e109:x=109
 ·subst e109;exact (decide_eq_true_iff).2 ((decide_eq_true_iff).1 h).symm
 by_cases e98:x=98
 ·subst e98;exact (decide_eq_true_iff).2 ((decide_eq_true_iff).1 h).symm
 by_cases e115:x=115
 ·subst e115;exact (decide_eq_true_iff).2 ((decide_eq_true_iff).1 h).symm
 by_cases e108:x=108
 ·subst e108;exact fK.2 (fK.1 h).symm
 by_cases e111:x=111
 ·subst e111;exact (decide_eq_true_iff).2 ((decide_eq_true_iff).1 h).symm
 by_cases e119:x=119
 ·subst e119;exact (decide_eq_true_iff).2 ((decide_eq_true_iff).1 h).symm
 have hd:∀(m m':MV) (c c':MC),agree x m c m' c'=decide (c.seen=c'.seen):=fun m m' c c'=>by unfold agree;simp only[e118,e110,e102,e99,e117,e113,e114,e97,e109,e98,e115,e108,e111,e119,if_false]
 rw[hd] at h ⊢;exact decide_eq_true (of_decide_eq_true h).symm
theorem dQ {x:Int}{m m' n:MV}{c c' d:MC}(h:agree x m c m' c'=true)(h':agree x m' c' n d=true):agree x m c n d=true:=by
 by_cases e118:x=118
 ·subst e118;exact (decide_eq_true_iff).2 (((decide_eq_true_iff).1 h).trans ((decide_eq_true_iff).1 h'))
 by_cases e110:x=110
 ·subst e110;exact (decide_eq_true_iff).2 (((decide_eq_true_iff).1 h).trans ((decide_eq_true_iff).1 h'))
 by_cases e102:x=102
 ·subst e102;exact (decide_eq_true_iff).2 (((decide_eq_true_iff).1 h).trans ((decide_eq_true_iff).1 h'))
 by_cases e99:x=99
 ·subst e99;exact (decide_eq_true_iff).2 (((decide_eq_true_iff).1 h).trans ((decide_eq_true_iff).1 h'))
 by_cases e117:x=117
 ·subst e117;exact (decide_eq_true_iff).2 (((decide_eq_true_iff).1 h).trans ((decide_eq_true_iff).1 h'))
 by_cases e113:x=113
 ·subst e113;exact fM.2 ((fM.1 h).trans (fM.1 h'))
 by_cases e114:x=114
 ·subst e114;exact fC.2 ((fC.1 h).trans (fC.1 h'))
 by_cases e97:x=97
 ·subst e97;exact (decide_eq_true_iff).2 (((decide_eq_true_iff).1 h).trans ((decide_eq_true_iff).1 h'))
 by_cases e109:x=109
 ·subst e109;exact (decide_eq_true_iff).2 (((decide_eq_true_iff).1 h).trans ((decide_eq_true_iff).1 h'))
 by_cases e98:x=98
 ·subst e98;exact (decide_eq_true_iff).2 (((decide_eq_true_iff).1 h).trans ((decide_eq_true_iff).1 h'))
 by_cases e115:x=115
 ·subst e115;exact (decide_eq_true_iff).2 (((decide_eq_true_iff).1 h).trans ((decide_eq_true_iff).1 h'))
 by_cases e108:x=108
 ·subst e108;exact fK.2 ((fK.1 h).trans (fK.1 h'))
 by_cases e111:x=111
 ·subst e111;exact (decide_eq_true_iff).2 (((decide_eq_true_iff).1 h).trans ((decide_eq_true_iff).1 h'))
 by_cases e119:x=119
 ·subst e119;exact (decide_eq_true_iff).2 (((decide_eq_true_iff).1 h).trans ((decide_eq_true_iff).1 h'))
 have hd:∀(m m':MV) (c c':MC),agree x m c m' c'=decide (c.seen=c'.seen):=fun m m' c c'=>by unfold agree;simp only[e118,e110,e102,e99,e117,e113,e114,e97,e109,e98,e115,e108,e111,e119,if_false]
 rw[hd] at h h' ⊢;exact decide_eq_true ((of_decide_eq_true h).trans (of_decide_eq_true h'))
theorem jW (x:Int)(m:MV)(c:MC):agree x m c m c=true:=by
 by_cases e118:x=118
 ·subst e118;exact (decide_eq_true_iff).2 rfl
 by_cases e110:x=110
 ·subst e110;exact (decide_eq_true_iff).2 rfl
 by_cases e102:x=102
 ·subst e102;exact (decide_eq_true_iff).2 rfl
 by_cases e99:x=99
 ·subst e99;exact (decide_eq_true_iff).2 rfl
 by_cases e117:x=117
 ·subst e117;exact (decide_eq_true_iff).2 rfl
 by_cases e113:x=113
 ·subst e113;exact fM.2 rfl
 by_cases e114:x=114
 ·subst e114;exact fC.2 rfl
 by_cases e97:x=97
 ·subst e97;exact (decide_eq_true_iff).2 rfl
 by_cases e109:x=109
 ·subst e109;exact (decide_eq_true_iff).2 rfl
 by_cases e98:x=98
 ·subst e98;exact (decide_eq_true_iff).2 rfl
 by_cases e115:x=115
 ·subst e115;exact (decide_eq_true_iff).2 rfl
 by_cases e108:x=108
 ·subst e108;exact fK.2 rfl
 by_cases e111:x=111
 ·subst e111;exact (decide_eq_true_iff).2 rfl
 by_cases e119:x=119
 ·subst e119;exact (decide_eq_true_iff).2 rfl
 have hd:agree x m c m c=decide (c.seen=c.seen):=by unfold agree;simp only[e118,e110,e102,e99,e117,e113,e114,e97,e109,e98,e115,e108,e111,e119,if_false]
 rw[hd];exact decide_eq_true rfl
theorem same_iff {m m':MV}{c c':MC}:aG m c m' c'=true↔m.k=m'.k/\∀x∈dA,agree x m c m' c'=true:=by
 constructor
 ·intro h;unfold aG at h;simp only[Bool.and_eq_true] at h;obtain⟨h1,h2,h3,h4,h5,h6,h7,h8,h9,h10,h11,h12,h13,h14,h15,h16⟩:=h;refine⟨of_decide_eq_true h1,fun x hx=>?_⟩;simp only[dA,List.mem_cons,List.not_mem_nil,or_false] at hx;rcases hx with rfl|rfl|rfl|rfl|rfl|rfl|rfl|rfl|rfl|rfl|rfl|rfl|rfl|rfl|rfl
  ·exact h2
  ·exact h3
  ·exact h4
  ·exact h5
  ·exact h6
  ·exact h7
  ·exact h8
  ·exact h9
  ·exact h10
  ·exact h11
  ·exact h12
  ·exact h13
  ·exact h14
  ·exact h15
  exact h16
 rintro⟨hk,h⟩;unfold aG;simp only[Bool.and_eq_true];exact⟨decide_eq_true hk,h 118 (by decide),h 110 (by decide),h 102 (by decide),h 99 (by decide),h 117 (by decide),h 113 (by decide),h 114 (by decide),h 97 (by decide),h 109 (by decide),h 98 (by decide),h 115 (by decide),h 108 (by decide),h 111 (by decide),h 119 (by decide),h 101 (by decide)⟩
theorem Fj (x:Int)(m0 m:MV)(c0 c:MC)(hx:x∈dA):agree x (aK x m0 m) (dE x c0 c) m c=true:=by
 simp only[dA,List.mem_cons,List.not_mem_nil,or_false] at hx;rcases hx with rfl|rfl|rfl|rfl|rfl|rfl|rfl|rfl|rfl|rfl|rfl|rfl|rfl|rfl|rfl
 ·show decide (m.vi=m.vi)=true;exact (decide_eq_true_iff).2 rfl
 ·show decide (m.no=m.no)=true;exact (decide_eq_true_iff).2 rfl
 ·show decide (m.fr=m.fr)=true;exact (decide_eq_true_iff).2 rfl
 ·show decide (m.cl=m.cl)=true;exact (decide_eq_true_iff).2 rfl
 ·show decide (m.nu=m.nu)=true;exact (decide_eq_true_iff).2 rfl
 ·show bP m.rq c.rq m.rq c.rq=true;exact fM.2 rfl
 ·show aN m.rs c.rs m.rs c.rs=true;exact fC.2 rfl
 ·show decide (m.at_=m.at_)=true;exact (decide_eq_true_iff).2 rfl
 ·show decide (m.cm=m.cm)=true;exact (decide_eq_true_iff).2 rfl
 ·show decide (m.bs=m.bs)=true;exact (decide_eq_true_iff).2 rfl
 ·show decide (c.snap=c.snap)=true;exact (decide_eq_true_iff).2 rfl
 ·show bT c.log c.log=true;exact fK.2 rfl
 ·show decide (m.nc=m.nc)=true;exact (decide_eq_true_iff).2 rfl
 ·show decide (m.wh=m.wh)=true;exact (decide_eq_true_iff).2 rfl
 show decide (c.seen=c.seen)=true;exact (decide_eq_true_iff).2 rfl
theorem mf (x y:Int)(m0 m:MV)(c0 c:MC)(hx:x∈dA)(hy:y∈dA)(hne:x≠y):agree x (aK y m0 m) (dE y c0 c) m0 c0=true:=by
 simp only[dA,List.mem_cons,List.not_mem_nil,or_false] at hx hy;rcases hx with rfl|rfl|rfl|rfl|rfl|rfl|rfl|rfl|rfl|rfl|rfl|rfl|rfl|rfl|rfl
 ·rcases hy with rfl|rfl|rfl|rfl|rfl|rfl|rfl|rfl|rfl|rfl|rfl|rfl|rfl|rfl|rfl<;>first | exact absurd rfl hne | (show decide (m0.vi=m0.vi)=true;exact (decide_eq_true_iff).2 rfl)
 ·rcases hy with rfl|rfl|rfl|rfl|rfl|rfl|rfl|rfl|rfl|rfl|rfl|rfl|rfl|rfl|rfl<;>first | exact absurd rfl hne | (show decide (m0.no=m0.no)=true;exact (decide_eq_true_iff).2 rfl)
 ·rcases hy with rfl|rfl|rfl|rfl|rfl|rfl|rfl|rfl|rfl|rfl|rfl|rfl|rfl|rfl|rfl<;>first | exact absurd rfl hne | (show decide (m0.fr=m0.fr)=true;exact (decide_eq_true_iff).2 rfl)
 ·rcases hy with rfl|rfl|rfl|rfl|rfl|rfl|rfl|rfl|rfl|rfl|rfl|rfl|rfl|rfl|rfl<;>first | exact absurd rfl hne | (show decide (m0.cl=m0.cl)=true;exact (decide_eq_true_iff).2 rfl)
 ·rcases hy with rfl|rfl|rfl|rfl|rfl|rfl|rfl|rfl|rfl|rfl|rfl|rfl|rfl|rfl|rfl<;>first | exact absurd rfl hne | (show decide (m0.nu=m0.nu)=true;exact (decide_eq_true_iff).2 rfl)
 ·rcases hy with rfl|rfl|rfl|rfl|rfl|rfl|rfl|rfl|rfl|rfl|rfl|rfl|rfl|rfl|rfl<;>first | exact absurd rfl hne | (show bP m0.rq c0.rq m0.rq c0.rq=true;exact fM.2 rfl)
 ·rcases hy with rfl|rfl|rfl|rfl|rfl|rfl|rfl|rfl|rfl|rfl|rfl|rfl|rfl|rfl|rfl<;>first | exact absurd rfl hne | (show aN m0.rs c0.rs m0.rs c0.rs=true;exact fC.2 rfl)
 ·rcases hy with rfl|rfl|rfl|rfl|rfl|rfl|rfl|rfl|rfl|rfl|rfl|rfl|rfl|rfl|rfl<;>first | exact absurd rfl hne | (show decide (m0.at_=m0.at_)=true;exact (decide_eq_true_iff).2 rfl)
 ·rcases hy with rfl|rfl|rfl|rfl|rfl|rfl|rfl|rfl|rfl|rfl|rfl|rfl|rfl|rfl|rfl<;>first | exact absurd rfl hne | (show decide (m0.cm=m0.cm)=true;exact (decide_eq_true_iff).2 rfl)
 ·rcases hy with rfl|rfl|rfl|rfl|rfl|rfl|rfl|rfl|rfl|rfl|rfl|rfl|rfl|rfl|rfl<;>first | exact absurd rfl hne | (show decide (m0.bs=m0.bs)=true;exact (decide_eq_true_iff).2 rfl)
 ·rcases hy with rfl|rfl|rfl|rfl|rfl|rfl|rfl|rfl|rfl|rfl|rfl|rfl|rfl|rfl|rfl<;>first | exact absurd rfl hne | (show decide (c0.snap=c0.snap)=true;exact (decide_eq_true_iff).2 rfl)
 ·rcases hy with rfl|rfl|rfl|rfl|rfl|rfl|rfl|rfl|rfl|rfl|rfl|rfl|rfl|rfl|rfl<;>first | exact absurd rfl hne | (show bT c0.log c0.log=true;exact fK.2 rfl)
 ·rcases hy with rfl|rfl|rfl|rfl|rfl|rfl|rfl|rfl|rfl|rfl|rfl|rfl|rfl|rfl|rfl<;>first | exact absurd rfl hne | (show decide (m0.nc=m0.nc)=true;exact (decide_eq_true_iff).2 rfl)
 ·rcases hy with rfl|rfl|rfl|rfl|rfl|rfl|rfl|rfl|rfl|rfl|rfl|rfl|rfl|rfl|rfl<;>first | exact absurd rfl hne | (show decide (m0.wh=m0.wh)=true;exact (decide_eq_true_iff).2 rfl)
 rcases hy with rfl|rfl|rfl|rfl|rfl|rfl|rfl|rfl|rfl|rfl|rfl|rfl|rfl|rfl|rfl<;>first | exact absurd rfl hne | (show decide (c0.seen=c0.seen)=true;exact (decide_eq_true_iff).2 rfl)
theorem pY (m:MV)(c:MC):∀(ls:List Int),(∀x∈ls,x∈dA)->∀x∈dA,∀(m0:MV) (c0:MC),(x∈ls->agree x (ls.foldl (fun b y=>aK y b m) m0) (ls.foldl (fun b y=>dE y b c) c0) m c=true)/\(x∉ls->agree x (ls.foldl (fun b y=>aK y b m) m0) (ls.foldl (fun b y=>dE y b c) c0) m0 c0=true)
 | [],_,x,_,m0,c0=>⟨fun h=>absurd h List.not_mem_nil,fun _=>jW x m0 c0⟩
 | y::ls,hls,x,hx,m0,c0=>by
  obtain⟨h1,h2⟩:=pY m c ls (fun z hz=>hls z (by simp[hz])) x hx (aK y m0 m) (dE y c0 c);refine⟨fun h=>?_,fun h=>?_⟩
  ·by_cases hm:x∈ls
   ·exact h1 hm
   obtain rfl:x=y:=by
    rcases List.mem_cons.1 h with h | h
    ·exact h
    exact absurd h hm
   exact dQ (h2 hm) (Fj x m0 m c0 c hx)
  have hne:x≠y:=fun e=>h (by simp[e]);exact dQ (h2 (fun hm=>h (by simp[hm]))) (mf x y m0 m c0 c hx (hls y (by simp)) hne)
theorem Ar (y:Int)(m0 m:MV):(aK y m0 m).k=m0.k:=by
 by_cases e118:y=118
 ·subst e118;rfl
 by_cases e110:y=110
 ·subst e110;rfl
 by_cases e102:y=102
 ·subst e102;rfl
 by_cases e99:y=99
 ·subst e99;rfl
 by_cases e117:y=117
 ·subst e117;rfl
 by_cases e113:y=113
 ·subst e113;rfl
 by_cases e114:y=114
 ·subst e114;rfl
 by_cases e97:y=97
 ·subst e97;rfl
 by_cases e109:y=109
 ·subst e109;rfl
 by_cases e98:y=98
 ·subst e98;rfl
 by_cases e115:y=115
 ·subst e115;rfl
 by_cases e108:y=108
 ·subst e108;rfl
 by_cases e111:y=111
 ·subst e111;rfl
 by_cases e119:y=119
 ·subst e119;rfl
 by_cases e101:y=101
 ·subst e101;rfl
 unfold aK;simp only[e118,e110,e102,e99,e117,e113,e114,e97,e109,e98,e115,e108,e111,e119,e101,if_false]
theorem BN (m:MV):∀(ls:List Int) (m0:MV),(ls.foldl (fun b y=>aK y b m) m0).k=m0.k
 | [],_=>rfl
 | y::ls,m0=>by rw[List.foldl_cons,BN m ls,Ar]
theorem zt {m o:MV}{c d:MC}{ls:List Int}(hls:∀x∈ls,x∈dA)(hk:o.k=m.k)(hag:∀x∈ls,agree x o d m c=true)(hz:∀x∈dA,x∉ls->agree x o d (ay m.k) dI=true):aG o d m c=aG m c (iQ ls m) (kH ls c):=by
 rw[Bool.eq_iff_iff,same_iff,same_iff];have hkept:=fun x hx=>pY m c ls hls x hx (ay m.k) dI;constructor
 ·rintro⟨-,h⟩;refine⟨(BN m ls (ay m.k)).symm,fun x hx=>?_⟩;by_cases hm:x∈ls
  ·exact gI ((hkept x hx).1 hm)
  exact dQ (gI (h x hx)) (dQ (hz x hx hm) (gI ((hkept x hx).2 hm)))
 rintro⟨-,h⟩;refine⟨hk,fun x hx=>?_⟩;by_cases hm:x∈ls
 ·exact hag x hm
 exact dQ (hz x hx hm) (dQ (gI ((hkept x hx).2 hm)) (gI (h x hx)))
def jB (x:Int):UInt8:=
 if x=118 then 2 else if x=110 then 3 else if x=102 then 4 else if x=99 then 5 else if x=117 then 6 else if x=113 then 7 else if x=114 then 8 else if x=97 then 9 else if x=109 then 10 else if x=98 then 11 else if x=115 then 12 else if x=108 then 13 else if x=111 then 14 else if x=119 then 15 else 16
def dZ (k:Int)(wh:Bool):List UInt8:=(lettersOf k wh).map jB
def iV (l:List UInt8)(w:World)(e:Ending)(w':World):Prop:=∃ao cap,e=.returned (.slice ao l.length cap)/\Rd w' 1 ao l.length cap (byV l)/\Below w.heap.size w w'/\TyX 5 w' ao cap
theorem FB (l:List UInt8)(n:Nat)(c:Array Value)(w:World)(hn:l.length=n)(hc:c.toList=byV l)(h0:0<n)(hs:n<=100):iV l w (.returned (.slice (some ⟨w.heap.size,0,none⟩) (n:Int).toNat (n:Int).toNat)) (w.alloc (.cells c 5)):=by
 subst hn;have hk:(w.alloc (.cells c 5)).heap[w.heap.size]?=some (.cells c 5):=by show (w.heap.push _)[w.heap.size]?=some _;exact Array.getElem?_push_size
 refine⟨some ⟨w.heap.size,0,none⟩,l.length,by simp,⟨by rw[aS,Nat.mul_one],Nat.le_refl _,by unfold maxLen;omega,(fun h=>by cases h),fun _ a ha=>?_⟩,(Below.refl _ _).alloc (Nat.le_refl _) _,fun _ a ha=>?_⟩
 ·cases ha;have hz:(w.alloc (.cells c 5)).heap.size=w.heap.size+1:=by simp
  refine⟨rfl,by rw[hz];exact Nat.lt_succ_self _,fun j u hu=>?_⟩;rw[<-hc] at hu;simp only[World.cell?,hk];simpa using hu
 cases ha;exact⟨c,_,hk⟩
theorem FX {k:Int}(h:¬(1<=k/\k<=12))(wh:Bool):lettersOf k wh=[]:=by
 rcases kinds k wh with h0 | h0
 ·exact h0
 exfalso;omega
theorem xH (k:Int)(wh:Bool)(w:World):Calls Tryz.prog 51 #[.int .i64 k,.bool wh] w (iV (dZ k wh) w):=by
 by_cases h:1<=k/\k<=12
 ·rcases (by omega:k=1\/k=2\/k=3\/k=4\/k=5\/k=6\/k=7\/k=8\/k=9\/k=10\/k=11\/k=12) with rfl|rfl|rfl|rfl|rfl|rfl|rfl|rfl|rfl|rfl|rfl|rfl<;>clear h<;>cases wh
  all_goals
   go_in;go_wp2_with fail;go_ret;exact FB _ _ _ w rfl rfl (by decide) (by decide)
 have e:dZ k wh=[]:=by unfold dZ;rw[FX h];rfl
 rw[e];have f1:(k==1)=false:=by rw[beq_eq_false_iff_ne];omega
 have f2:(k==2)=false:=by rw[beq_eq_false_iff_ne];omega
 have f3:(k==3)=false:=by rw[beq_eq_false_iff_ne];omega
 have f4:(k==4)=false:=by rw[beq_eq_false_iff_ne];omega
 have f5:(k==5)=false:=by rw[beq_eq_false_iff_ne];omega
 have f6:(k==6)=false:=by rw[beq_eq_false_iff_ne];omega
 have f7:(k==7)=false:=by rw[beq_eq_false_iff_ne];omega
 have f8:(k==8)=false:=by rw[beq_eq_false_iff_ne];omega
 have f9:(k==9)=false:=by rw[beq_eq_false_iff_ne];omega
 have f10:(k==10)=false:=by rw[beq_eq_false_iff_ne];omega
 have f11:(k==11)=false:=by rw[beq_eq_false_iff_ne];omega
 have f12:(k==12)=false:=by rw[beq_eq_false_iff_ne];omega
 clear h e;go_in;go_wp2_with fail;go_ret;exact⟨none,0,rfl,Rd.nil _ _,Below.refl _ _,fun h=>absurd h (by decide)⟩
theorem ve {x:Int}{m:MV}{c:MC}(hf:FitsM m c)(hs:m.sn<=4194304)(hb:lI x m c=true):MayF x m c:=by
 refine⟨fun e=>?_,fun e=>?_,fun e=>?_,fun _=>hs,fun e=>?_,fun e=>?_⟩
 ·subst e;have h1:(decide (0<=m.fr)&&decide (m.fr<7))=true:=hb;simpa using h1
 ·subst e;exact hb
 ·subst e;have h1:bf m.rs c.rs=true:=hb;exact⟨h1,hf.rl h1⟩
 ·subst e;have h1:(!(c.log.any fun u=>!aB u.1.op u.2)&&decide (m.ln<=4096))=true:=hb;rw[Bool.and_eq_true] at h1;have h2:∀p∈c.log,aB p.1.op p.2=true:=fun p hp=>by
   have:=List.any_eq_false.1 (by simpa using h1.1:(c.log.any fun u=>!aB u.1.op u.2)=false) p hp;simpa using this
  exact⟨h2,hf.lg h2,of_decide_eq_true h1.2⟩
 subst e;exact of_decide_eq_true hb
theorem Dz {W:World}{m:MV}{c:MC}(h:MAt W m c)(hu:U64M m c)(hf:FitsM m c)(hs:m.sn<=4194304)(hn:lettersOf m.k m.wh≠[])(hall:∀x∈lettersOf m.k m.wh,lI x m c=true):MayM W m c:=by
 have hk:1<=m.k/\m.k<=12:=by
  rcases kinds m.k m.wh with h0 | h0
  ·exact absurd h0 hn
  omega
 exact⟨h,hu,hk,fun x hx=>ve hf hs (hall x hx)⟩
theorem Qq {k:Int}{wh:Bool}(h:k=1\/k=3):(113:Int)∈lettersOf k wh:=by
 rcases h with rfl|rfl<;>cases wh<;>decide
theorem Qh {k:Int}{wh:Bool}(h:k=2):(114:Int)∈lettersOf k wh:=by
 subst h;cases wh<;>decide
theorem qG {W:World}{m:MV}{c:MC}(h:MAt W m c)(hs:m.sn<=4194304):dU m c=true↔lettersOf m.k m.wh≠[]/\(∀x∈lettersOf m.k m.wh,lI x m c=true)/\aG m c (iQ (lettersOf m.k m.wh) m) (kH (lettersOf m.k m.wh) c)=true:=by
 constructor
 ·intro hw;have F:=WellP.of hw;refine⟨F.ls,fun x hx=>?_,F.same⟩;unfold lI;by_cases e102:x=102
  ·subst e102;rw[if_pos rfl,decide_eq_true F.f0,decide_eq_true F.f7];rfl
  rw[if_neg e102];by_cases e113:x=113
  ·subst e113;rw[if_pos rfl];exact F.rq (zM hx)
  rw[if_neg e113];by_cases e114:x=114
  ·subst e114;rw[if_pos rfl];exact F.rs (yR hx)
  rw[if_neg e114];by_cases e108:x=108
  ·subst e108;rw[if_pos rfl,decide_eq_true F.ln,List.any_eq_false.2 (fun p hp=>by simp[F.log p hp])];rfl
  rw[if_neg e108];by_cases e101:x=101
  ·subst e101;rw[if_pos rfl];exact decide_eq_true F.hn
  rw[if_neg e101]
 rintro⟨h1,h2,h3⟩;obtain⟨-,hag⟩:=same_iff.1 h3;have hall:∀x∈lettersOf m.k m.wh,x∈dA:=iY;have hz:∀x∈dA,x∉lettersOf m.k m.wh->agree x m c (ay m.k) dI=true:=fun x hx hn=>dQ (hag x hx) ((pY m c _ hall x hx (ay m.k) dI).2 hn);have lg:=h.lg.len;have ls:=h.se.1;rw[jl] at ls;have hfr:0<=m.fr/\m.fr<7:=by
  by_cases hm:(102:Int)∈lettersOf m.k m.wh
  ·have:(decide (0<=m.fr)&&decide (m.fr<7))=true:=h2 102 hm;simpa using this
  have:m.fr=0:=of_decide_eq_true (hz 102 (by decide) hm);omega
 have hlog:(∀p∈c.log,aB p.1.op p.2=true)/\m.ln<=4096:=by
  by_cases hm:(108:Int)∈lettersOf m.k m.wh
  ·have h4:(!(c.log.any fun u=>!aB u.1.op u.2)&&decide (m.ln<=4096))=true:=h2 108 hm;rw[Bool.and_eq_true] at h4;refine⟨fun p hp=>?_,of_decide_eq_true h4.2⟩;have:=List.any_eq_false.1 (by simpa using h4.1:(c.log.any fun u=>!aB u.1.op u.2)=false) p hp;simpa using this
  have h4:bT c.log []=true:=hz 108 (by decide) hm;have h5:=kD h4;have h6:c.log=[]:=List.eq_nil_of_length_eq_zero h5;rw[h6] at lg ⊢;exact⟨fun p hp=>absurd hp List.not_mem_nil,by simp at lg;omega⟩
 have hsn:m.hn<=7:=by
  by_cases hm:(101:Int)∈lettersOf m.k m.wh
  ·exact of_decide_eq_true (show decide (m.hn<=7)=true from h2 101 hm)
  have h4:c.seen=[]:=of_decide_eq_true (show decide (c.seen=[])=true from hz 101 (by decide) hm);rw[h4] at ls;simp at ls;omega
 unfold dU;rw[decide_eq_true h1,h3,decide_eq_true hfr.1,decide_eq_true hfr.2,decide_eq_true hlog.2,decide_eq_true hs,decide_eq_true hsn,List.any_eq_false.2 (fun p hp=>by simp[hlog.1 p hp])];simp only[Bool.true_and,Bool.not_false];by_cases hq:m.k=1\/m.k=3
 ·rw[if_pos hq];exact h2 113 (Qq hq)
 rw[if_neg hq];by_cases hr:m.k=2
 ·rw[if_pos hr];exact h2 114 (Qh hr)
 rw[if_neg hr]
def Kept (o:MV)(d:MC):Prop:=∀x∈dA,x∉lettersOf o.k o.wh->agree x o d (ay o.k) dI=true
theorem Ih {W W':World}{m o:MV}{c d:MC}{s':RS}(T:TookM ⟨dM m c,false⟩ o d s')(hM:MayM W m c)(ho:MAt W' o d)(hu:U64M o d)(hk:1<=o.k/\o.k<=12)(hz:s'.bad=false->Kept o d) :
  aG o d m c=aG m c (iQ (lettersOf m.k m.wh) m) (kH (lettersOf m.k m.wh) c):=by
 obtain⟨h1,h2⟩:=T.go rfl W m c [] hM (by simp);obtain⟨-,e,g,-⟩:=T.yes h1;dsimp only at e;obtain⟨k1,k2,k3,-⟩:=Dn (r:=[]) hM.at_ ho hM.u hu hM.k hk (fun x hx=>(hM.may x hx).g hM.at_) g (by rw[List.append_nil];exact e);refine zt iY k1.symm (fun x hx=>gI (k3 x hx)) (fun x hx hn=>?_);rw[k1];exact hz h1 x hx (by rw[<-k2];exact hn)
theorem Ie {W:World}{m:MV}{c:MC}(h:MAt W m c)(hs:m.sn<=4194304)(hn:lettersOf m.k m.wh≠[])(hall:∀x∈lettersOf m.k m.wh,lI x m c=true) :
  bV m c=(aG m c (iQ (lettersOf m.k m.wh) m) (kH (lettersOf m.k m.wh) c)&&decide ((dM m c).length<=8388608)):=by
 unfold bV
 congr 1
 rw[Bool.eq_iff_iff,qG h hs];exact⟨fun a=>a.2.2,fun a=>⟨hn,hall,a⟩⟩
theorem O8 {W:World}{m:MV}{c:MC}{x:Int}(h:MAt W m c)(hs:m.sn<=4194304)(hx:x∈lettersOf m.k m.wh)(hf:lI x m c=false):bV m c=false:=by
 cases hm:dU m c with
 | false=>unfold bV;rw[hm];rfl
 | true=>
  have:=((qG h hs).1 hm).2.1 x hx;rw[hf] at this;cases this
structure MTyB (B:Nat)(W:World)(m:MV)(c:MC):Prop where
 rq:OpTyB B W m.rq.op
 rs:QTyB B W m.rs c.rs
 sn:TyB B W m.so m.sc
 lo:TyX 55 W m.lo m.lc
 log:∀p∈c.log,OpTyB B W p.1.op
 ho:TyX 22 W m.ho m.hc
structure FitK (o:MV)(c:MC):Prop where
 rs:kU c.rs
 rl:bf o.rs c.rs=true->(dG o.rs c.rs).length<=4194304
 lg:(∀p∈c.log,aB p.1.op p.2=true)->(jo c.log).length<=4194304
 sn:o.sn<=4194304
 hn:o.hn<=322639
 ln:o.ln<=1000000
theorem PX (k:Int):FitK (ay k) dI:=⟨fun _=>Nat.zero_le _,fun _=>by rw[lT];decide,fun _=>Nat.zero_le _,Nat.zero_le _,Nat.zero_le _,Nat.zero_le _⟩
def DV (B g:Nat)(s:RS)(W:World)(e:Ending)(w':World):Prop:=∃s':RS,RfS B g s' w'/\BelX W.heap.size [g] W w' /\
 ((∃(m:MV) (c:MC),e=.returned (.tuple #[m.val,.bool true])/\MAt w' m c/\U64M m c/\MTyB B w' m c/\(1<=m.k/\m.k<=12)/\(s'.bad=false->Kept m c)/\TookM s m c s'/\FitK m c/\∃r,s.l=val 1 (az m.k.toNat)++r) \/
 (e=.returned (.tuple #[(ay 0).val,.bool false])/\(∀(n:Nat) (r:List UInt8),s.bad=false->1<=n->n<=12->s.l≠val 1 (az n)++r)/\∀(W0:World) (m:MV) (d:MC) (r:List UInt8),s.bad=false->MayM W0 m d->s.l≠dM m d++r))
def rqM (r:RV):MV:=⟨1,0,0,0,0,0,r,aA,0,0,0,none,0,0,none,0,0,0,false,none,0,0⟩
def rqC (c:OC):MC:=⟨c,⟨[],[]⟩,[],[],[]⟩
def oJ (r:RV)(c:OC):List UInt8:=dM (rqM r) (rqC c)
theorem FH (m:MV)(c:MC):aG m c m c=true:=same_iff.2 ⟨rfl,fun x _=>jW x m c⟩
theorem LM {W:World}{r:RV}{c:OC}(h:OpAt W r.op c):MAt W (rqM r) (rqC c):=
 ⟨h,(jh W 1).rs,Rd.nil _ _,(jh W 1).lg,Rd.nil _ _,show (0:Nat)<=1000000000 by decide,show (0:Nat)<=1000000000 by decide⟩
theorem PD {r:RV}{c:OC}(h:U64R r):U64M (rqM r) (rqC c):=
 have z:(0:Int)<=0/\(0:Int)<18446744073709551616:=by decide
 ⟨z,z,z,z,z,z,z,z,h,fun _ hp=>(by cases hp),fun _ hp=>(by cases hp)⟩
theorem OE (r:RV)(c:OC):FitsM (rqM r) (rqC c):=⟨fun _=>show (0:Nat)<=4194304 by decide,fun _=>show (dG aA ⟨[],[]⟩).length<=4194304 by decide,fun _=>show (0:Nat)<=4194304 by decide⟩
theorem Pn {W:World}{r:RV}{c:OC}(h:OpAt W r.op c)(hm:aB r.op c=true):bV (rqM r) (rqC c)=true/\(oJ r c).length<=8388608:=by
 have e:lettersOf (rqM r).k (rqM r).wh=[113]:=show lettersOf 1 false=[113] by decide
 have hl:(oJ r c).length<=8388608:=by
  have hlen:=(jy W r.op c h).len;have h2:=rD hm;unfold oJ dM;rw[e];show (val 1 (az 1)++(val 7 (eQ r (opL r.op c))++[])).length<=8388608;simp only[List.length_append,ae,ah,gp,List.length_nil];rw[h2] at hlen;omega
 refine⟨?_,hl⟩;rw[Ie (LM h) (show (0:Nat)<=4194304 by decide) (by rw[e];decide) (by rw[e];intro x hx;rw[List.mem_singleton] at hx;subst hx;exact hm),e];have e1:iQ [113] (rqM r)=rqM r:=rfl;have e2:kH [113] (rqC c)=rqC c:=rfl;rw[e1,e2,FH,decide_eq_true (show (dM (rqM r) (rqC c)).length<=8388608 from hl)];rfl
structure SV where
 cl:Int
 nodes:Int
 num:Int
 un:Option Addr
 vi:Int
 la:Int
 told:Option Addr
 dr:Int
def SV.cells (s:SV):Array Value:=#[.int .u64 s.cl,.int .i64 s.nodes,.int .u64 s.num,.pointer s.un,.int .u64 s.vi,.int .u64 s.la,.pointer s.told,.int .i64 s.dr]
def SV.box (s:SV):Obj:=.cells s.cells 98
theorem bG {W:World}{B:Nat}{s:SV}(h:W.heap[B]?=some s.box):W.cell? ⟨B,0,none⟩=some (.int .u64 s.cl)/\W.cell? ⟨B,1,none⟩=some (.int .i64 s.nodes)/\W.cell? ⟨B,2,none⟩=some (.int .u64 s.num)/\W.cell? ⟨B,3,none⟩=some (.pointer s.un)/\W.cell? ⟨B,4,none⟩=some (.int .u64 s.vi)/\W.cell? ⟨B,5,none⟩=some (.int .u64 s.la)/\W.cell? ⟨B,6,none⟩=some (.pointer s.told)/\W.cell? ⟨B,7,none⟩=some (.int .i64 s.dr)/\∀i,W.frozen? ⟨B,i,none⟩=false:=by
 unfold SV.box SV.cells at h;simp[World.cell?,World.frozen?,h]
def qC (i0:Int):List Value->List Value
 | []=>[]
 | v::l=>.int .i64 i0::.int .u64 0::v::qC (i0+1) l
theorem zL (v:Value):∀(l:List Value) (i0:Int),qC i0 (l++[v])=qC i0 l++[.int .i64 (i0+l.length),.int .u64 0,v]
 | [],i0=>by simp[qC]
 | u::l,i0=>by
  have:=zL v l (i0+1);simp only[List.cons_append,qC,this,List.length_cons];rw[show i0+1+(l.length:Int)=i0+((l.length+1:Nat):Int) by omega]
theorem Jq {W W':World}{B n size:Nat}{e:TypeId}{v:Value}{xs:List Value}{row:Option Nat}(h:W.ownsRow B e size v n xs)(hg:W.grownBy W' row)(hne:∀k,v.ownBlock=some k->some k≠row):W'.ownsRow B e size v n xs:=by
 obtain⟨h1,h2⟩:=h;refine⟨h1,?_⟩;rcases h2 with h2 | ⟨g,cap,cur,hv,hbg,hgg,rest⟩
 ·exact .inl h2
 refine .inr ⟨g,cap,cur,hv,hbg,(hg.block g (Array.getElem?_eq_some_iff.1 hgg).1 (hne g (by rw[hv];rfl))).trans hgg,rest⟩
theorem Oc {W:World}{B B' n n' size size':Nat}{e e':TypeId}{v v':Value}{xs xs':List Value}(h:W.ownsRow B e size v n xs)(h':W.ownsRow B' e' size' v' n' xs')(he:e≠e'):∀k,v.ownBlock=some k->some k≠v'.ownBlock:=by
 intro k hk hk';rcases h.2 with ⟨rfl,-⟩ | ⟨g,cap,cur,rfl,-,hg,-⟩
 ·cases hk
 have e1:g=k:=by simpa [Value.ownBlock] using hk
 subst e1;exact yI hg (fun c fr hc=>he (by cases hc;rfl)) h' hk'.symm
theorem PV:SliceT Tryz.prog 44 109 (.agg #[.int .i64 0,.int .u64 0,.slice none 0 0]) 3 40:=⟨Tryz.underlying44,by kernel_rfl,rfl,by decide⟩
structure ToAt (B:Nat)(i0:Int)(b:List UInt8)(l:List Value)(ov:Value)(W:World):Prop where
 row:W.ownsRow B 109 3 ov l.length (qC i0 l)
 each:∀v∈l,W.ownsRow B 5 1 v b.length (byV b)
def Oj (i0:Int)(k:Nat)(b:List UInt8)(w:World)(e:Ending)(w':World):Prop:=∃l ov,e=.returned ov/\l.length=k/\ToAt w.heap.size i0 b l ov w'/\Below w.heap.size w w'
theorem ToAt.later {B:Nat}{i0:Int}{b:List UInt8}{l:List Value}{ov:Value}{W W':World}(h:ToAt B i0 b l ov W)(hb:Below W.heap.size W W'):ToAt B i0 b l ov W':=
 ⟨aF h.row hb,fun v hv=>aF (h.each v hv) hb⟩
theorem qj {w w':World}{size:Nat}{ao:Option Addr}{n cap:Nat}{xs:List Value}(h:Rd w size ao n cap xs)(hz:w.heap.size<=w'.heap.size)(hb:∀a,ao=some a->w'.heap[a.block]?=w.heap[a.block]?):Rd w' size ao n cap xs:=by
 obtain⟨h1,h2,h3,h4,h5⟩:=h;refine⟨h1,h2,h3,h4,fun h0 a ha=>?_⟩;obtain⟨s,l,c⟩:=h5 h0 a ha;exact⟨s,Nat.lt_of_lt_of_le l hz,fun j u hu=>(World.cell?_of_block (a:=⟨a.block,a.off+j,none⟩) (hb a ha)).trans (c j u hu)⟩
theorem ToAt.mono {B B':Nat}{i0:Int}{b:List UInt8}{l:List Value}{ov:Value}{W:World}(h:ToAt B i0 b l ov W)(hB:B'<=B):ToAt B' i0 b l ov W:=
 ⟨kM h.row hB,fun v hv=>kM (h.each v hv) hB⟩
structure ToGoes (B:Nat)(w:World)(i0:Int)(b:List UInt8)(bo:Option Addr)(bc:Nat)(l:List Value)(ov:Value)(W:World):Prop where
 at_:ToAt B i0 b l ov W
 rd:Rd W 1 bo b.length bc (byV b)
 bel:Below w.heap.size w W
 le:B<=W.heap.size
 old:0<bc->∀a,bo=some a->a.block<B
 low:w.heap.size<=B
theorem Qw (k:Int)(ao:Option Addr)(n cap:Nat):∀u∈([.int .i64 k,.int .u64 0,.slice ao n cap]:List Value),u.oneCell'=true:=by
 intro u hu;simp only[List.mem_cons,List.not_mem_nil,or_false] at hu;rcases hu with rfl|rfl|rfl<;>rfl
theorem ToGoes.step {B:Nat}{w:World}{i0:Int}{b:List UInt8}{bo:Option Addr}{bc:Nat}{l:List Value}{ov:Value}{W w2 w3:World}{ao1 ao2:Option Addr}{cap1 cap2:Nat}(h:ToGoes B w i0 b bo bc l ov W)
  (ho1:w2.ownsRow W.heap.size 5 1 (.slice ao1 b.length cap1) b.length (byV b)) (hb2:Below W.heap.size W w2)
  (ho2:w3.ownsRow B 109 3 (.slice ao2 (l.length+1) cap2) (l.length+1) (qC i0 l++[.int .i64 (i0+(l.length:Int)),.int .u64 0,.slice ao1 b.length cap1]))
  (hg2:(w2.alloc (.cells #[.int .i64 (i0+(l.length:Int)),.int .u64 0,.slice ao1 b.length cap1] 109)).grownBy w3 ov.ownBlock) (hb3:Below B w2 w3) :
  ToGoes B w i0 b bo bc (l++[.slice ao1 b.length cap1]) (.slice ao2 (l.length+1) cap2) w3:=by
 have hA2:=h.at_.later hb2;have hk:∀v,w2.ownsRow B 5 1 v b.length (byV b)->w3.ownsRow B 5 1 v b.length (byV b):=fun v hv=>
  Jq (hv.alloc _) hg2 (Oc hv hA2.row (by decide))
 refine⟨⟨by rw[List.length_append,zL];exact ho2,fun v hv=>?_⟩,(h.rd.later hb2).below hb3 h.old,(h.bel.trans (hb2.mono h.bel.size)).trans (hb3.mono h.low),Nat.le_trans (Nat.le_trans h.le hb2.size) hb3.size,h.old,h.low⟩;rcases List.mem_append.1 hv with hv | hv
 ·exact hk _ (hA2.each v hv)
 rw[List.mem_singleton] at hv;subst hv;exact hk _ (kM ho1 h.le)
theorem EY (S:SV)(sb rb:Nat)(r:RV)(c:OC)(i0:Int)(k:Nat)(w:World)(hs:w.heap[sb]?=some S.box)(hu:S.un=some ⟨rb,0,none⟩)(hr:w.heap[rb]?=some r.box)(ho:OpAt w r.op c)(hm:aB r.op c=true)(hu64:U64R r)
  (h0:0<=i0) (h7:i0<=1000) (hk:k<=1000):Calls Tryz.prog 45 #[.pointer (some ⟨sb,0,none⟩),.int .i64 i0,.int .i64 (i0+(k:Int))] w (Oj i0 k (oJ r c) w):=by
 obtain⟨-,-,-,c3,-⟩:=bG hs;rw[hu] at c3;have hq:=hr;unfold RV.box RV.cells at hq;have hbytes:=uB (rqM r) (rqC c) w (LM ho) (PD hu64) (OE r c);have hyes:=hid (Pn ho hm);have hl2:=hyes.out.2;unfold rqM MV.val MV.cells at hbytes;dsimp only at hbytes;clear hu hs hr;go_in;go_wp2_with (refine zLr rfl hq ?_;go_simp);refine hbytes.mono ?_;rintro e w1 ⟨lb,bo,bc,ex,rfl,hb,hb1,hfr,hy1,-⟩;obtain⟨hy2,rfl⟩:=hy1 hyes.out.1;change lb=oJ r c at hy2;subst hy2;clear hy1;have hG:ToGoes w1.heap.size w i0 (oJ r c) bo bc [] (.slice none 0 0) w1:=⟨⟨World.ownsRow_nil _ _ _ _,fun v hv=>(by cases hv)⟩,hb,hb1,Nat.le_refl _,hb.lt,hb1.size⟩
 clear hbytes hq c3 hb hb1 hfr;generalize oJ r c=b at *;generalize w1.heap.size=B at *;have K:=hid hk;clear hk;go_wp2_with fail;go_loopw [6,9] (fun o i wr=>∃l,ToGoes B w i0 b bo bc l o wr/\i=.int .i64 (i0+(l.length:Int))/\l.length<=k) (fun _ i _=>(i0+k-intOf i).toNat)
 case atStart=>exact⟨[],hG,by simp,Nat.zero_le _⟩
 case round=>
  obtain⟨l,hB,rfl,hlk⟩:=hrel;have hw:IntKind.wrap .i64 (i0+(l.length:Int)+1)=i0+(l.length:Int)+1:=by have:=K.out;rw[IntKind.wrap_i64];omega
  by_cases hend:l.length=k
  ·have hd:decide (i0+(l.length:Int)<i0+(k:Int))=false:=decide_eq_false (by omega);go_wp2_with fail;go_ret;exact⟨l,_,rfl,hend,hB.at_.mono hB.low,hB.bel⟩
  have hd:decide (i0+(l.length:Int)<i0+(k:Int))=true:=decide_eq_true (by omega);have hN:l.length+1<=10000000000:=by have:=K.out;omega
  have ho0:wr.ownsRow wr.heap.size 5 1 (.slice none 0 0) 0 (byV []):=World.ownsRow_nil _ _ _ _;go_wp2_with (first | (at_builtin;refine gz _ rfl (.const (.slice none 0 0)) (.tmp 31) 34 rfl wr.heap.size 5 (.int .u8 0) 1 1 byT _ 0 (byV []) rfl ho0 bo b.length bc (byV b) rfl hB.rd (eP _) (by unfold maxLen;omega) (by omega) (Nat.le_refl _) ?_;rw[Nat.zero_add];intro ao1 cap1 w2 ho1 hg1 hb2 _;have hX:=aF hB.at_.row hb2;have hz2:=Nat.le_trans hB.le hb2.size) | (at_builtin;refine fD _ rfl (.tmp 29) (.tmp 34) 44 rfl B 109 (.agg #[.int .i64 0,.int .u64 0,.slice none 0 0]) 3 40 PV (by decide) _ _ _ rfl hX 1 [.int .i64 (i0+(l.length:Int)),.int .u64 0,.slice ao1 b.length cap1] rfl rfl (Qw _ _ _ _) hz2 hN ?_;intro ao2 cap2 w3 ho2 hg2 hb3 _));go_roundw
  case rel=>exact⟨l++[.slice ao1 b.length cap1],hB.step ho1 hb2 ho2 hg2 hb3,by simp;omega,by simp;omega⟩
  case measure=>have:=K.out;simp[intOf];omega
def BP (cl n:Int):SV:=⟨cl,n,0,none,0,0,none,0⟩
def oq (cl n:Int)(w:World)(e:Ending)(w':World):Prop:=
 if n=3\/n=5\/n=7 then e=.returned (.tuple #[.pointer (some ⟨w.heap.size,0,none⟩),.int .i64 0])/\w'=w.alloc (BP cl n).box
 else e=.returned (.tuple #[.pointer none,.int .i64 2])/\w'=w
theorem new_any (cl n:Int)(w:World):Calls Tryz.prog 10 #[.int .u64 cl,.int .i64 n] w (oq cl n w):=by
 go_in;by_cases h:n=3\/n=5\/n=7
 ·rcases h with rfl|rfl|rfl
  all_goals
   go_wp2_with fail;go_ret2;unfold oq;rw[if_pos (by decide)];exact⟨rfl,rfl⟩
 have f3:(n==3)=false:=by simp;omega
 have f5:(n==5)=false:=by simp;omega
 have f7:(n==7)=false:=by simp;omega
 have H:=hid h;clear h;go_wp2_with fail;go_ret2;unfold oq;rw[if_neg H.out];exact⟨rfl,rfl⟩
def Dy (b:Bool)(w:World)(e:Ending)(w':World):Prop:=e=.returned (.bool b)/\w'=w
theorem jc (S:SV)(sb:Nat)(w:World)(h:w.heap[sb]?=some S.box):Calls Tryz.prog 43 #[.pointer (some ⟨sb,0,none⟩)] w (Dy (decide (0<S.nodes)) w):=by
 have hpe:∀(w:World),Sem.run Tryz.prog (binOp BinOp.neq 26 (.pointer (some ⟨sb,0,none⟩)) (.pointer none)) w=.ok (.bool true) w:=fun _=>by kernel_rfl
 obtain⟨-,c1,-⟩:=bG h;go_in;go_wp2_with fail;go_ret;exact⟨rfl,rfl⟩
theorem lL {P:Program}{ops:Array Oper}{o:Oper}{a:Act}{K:Act->World->Prop}{Q:Exit->Act->World->Prop}{E:Prop}{w:World}{t ty:TypeId}{p v:Operand}{g:Nat}{old cells:Array Value}
  (hgd:o.guard=none) (hop:o.op=.store ty p v) (hg:w.heap[g]?=some (.cells old t (0,0))) (hp:a.eval p=.pointer (some ⟨g,0,none⟩)) (hv:a.eval v=.agg cells) (hi:(P.info? ty).map (·.size)=some cells.size)
  (ho:old.size=cells.size) (h1:cells.all (·.oneCell')=true) (hn:K (a.put o.dst undef) (w.setRow g cells)) :
  if Region.wanted o (yielded ops a.tmps)=true then Oper.wp P o a w K Q else E:=by
 have hw:Region.wanted o (yielded ops a.tmps)=true:=by simp[Region.wanted,hgd]
 rw[if_pos hw];have hl:(Instr.storeAt ty (.pointer (some ⟨g,0,none⟩)) (.agg cells)).run P w=.ok () (w.setRow g cells):=by
  simp only[Instr.storeAt,Instr.sureAddr,Sem.run_bind,Sem.run_pure,Result.andThen];exact run_storeVar_row w g t ty old cells hg hi ho h1
 have:(execOp a.eval o).run P w=.ok .skip (w.setRow g cells):=by
  unfold execOp;rw[hop];simp only[hp,hv,Sem.run_bind,hl,Result.andThen,Sem.run_pure]
 unfold Oper.wp;rw[this];exact hn
theorem qK {w:World}{v u:OV}{c:OC}(h:CopyOf w v u):aB u c=aB v c/\wM u c=wM v c:=by
 obtain⟨e1,e2,e3,e4,e5,e6,e7,-,-,-,-,-,-⟩:=h;obtain⟨k,nm,tt,ao,an,ac,bo,bn,bc,co,cn,cc,n⟩:=v;obtain⟨k',nm',tt',ao',an',ac',bo',bn',bc',co',cn',cc',n'⟩:=u;dsimp only at e1 e2 e3 e4 e5 e6 e7;subst e1 e2 e3 e4 e5 e6 e7;exact⟨rfl,rfl⟩
end Go.Proofs.YtfmmandlmbcncaaGreatDoor.Msg
