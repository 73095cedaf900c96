/-
  A part of the proof.
-/
import Derived.Test.YtfmmandlmbcncaaGreatDoorKcbj
set_option maxHeartbeats 40000000
set_option maxRecDepth 100000
namespace Go.Proofs.YtfmmandlmbcncaaGreatDoor.Msg
open Go.RowKit Go.Lib Mem Tlv
def yB (r:RV)(c:OC):Int×Int×Int×ByteArray×ByteArray×List (ByteArray×ByteArray)×List ByteArray×List UInt8×Int:=(r.cl,r.nu,r.op.k,r.op.name,r.op.to,c.attrs,c.parts,c.cursor,r.op.n)
theorem gK {r r':RV}{c c':OC}:bQ r c r' c'=true↔yB r c=yB r' c':=by
 unfold bQ bU yB;simp only[Bool.and_eq_true,decide_eq_true_eq,Prod.mk.injEq,and_assoc]
def sF (l:List EP):List (ByteArray×List (ByteArray×ByteArray)):=l.map fun p=>(p.1.name,p.2)
theorem uP:∀ {l l':List EP},aT l l'=true↔sF l=sF l'
 | [],[]=>⟨fun _=>rfl,fun _=>rfl⟩
 | [],_::_=>⟨fun h=>(by cases h),fun h=>(by cases h)⟩
 | _::_,[]=>⟨fun h=>(by cases h),fun h=>(by cases h)⟩
 | p::l,q::m=>by
  show (dB p.1 p.2 q.1 q.2&&aT l m)=true↔(p.1.name,p.2)::sF l=(q.1.name,q.2)::sF m;unfold dB;rw[Bool.and_eq_true,Bool.and_eq_true,decide_eq_true_eq,decide_eq_true_eq,uP,List.cons.injEq,Prod.mk.injEq]
def Ap (v:QV)(c:QC):Int×Bool×List (ByteArray×List (ByteArray×ByteArray))×List UInt8:=(v.code,v.yes,sF c.ents,c.cursor)
theorem fH {v v':QV}{c c':QC}:aU v c v' c'=true↔Ap v c=Ap v' c':=by
 unfold aU Ap;rw[Bool.and_eq_true,Bool.and_eq_true,Bool.and_eq_true,decide_eq_true_eq,decide_eq_true_eq,decide_eq_true_eq,uP,Prod.mk.injEq,Prod.mk.injEq,Prod.mk.injEq]
def F5 (l:List RP):List (Int×Int×Int×ByteArray×ByteArray×List (ByteArray×ByteArray)×List ByteArray×List UInt8×Int):=l.map fun p=>yB p.1 p.2
theorem gU:∀ {l l':List RP},bu l l'=true↔F5 l=F5 l'
 | [],[]=>⟨fun _=>rfl,fun _=>rfl⟩
 | [],_::_=>⟨fun h=>(by cases h),fun h=>(by cases h)⟩
 | _::_,[]=>⟨fun h=>(by cases h),fun h=>(by cases h)⟩
 | p::l,q::m=>by
  show (bQ p.1 p.2 q.1 q.2&&bu l m)=true↔yB p.1 p.2::F5 l=yB q.1 q.2::F5 m;rw[Bool.and_eq_true,gK,gU,List.cons.injEq]
theorem iI {x:Int}{m m':MV}{c c':MC}(h:agree x m c m' c'=true):agree x m' c' m c=true:=by
 by_cases e118:x=118
 ·subst e118;exact (decide_eq_true_iff).2 ((decide_eq_true_iff).1 h).symm
 by_cases e110:x=110
 ·subst e110;exact (decide_eq_true_iff).2 ((decide_eq_true_iff).1 h).symm
 by_cases e102:x=102
 ·subst e102;exact (decide_eq_true_iff).2 ((decide_eq_true_iff).1 h).symm
 by_cases e99:x=99
 ·subst e99;exact (decide_eq_true_iff).2 ((decide_eq_true_iff).1 h).symm
 by_cases e117:x=117
 ·subst e117;exact (decide_eq_true_iff).2 ((decide_eq_true_iff).1 h).symm
 by_cases e113:x=113
 ·subst e113;exact gK.2 (gK.1 h).symm
 by_cases e114:x=114
 ·subst e114;exact fH.2 (fH.1 h).symm
 by_cases e97:x=97
 ·subst e97;exact (decide_eq_true_iff).2 ((decide_eq_true_iff).1 h).symm
 by_cases e109:x=109
 ·subst e109;exact (decide_eq_true_iff).2 ((decide_eq_true_iff).1 h).symm
 by_cases e98:x=98
 ·subst e98;exact (decide_eq_true_iff).2 ((decide_eq_true_iff).1 h).symm
 by_cases e115:x=115
 ·subst e115;exact (decide_eq_true_iff).2 ((decide_eq_true_iff).1 h).symm
 by_cases e108:x=108
 ·subst e108;exact gU.2 (gU.1 h).symm
 by_cases e111:x=111
 ·subst e111;exact (decide_eq_true_iff).2 ((decide_eq_true_iff).1 h).symm
 by_cases e119:x=119
 ·subst e119;exact (decide_eq_true_iff).2 ((decide_eq_true_iff).1 h).symm
 have hd:∀(m m':MV) (c c':MC),agree x m c m' c'=decide (c.seen=c'.seen):=fun m m' c c'=>by unfold agree;simp only[e118,e110,e102,e99,e117,e113,e114,e97,e109,e98,e115,e108,e111,e119,if_false]
 rw[hd] at h ⊢;exact decide_eq_true (of_decide_eq_true h).symm
theorem dZ {x:Int}{m m' n:MV}{c c' d:MC}(h:agree x m c m' c'=true)(h':agree x m' c' n d=true):agree x m c n d=true:=by
 by_cases e118:x=118
 ·subst e118;exact (decide_eq_true_iff).2 (((decide_eq_true_iff).1 h).trans ((decide_eq_true_iff).1 h'))
 by_cases e110:x=110
 ·subst e110;exact (decide_eq_true_iff).2 (((decide_eq_true_iff).1 h).trans ((decide_eq_true_iff).1 h'))
 by_cases e102:x=102
 ·subst e102;exact (decide_eq_true_iff).2 (((decide_eq_true_iff).1 h).trans ((decide_eq_true_iff).1 h'))
 by_cases e99:x=99
 ·subst e99;exact (decide_eq_true_iff).2 (((decide_eq_true_iff).1 h).trans ((decide_eq_true_iff).1 h'))
 by_cases e117:x=117
 ·subst e117;exact (decide_eq_true_iff).2 (((decide_eq_true_iff).1 h).trans ((decide_eq_true_iff).1 h'))
 by_cases e113:x=113
 ·subst e113;exact gK.2 ((gK.1 h).trans (gK.1 h'))
 by_cases e114:x=114
 ·subst e114;exact fH.2 ((fH.1 h).trans (fH.1 h'))
 by_cases e97:x=97
 ·subst e97;exact (decide_eq_true_iff).2 (((decide_eq_true_iff).1 h).trans ((decide_eq_true_iff).1 h'))
 by_cases e109:x=109
 ·subst e109;exact (decide_eq_true_iff).2 (((decide_eq_true_iff).1 h).trans ((decide_eq_true_iff).1 h'))
 by_cases e98:x=98
 ·subst e98;exact (decide_eq_true_iff).2 (((decide_eq_true_iff).1 h).trans ((decide_eq_true_iff).1 h'))
 by_cases e115:x=115
 ·subst e115;exact (decide_eq_true_iff).2 (((decide_eq_true_iff).1 h).trans ((decide_eq_true_iff).1 h'))
 by_cases e108:x=108
 ·subst e108;exact gU.2 ((gU.1 h).trans (gU.1 h'))
 by_cases e111:x=111
 ·subst e111;exact (decide_eq_true_iff).2 (((decide_eq_true_iff).1 h).trans ((decide_eq_true_iff).1 h'))
 by_cases e119:x=119
 ·subst e119;exact (decide_eq_true_iff).2 (((decide_eq_true_iff).1 h).trans ((decide_eq_true_iff).1 h'))
 have hd:∀(m m':MV) (c c':MC),agree x m c m' c'=decide (c.seen=c'.seen):=fun m m' c c'=>by unfold agree;simp only[e118,e110,e102,e99,e117,e113,e114,e97,e109,e98,e115,e108,e111,e119,if_false]
 rw[hd] at h h' ⊢;exact decide_eq_true ((of_decide_eq_true h).trans (of_decide_eq_true h'))
theorem nN (x:Int)(m:MV)(c:MC):agree x m c m c=true:=by
 by_cases e118:x=118
 ·subst e118;exact (decide_eq_true_iff).2 rfl
 by_cases e110:x=110
 ·subst e110;exact (decide_eq_true_iff).2 rfl
 by_cases e102:x=102
 ·subst e102;exact (decide_eq_true_iff).2 rfl
 by_cases e99:x=99
 ·subst e99;exact (decide_eq_true_iff).2 rfl
 by_cases e117:x=117
 ·subst e117;exact (decide_eq_true_iff).2 rfl
 by_cases e113:x=113
 ·subst e113;exact gK.2 rfl
 by_cases e114:x=114
 ·subst e114;exact fH.2 rfl
 by_cases e97:x=97
 ·subst e97;exact (decide_eq_true_iff).2 rfl
 by_cases e109:x=109
 ·subst e109;exact (decide_eq_true_iff).2 rfl
 by_cases e98:x=98
 ·subst e98;exact (decide_eq_true_iff).2 rfl
 by_cases e115:x=115
 ·subst e115;exact (decide_eq_true_iff).2 rfl
 by_cases e108:x=108
 ·subst e108;exact gU.2 rfl
 by_cases e111:x=111
 ·subst e111;exact (decide_eq_true_iff).2 rfl
 by_cases e119:x=119
 ·subst e119;exact (decide_eq_true_iff).2 rfl
 have hd:agree x m c m c=decide (c.seen=c.seen):=by unfold agree;simp only[e118,e110,e102,e99,e117,e113,e114,e97,e109,e98,e115,e108,e111,e119,if_false]
 rw[hd];exact decide_eq_true rfl
theorem same_iff {m m':MV}{c c':MC}:aG m c m' c'=true↔m.k=m'.k/\∀x∈dJ,agree x m c m' c'=true:=by
 constructor
 ·intro h;unfold aG at h;simp only[Bool.and_eq_true] at h;obtain⟨h1,h2,h3,h4,h5,h6,h7,h8,h9,h10,h11,h12,h13,h14,h15,h16⟩:=h;refine⟨of_decide_eq_true h1,fun x hx=>?_⟩;simp only[dJ,List.mem_cons,List.not_mem_nil,or_false] at hx;rcases hx with rfl|rfl|rfl|rfl|rfl|rfl|rfl|rfl|rfl|rfl|rfl|rfl|rfl|rfl|rfl
  ·exact h2
  ·exact h3
  ·exact h4
  ·exact h5
  ·exact h6
  ·exact h7
  ·exact h8
  ·exact h9
  ·exact h10
  ·exact h11
  ·exact h12
  ·exact h13
  ·exact h14
  ·exact h15
  exact h16
 rintro⟨hk,h⟩;unfold aG;simp only[Bool.and_eq_true];exact⟨decide_eq_true hk,h 118 (by decide),h 110 (by decide),h 102 (by decide),h 99 (by decide),h 117 (by decide),h 113 (by decide),h 114 (by decide),h 97 (by decide),h 109 (by decide),h 98 (by decide),h 115 (by decide),h 108 (by decide),h 111 (by decide),h 119 (by decide),h 101 (by decide)⟩
theorem En (x:Int)(m0 m:MV)(c0 c:MC)(hx:x∈dJ):agree x (aI x m0 m) (dh x c0 c) m c=true:=by
 simp only[dJ,List.mem_cons,List.not_mem_nil,or_false] at hx;rcases hx with rfl|rfl|rfl|rfl|rfl|rfl|rfl|rfl|rfl|rfl|rfl|rfl|rfl|rfl|rfl
 ·show decide (m.vi=m.vi)=true;exact (decide_eq_true_iff).2 rfl
 ·show decide (m.no=m.no)=true;exact (decide_eq_true_iff).2 rfl
 ·show decide (m.fr=m.fr)=true;exact (decide_eq_true_iff).2 rfl
 ·show decide (m.cl=m.cl)=true;exact (decide_eq_true_iff).2 rfl
 ·show decide (m.nu=m.nu)=true;exact (decide_eq_true_iff).2 rfl
 ·show bQ m.rq c.rq m.rq c.rq=true;exact gK.2 rfl
 ·show aU m.rs c.rs m.rs c.rs=true;exact fH.2 rfl
 ·show decide (m.at_=m.at_)=true;exact (decide_eq_true_iff).2 rfl
 ·show decide (m.cm=m.cm)=true;exact (decide_eq_true_iff).2 rfl
 ·show decide (m.bs=m.bs)=true;exact (decide_eq_true_iff).2 rfl
 ·show decide (c.snap=c.snap)=true;exact (decide_eq_true_iff).2 rfl
 ·show bu c.log c.log=true;exact gU.2 rfl
 ·show decide (m.nc=m.nc)=true;exact (decide_eq_true_iff).2 rfl
 ·show decide (m.wh=m.wh)=true;exact (decide_eq_true_iff).2 rfl
 show decide (c.seen=c.seen)=true;exact (decide_eq_true_iff).2 rfl
theorem ng (x y:Int)(m0 m:MV)(c0 c:MC)(hx:x∈dJ)(hy:y∈dJ)(hne:x≠y):agree x (aI y m0 m) (dh y c0 c) m0 c0=true:=by
 simp only[dJ,List.mem_cons,List.not_mem_nil,or_false] at hx hy;rcases hx with rfl|rfl|rfl|rfl|rfl|rfl|rfl|rfl|rfl|rfl|rfl|rfl|rfl|rfl|rfl
 ·rcases hy with rfl|rfl|rfl|rfl|rfl|rfl|rfl|rfl|rfl|rfl|rfl|rfl|rfl|rfl|rfl<;>first | exact absurd rfl hne | (show decide (m0.vi=m0.vi)=true;exact (decide_eq_true_iff).2 rfl)
 ·rcases hy with rfl|rfl|rfl|rfl|rfl|rfl|rfl|rfl|rfl|rfl|rfl|rfl|rfl|rfl|rfl<;>first | exact absurd rfl hne | (show decide (m0.no=m0.no)=true;exact (decide_eq_true_iff).2 rfl)
 ·rcases hy with rfl|rfl|rfl|rfl|rfl|rfl|rfl|rfl|rfl|rfl|rfl|rfl|rfl|rfl|rfl<;>first | exact absurd rfl hne | (show decide (m0.fr=m0.fr)=true;exact (decide_eq_true_iff).2 rfl)
 ·rcases hy with rfl|rfl|rfl|rfl|rfl|rfl|rfl|rfl|rfl|rfl|rfl|rfl|rfl|rfl|rfl<;>first | exact absurd rfl hne | (show decide (m0.cl=m0.cl)=true;exact (decide_eq_true_iff).2 rfl)
 ·rcases hy with rfl|rfl|rfl|rfl|rfl|rfl|rfl|rfl|rfl|rfl|rfl|rfl|rfl|rfl|rfl<;>first | exact absurd rfl hne | (show decide (m0.nu=m0.nu)=true;exact (decide_eq_true_iff).2 rfl)
 ·rcases hy with rfl|rfl|rfl|rfl|rfl|rfl|rfl|rfl|rfl|rfl|rfl|rfl|rfl|rfl|rfl<;>first | exact absurd rfl hne | (show bQ m0.rq c0.rq m0.rq c0.rq=true;exact gK.2 rfl)
 ·rcases hy with rfl|rfl|rfl|rfl|rfl|rfl|rfl|rfl|rfl|rfl|rfl|rfl|rfl|rfl|rfl<;>first | exact absurd rfl hne | (show aU m0.rs c0.rs m0.rs c0.rs=true;exact fH.2 rfl)
 ·rcases hy with rfl|rfl|rfl|rfl|rfl|rfl|rfl|rfl|rfl|rfl|rfl|rfl|rfl|rfl|rfl<;>first | exact absurd rfl hne | (show decide (m0.at_=m0.at_)=true;exact (decide_eq_true_iff).2 rfl)
 ·rcases hy with rfl|rfl|rfl|rfl|rfl|rfl|rfl|rfl|rfl|rfl|rfl|rfl|rfl|rfl|rfl<;>first | exact absurd rfl hne | (show decide (m0.cm=m0.cm)=true;exact (decide_eq_true_iff).2 rfl)
 ·rcases hy with rfl|rfl|rfl|rfl|rfl|rfl|rfl|rfl|rfl|rfl|rfl|rfl|rfl|rfl|rfl<;>first | exact absurd rfl hne | (show decide (m0.bs=m0.bs)=true;exact (decide_eq_true_iff).2 rfl)
 ·rcases hy with rfl|rfl|rfl|rfl|rfl|rfl|rfl|rfl|rfl|rfl|rfl|rfl|rfl|rfl|rfl<;>first | exact absurd rfl hne | (show decide (c0.snap=c0.snap)=true;exact (decide_eq_true_iff).2 rfl)
 ·rcases hy with rfl|rfl|rfl|rfl|rfl|rfl|rfl|rfl|rfl|rfl|rfl|rfl|rfl|rfl|rfl<;>first | exact absurd rfl hne | (show bu c0.log c0.log=true;exact gU.2 rfl)
 ·rcases hy with rfl|rfl|rfl|rfl|rfl|rfl|rfl|rfl|rfl|rfl|rfl|rfl|rfl|rfl|rfl<;>first | exact absurd rfl hne | (show decide (m0.nc=m0.nc)=true;exact (decide_eq_true_iff).2 rfl)
 ·rcases hy with rfl|rfl|rfl|rfl|rfl|rfl|rfl|rfl|rfl|rfl|rfl|rfl|rfl|rfl|rfl<;>first | exact absurd rfl hne | (show decide (m0.wh=m0.wh)=true;exact (decide_eq_true_iff).2 rfl)
 rcases hy with rfl|rfl|rfl|rfl|rfl|rfl|rfl|rfl|rfl|rfl|rfl|rfl|rfl|rfl|rfl<;>first | exact absurd rfl hne | (show decide (c0.seen=c0.seen)=true;exact (decide_eq_true_iff).2 rfl)
theorem qM (m:MV)(c:MC):∀(ls:List Int),(∀x∈ls,x∈dJ)->∀x∈dJ,∀(m0:MV) (c0:MC),(x∈ls->agree x (ls.foldl (fun b y=>aI y b m) m0) (ls.foldl (fun b y=>dh y b c) c0) m c=true)/\(x∉ls->agree x (ls.foldl (fun b y=>aI y b m) m0) (ls.foldl (fun b y=>dh y b c) c0) m0 c0=true)
 | [],_,x,_,m0,c0=>⟨fun h=>absurd h List.not_mem_nil,fun _=>nN x m0 c0⟩
 | y::ls,hls,x,hx,m0,c0=>by
  obtain⟨h1,h2⟩:=qM m c ls (fun z hz=>hls z (by simp[hz])) x hx (aI y m0 m) (dh y c0 c);refine⟨fun h=>?_,fun h=>?_⟩
  ·by_cases hm:x∈ls
   ·exact h1 hm
   obtain rfl:x=y:=by
    rcases List.mem_cons.1 h with h | h
    ·exact h
    exact absurd h hm
   exact dZ (h2 hm) (En x m0 m c0 c hx)
  have hne:x≠y:=fun e=>h (by simp[e]);exact dZ (h2 (fun hm=>h (by simp[hm]))) (ng x y m0 m c0 c hx (hls y (by simp)) hne)
theorem Be (y:Int)(m0 m:MV):(aI y m0 m).k=m0.k:=by
 by_cases e118:y=118
 ·subst e118;rfl
 by_cases e110:y=110
 ·subst e110;rfl
 by_cases e102:y=102
 ·subst e102;rfl
 by_cases e99:y=99
 ·subst e99;rfl
 by_cases e117:y=117
 ·subst e117;rfl
 by_cases e113:y=113
 ·subst e113;rfl
 by_cases e114:y=114
 ·subst e114;rfl
 by_cases e97:y=97
 ·subst e97;rfl
 by_cases e109:y=109
 ·subst e109;rfl
 by_cases e98:y=98
 ·subst e98;rfl
 by_cases e115:y=115
 ·subst e115;rfl
 by_cases e108:y=108
 ·subst e108;rfl
 by_cases e111:y=111
 ·subst e111;rfl
 by_cases e119:y=119
 ·subst e119;rfl
 by_cases e101:y=101
 ·subst e101;rfl
 unfold aI;simp only[e118,e110,e102,e99,e117,e113,e114,e97,e109,e98,e115,e108,e111,e119,e101,if_false]
theorem AY (m:MV):∀(ls:List Int) (m0:MV),(ls.foldl (fun b y=>aI y b m) m0).k=m0.k
 | [],_=>rfl
 | y::ls,m0=>by rw[List.foldl_cons,AY m ls,Be]
theorem IM {m o:MV}{c d:MC}{ls:List Int}(hls:∀x∈ls,x∈dJ)(hk:o.k=m.k)(hag:∀x∈ls,agree x o d m c=true)(hz:∀x∈dJ,x∉ls->agree x o d (aj m.k) dK=true):aG o d m c=aG m c (jX ls m) (mX ls c):=by
 rw[Bool.eq_iff_iff,same_iff,same_iff];have hkept:=fun x hx=>qM m c ls hls x hx (aj m.k) dK;constructor
 ·rintro⟨-,h⟩;refine⟨(AY m ls (aj m.k)).symm,fun x hx=>?_⟩;by_cases hm:x∈ls
  ·exact iI ((hkept x hx).1 hm)
  exact dZ (iI (h x hx)) (dZ (hz x hx hm) (iI ((hkept x hx).2 hm)))
 rintro⟨-,h⟩;refine⟨hk,fun x hx=>?_⟩;by_cases hm:x∈ls
 ·exact hag x hm
 exact dZ (hz x hx hm) (dZ (iI ((hkept x hx).2 hm)) (iI (h x hx)))
def jK (x:Int):UInt8:=
 if x=118 then 2 else if x=110 then 3 else if x=102 then 4 else if x=99 then 5 else if x=117 then 6 else if x=113 then 7 else if x=114 then 8 else if x=97 then 9 else if x=109 then 10 else if x=98 then 11 else if x=115 then 12 else if x=108 then 13 else if x=111 then 14 else if x=119 then 15 else 16
def eH (k:Int)(wh:Bool):List UInt8:=(lettersOf k wh).map jK
def jq (l:List UInt8)(w:World)(e:Ending)(w':World):Prop:=∃ao cap,e=.returned (.slice ao l.length cap)/\Rd w' 1 ao l.length cap (byV l)/\Below w.heap.size w w'/\TyX 5 w' ao cap
theorem FP (l:List UInt8)(n:Nat)(c:Array Value)(w:World)(hn:l.length=n)(hc:c.toList=byV l)(h0:0<n)(hs:n<=100):jq l w (.returned (.slice (some ⟨w.heap.size,0,none⟩) (n:Int).toNat (n:Int).toNat)) (w.alloc (.cells c 5)):=by
 subst hn;have hk:(w.alloc (.cells c 5)).heap[w.heap.size]?=some (.cells c 5):=by show (w.heap.push _)[w.heap.size]?=some _;exact Array.getElem?_push_size
 refine⟨some ⟨w.heap.size,0,none⟩,l.length,by simp,⟨by rw[aP,Nat.mul_one],Nat.le_refl _,by unfold maxLen;omega,(fun h=>by cases h),fun _ a ha=>?_⟩,(Below.refl _ _).alloc (Nat.le_refl _) _,fun _ a ha=>?_⟩
 ·cases ha;have hz:(w.alloc (.cells c 5)).heap.size=w.heap.size+1:=by simp
  refine⟨rfl,by rw[hz];exact Nat.lt_succ_self _,fun j u hu=>?_⟩;rw[<-hc] at hu;simp only[World.cell?,hk];simpa using hu
 cases ha;exact⟨c,_,hk⟩
theorem Fv {k:Int}(h:¬(1<=k/\k<=12))(wh:Bool):lettersOf k wh=[]:=by
 rcases kinds k wh with h0 | h0
 ·exact h0
 exfalso;omega
theorem rO (k:Int)(wh:Bool)(w:World):Calls Tryz.prog 51 #[.int .i64 k,.bool wh] w (jq (eH k wh) w):=by
 by_cases h:1<=k/\k<=12
 ·rcases (by omega:k=1\/k=2\/k=3\/k=4\/k=5\/k=6\/k=7\/k=8\/k=9\/k=10\/k=11\/k=12) with rfl|rfl|rfl|rfl|rfl|rfl|rfl|rfl|rfl|rfl|rfl|rfl<;>clear h<;>cases wh
  all_goals
   go_in;go_wp2_with fail;go_ret;exact FP _ _ _ w rfl rfl (by decide) (by decide)
 have e:eH k wh=[]:=by unfold eH;rw[Fv h];rfl
 rw[e];have f1:(k==1)=false:=by rw[beq_eq_false_iff_ne];omega
 have f2:(k==2)=false:=by rw[beq_eq_false_iff_ne];omega
 have f3:(k==3)=false:=by rw[beq_eq_false_iff_ne];omega
 have f4:(k==4)=false:=by rw[beq_eq_false_iff_ne];omega
 have f5:(k==5)=false:=by rw[beq_eq_false_iff_ne];omega
 have f6:(k==6)=false:=by rw[beq_eq_false_iff_ne];omega
 have f7:(k==7)=false:=by rw[beq_eq_false_iff_ne];omega
 have f8:(k==8)=false:=by rw[beq_eq_false_iff_ne];omega
 have f9:(k==9)=false:=by rw[beq_eq_false_iff_ne];omega
 have f10:(k==10)=false:=by rw[beq_eq_false_iff_ne];omega
 have f11:(k==11)=false:=by rw[beq_eq_false_iff_ne];omega
 have f12:(k==12)=false:=by rw[beq_eq_false_iff_ne];omega
 clear h e;go_in;go_wp2_with fail;go_ret;exact⟨none,0,rfl,Rd.nil _ _,Below.refl _ _,fun h=>absurd h (by decide)⟩
theorem FY (x:Int)(hx:x∈dJ)(m:MV)(c:MC)(w:World)(h:MAt w m c)(hu:U64M m c)(hf:FitsM m c)(hs:m.sn<=4194304)(hn:m.hn<=322639)(hl:m.ln<=1000000) :
  Calls Tryz.prog 53 #[m.val,.int .u8 ((jK x).toNat:Int)] w (fZ x m c w):=by
 simp only[dJ,List.mem_cons,List.not_mem_nil,or_false] at hx;rcases hx with rfl|rfl|rfl|rfl|rfl|rfl|rfl|rfl|rfl|rfl|rfl|rfl|rfl|rfl|rfl
 ·exact Ez m c w hu
 ·exact EC m c w hu
 ·exact EL m c w
 ·exact I5 m c w hu
 ·exact F7 m c w hu
 ·exact Fz m c w h hu
 ·exact FK m c w h hf
 ·exact GR m c w hu
 ·exact FN m c w hu
 ·exact Iq m c w hu
 ·exact Ei m c w h hs
 ·exact Eu m c w h hu hf hl
 ·exact Ed m c w hu
 ·exact EU m c w
 exact EM m c w h hu hn
theorem uZ {x:Int}{m:MV}{c:MC}(hf:FitsM m c)(hs:m.sn<=4194304)(hb:eX x m c=true):MayF x m c:=by
 refine⟨fun e=>?_,fun e=>?_,fun e=>?_,fun _=>hs,fun e=>?_,fun e=>?_⟩
 ·subst e;have h1:(decide (0<=m.fr)&&decide (m.fr<7))=true:=hb;simpa using h1
 ·subst e;exact hb
 ·subst e;have h1:bz m.rs c.rs=true:=hb;exact⟨h1,hf.rl h1⟩
 ·subst e;have h1:(!(c.log.any fun u=>!aF u.1.op u.2)&&decide (m.ln<=4096))=true:=hb;rw[Bool.and_eq_true] at h1;have h2:∀p∈c.log,aF p.1.op p.2=true:=fun p hp=>by
   have:=List.any_eq_false.1 (by simpa using h1.1:(c.log.any fun u=>!aF u.1.op u.2)=false) p hp;simpa using this
  exact⟨h2,hf.lg h2,of_decide_eq_true h1.2⟩
 subst e;exact of_decide_eq_true hb
theorem Dw {W:World}{m:MV}{c:MC}(h:MAt W m c)(hu:U64M m c)(hf:FitsM m c)(hs:m.sn<=4194304)(hn:lettersOf m.k m.wh≠[])(hall:∀x∈lettersOf m.k m.wh,eX x m c=true):MayM W m c:=by
 have hk:1<=m.k/\m.k<=12:=by
  rcases kinds m.k m.wh with h0 | h0
  ·exact absurd h0 hn
  omega
 exact⟨h,hu,hk,fun x hx=>uZ hf hs (hall x hx)⟩
theorem Po {k:Int}{wh:Bool}(h:k=1\/k=3):(113:Int)∈lettersOf k wh:=by
 rcases h with rfl|rfl<;>cases wh<;>decide
theorem Pm {k:Int}{wh:Bool}(h:k=2):(114:Int)∈lettersOf k wh:=by
 subst h;cases wh<;>decide
theorem pg {W:World}{m:MV}{c:MC}(h:MAt W m c)(hs:m.sn<=4194304):dY m c=true↔lettersOf m.k m.wh≠[]/\(∀x∈lettersOf m.k m.wh,eX x m c=true)/\aG m c (jX (lettersOf m.k m.wh) m) (mX (lettersOf m.k m.wh) c)=true:=by
 constructor
 ·intro hw;have F:=WellP.of hw;refine⟨F.ls,fun x hx=>?_,F.same⟩;unfold eX;by_cases e102:x=102
  ·subst e102;rw[if_pos rfl,decide_eq_true F.f0,decide_eq_true F.f7];rfl
  rw[if_neg e102];by_cases e113:x=113
  ·subst e113;rw[if_pos rfl];exact F.rq (zi hx)
  rw[if_neg e113];by_cases e114:x=114
  ·subst e114;rw[if_pos rfl];exact F.rs (yT hx)
  rw[if_neg e114];by_cases e108:x=108
  ·subst e108;rw[if_pos rfl,decide_eq_true F.ln,List.any_eq_false.2 (fun p hp=>by simp[F.log p hp])];rfl
  rw[if_neg e108];by_cases e101:x=101
  ·subst e101;rw[if_pos rfl];exact decide_eq_true F.hn
  rw[if_neg e101]
 rintro⟨h1,h2,h3⟩;obtain⟨-,hag⟩:=same_iff.1 h3;have hall:∀x∈lettersOf m.k m.wh,x∈dJ:=jv;have hz:∀x∈dJ,x∉lettersOf m.k m.wh->agree x m c (aj m.k) dK=true:=fun x hx hn=>dZ (hag x hx) ((qM m c _ hall x hx (aj m.k) dK).2 hn);have lg:=h.lg.len;have ls:=h.se.1;rw[gB] at ls;have hfr:0<=m.fr/\m.fr<7:=by
  by_cases hm:(102:Int)∈lettersOf m.k m.wh
  ·have:(decide (0<=m.fr)&&decide (m.fr<7))=true:=h2 102 hm;simpa using this
  have:m.fr=0:=of_decide_eq_true (hz 102 (by decide) hm);omega
 have hlog:(∀p∈c.log,aF p.1.op p.2=true)/\m.ln<=4096:=by
  by_cases hm:(108:Int)∈lettersOf m.k m.wh
  ·have h4:(!(c.log.any fun u=>!aF u.1.op u.2)&&decide (m.ln<=4096))=true:=h2 108 hm;rw[Bool.and_eq_true] at h4;refine⟨fun p hp=>?_,of_decide_eq_true h4.2⟩;have:=List.any_eq_false.1 (by simpa using h4.1:(c.log.any fun u=>!aF u.1.op u.2)=false) p hp;simpa using this
  have h4:bu c.log []=true:=hz 108 (by decide) hm;have h5:=jl h4;have h6:c.log=[]:=List.eq_nil_of_length_eq_zero h5;rw[h6] at lg ⊢;exact⟨fun p hp=>absurd hp List.not_mem_nil,by simp at lg;omega⟩
 have hsn:m.hn<=7:=by
  by_cases hm:(101:Int)∈lettersOf m.k m.wh
  ·exact of_decide_eq_true (show decide (m.hn<=7)=true from h2 101 hm)
  have h4:c.seen=[]:=of_decide_eq_true (show decide (c.seen=[])=true from hz 101 (by decide) hm);rw[h4] at ls;simp at ls;omega
 unfold dY;rw[decide_eq_true h1,h3,decide_eq_true hfr.1,decide_eq_true hfr.2,decide_eq_true hlog.2,decide_eq_true hs,decide_eq_true hsn,List.any_eq_false.2 (fun p hp=>by simp[hlog.1 p hp])];simp only[Bool.true_and,Bool.not_false];by_cases hq:m.k=1\/m.k=3
 ·rw[if_pos hq];exact h2 113 (Po hq)
 rw[if_neg hq];by_cases hr:m.k=2
 ·rw[if_pos hr];exact h2 114 (Pm hr)
 rw[if_neg hr]
def Kept (o:MV)(d:MC):Prop:=∀x∈dJ,x∉lettersOf o.k o.wh->agree x o d (aj o.k) dK=true
theorem II {W W':World}{m o:MV}{c d:MC}{s':RS}(T:TookM ⟨dO m c,false⟩ o d s')(hM:MayM W m c)(ho:MAt W' o d)(hu:U64M o d)(hk:1<=o.k/\o.k<=12)(hz:s'.bad=false->Kept o d) :
  aG o d m c=aG m c (jX (lettersOf m.k m.wh) m) (mX (lettersOf m.k m.wh) c):=by
 obtain⟨h1,h2⟩:=T.go rfl W m c [] hM (by simp);obtain⟨-,e,g,-⟩:=T.yes h1;dsimp only at e;obtain⟨k1,k2,k3,-⟩:=yE (r:=[]) hM.at_ ho hM.u hu hM.k hk (fun x hx=>(hM.may x hx).g hM.at_) g (by rw[List.append_nil];exact e);refine IM jv k1.symm (fun x hx=>iI (k3 x hx)) (fun x hx hn=>?_);rw[k1];exact hz h1 x hx (by rw[<-k2];exact hn)
theorem O0 {W:World}{m:MV}{c:MC}(h:MAt W m c)(hs:m.sn<=4194304)(hn:lettersOf m.k m.wh≠[])(hall:∀x∈lettersOf m.k m.wh,eX x m c=true) :
  bZ m c=(aG m c (jX (lettersOf m.k m.wh) m) (mX (lettersOf m.k m.wh) c)&&decide ((dO m c).length<=8388608)):=by
 unfold bZ
 congr 1
 rw[Bool.eq_iff_iff,pg h hs];exact⟨fun a=>a.2.2,fun a=>⟨hn,hall,a⟩⟩
theorem KP {W:World}{m:MV}{c:MC}(h:MAt W m c)(hs:m.sn<=4194304)(hn:lettersOf m.k m.wh=[]):bZ m c=false:=by
 cases hm:dY m c with
 | false=>unfold bZ;rw[hm];rfl
 | true=>exact absurd hn ((pg h hs).1 hm).1
theorem Lu {W:World}{m:MV}{c:MC}{x:Int}(h:MAt W m c)(hs:m.sn<=4194304)(hx:x∈lettersOf m.k m.wh)(hf:eX x m c=false):bZ m c=false:=by
 cases hm:dY m c with
 | false=>unfold bZ;rw[hm];rfl
 | true=>
  have:=((pg h hs).1 hm).2.1 x hx;rw[hf] at this;cases this
structure MTyB (B:Nat)(W:World)(m:MV)(c:MC):Prop where
 rq:OpTyB B W m.rq.op
 rs:QTyB B W m.rs c.rs
 sn:TyB B W m.so m.sc
 lo:TyX 55 W m.lo m.lc
 log:∀p∈c.log,OpTyB B W p.1.op
 ho:TyX 22 W m.ho m.hc
structure FitK (o:MV)(c:MC):Prop where
 rs:nJ c.rs
 rl:bz o.rs c.rs=true->(dV o.rs c.rs).length<=4194304
 lg:(∀p∈c.log,aF p.1.op p.2=true)->(ig c.log).length<=4194304
 sn:o.sn<=4194304
 hn:o.hn<=322639
 ln:o.ln<=1000000
theorem FitK.fits {o:MV}{c:MC}(h:FitK o c):FitsM o c:=⟨h.rs,h.rl,h.lg⟩
theorem P5 (k:Int):FitK (aj k) dK:=⟨fun _=>Nat.zero_le _,fun _=>by rw[pI];decide,fun _=>Nat.zero_le _,Nat.zero_le _,Nat.zero_le _,Nat.zero_le _⟩
def vN (B g:Nat)(s:RS)(W:World)(e:Ending)(w':World):Prop:=∃s':RS,RfS B g s' w'/\BelX W.heap.size [g] W w' /\
 ((∃(m:MV) (c:MC),e=.returned (.tuple #[m.val,.bool true])/\MAt w' m c/\U64M m c/\MTyB B w' m c/\(1<=m.k/\m.k<=12)/\(s'.bad=false->Kept m c)/\TookM s m c s'/\FitK m c/\∃r,s.l=val 1 (aA m.k.toNat)++r) \/
 (e=.returned (.tuple #[(aj 0).val,.bool false])/\(∀(n:Nat) (r:List UInt8),s.bad=false->1<=n->n<=12->s.l≠val 1 (aA n)++r)/\∀(W0:World) (m:MV) (d:MC) (r:List UInt8),s.bad=false->MayM W0 m d->s.l≠dO m d++r))
end Go.Proofs.YtfmmandlmbcncaaGreatDoor.Msg
