/-
  A part of the proof.
-/
import Derived.Test.YtfmmandlmbcncaaGreatDoorKbbk
set_option maxHeartbeats 40000000
namespace Go.Proofs.YtfmmandlmbcncaaGreatDoor.Msg
open Go.RowKit Go.Lib Go.Proofs.YtfmmandlmbcncaaGreatDoor.Mem Go.Proofs.YtfmmandlmbcncaaGreatDoor.Tlv
def keyR (r:RV)(c:OC):Int×Int×Int×ByteArray×ByteArray×List (ByteArray×ByteArray)×List ByteArray×List UInt8×Int:=(r.cl,r.nu,r.op.k,r.op.name,r.op.to,c.attrs,c.parts,c.cursor,r.op.n)
theorem sameReq_key {r r':RV}{c c':OC}:sameReq r c r' c'=true↔keyR r c=keyR r' c':=by
 unfold sameReq sameOp keyR
 simp only[Bool.and_eq_true,decide_eq_true_eq,Prod.mk.injEq,and_assoc]
def keyEs (l:List EP):List (ByteArray×List (ByteArray×ByteArray)):=l.map fun p=>(p.1.name,p.2)
theorem sameEnts_key:∀ {l l':List EP},sameEnts l l'=true↔keyEs l=keyEs l'
 | [],[]=>⟨fun _=>rfl,fun _=>rfl⟩
 | [],_::_=>⟨fun h=>(by cases h),fun h=>(by cases h)⟩
 | _::_,[]=>⟨fun h=>(by cases h),fun h=>(by cases h)⟩
 | p::l,q::m=>by
  show (sameEntry p.1 p.2 q.1 q.2&&sameEnts l m)=true↔(p.1.name,p.2)::keyEs l=(q.1.name,q.2)::keyEs m
  unfold sameEntry
  rw[Bool.and_eq_true,Bool.and_eq_true,decide_eq_true_eq,decide_eq_true_eq,sameEnts_key,List.cons.injEq,Prod.mk.injEq]
def keyQ (v:QV)(c:QC):Int×Bool×List (ByteArray×List (ByteArray×ByteArray))×List UInt8:=(v.code,v.yes,keyEs c.ents,c.cursor)
theorem sameRes_key {v v':QV}{c c':QC}:sameRes v c v' c'=true↔keyQ v c=keyQ v' c':=by
 unfold sameRes keyQ
 rw[Bool.and_eq_true,Bool.and_eq_true,Bool.and_eq_true,decide_eq_true_eq,decide_eq_true_eq,decide_eq_true_eq,sameEnts_key,Prod.mk.injEq,Prod.mk.injEq,Prod.mk.injEq]
def keyL (l:List RP):List (Int×Int×Int×ByteArray×ByteArray×List (ByteArray×ByteArray)×List ByteArray×List UInt8×Int):=l.map fun p=>keyR p.1 p.2
theorem sameLog_key:∀ {l l':List RP},sameLog l l'=true↔keyL l=keyL l'
 | [],[]=>⟨fun _=>rfl,fun _=>rfl⟩
 | [],_::_=>⟨fun h=>(by cases h),fun h=>(by cases h)⟩
 | _::_,[]=>⟨fun h=>(by cases h),fun h=>(by cases h)⟩
 | p::l,q::m=>by
  show (sameReq p.1 p.2 q.1 q.2&&sameLog l m)=true↔keyR p.1 p.2::keyL l=keyR q.1 q.2::keyL m
  rw[Bool.and_eq_true,sameReq_key,sameLog_key,List.cons.injEq]
theorem agree_symm {x:Int}{m m':MV}{c c':MC}(h:agree x m c m' c'=true):agree x m' c' m c=true:=by
 by_cases e118:x=118
 ·subst e118;exact (decide_eq_true_iff).2 ((decide_eq_true_iff).1 h).symm
 by_cases e110:x=110
 ·subst e110;exact (decide_eq_true_iff).2 ((decide_eq_true_iff).1 h).symm
 by_cases e102:x=102
 ·subst e102;exact (decide_eq_true_iff).2 ((decide_eq_true_iff).1 h).symm
 by_cases e99:x=99
 ·subst e99;exact (decide_eq_true_iff).2 ((decide_eq_true_iff).1 h).symm
 by_cases e117:x=117
 ·subst e117;exact (decide_eq_true_iff).2 ((decide_eq_true_iff).1 h).symm
 by_cases e113:x=113
 ·subst e113;exact sameReq_key.2 (sameReq_key.1 h).symm
 by_cases e114:x=114
 ·subst e114;exact sameRes_key.2 (sameRes_key.1 h).symm
 by_cases e97:x=97
 ·subst e97;exact (decide_eq_true_iff).2 ((decide_eq_true_iff).1 h).symm
 by_cases e109:x=109
 ·subst e109;exact (decide_eq_true_iff).2 ((decide_eq_true_iff).1 h).symm
 by_cases e98:x=98
 ·subst e98;exact (decide_eq_true_iff).2 ((decide_eq_true_iff).1 h).symm
 by_cases e115:x=115
 ·subst e115;exact (decide_eq_true_iff).2 ((decide_eq_true_iff).1 h).symm
 by_cases e108:x=108
 ·subst e108;exact sameLog_key.2 (sameLog_key.1 h).symm
 by_cases e111:x=111
 ·subst e111;exact (decide_eq_true_iff).2 ((decide_eq_true_iff).1 h).symm
 by_cases e119:x=119
 ·subst e119;exact (decide_eq_true_iff).2 ((decide_eq_true_iff).1 h).symm
 have hd:∀(m m':MV) (c c':MC),agree x m c m' c'=decide (c.seen=c'.seen):=fun m m' c c'=>by unfold agree;simp only[e118,e110,e102,e99,e117,e113,e114,e97,e109,e98,e115,e108,e111,e119,if_false]
 rw[hd] at h ⊢
 exact decide_eq_true (of_decide_eq_true h).symm
theorem agree_trans {x:Int}{m m' n:MV}{c c' d:MC}(h:agree x m c m' c'=true)(h':agree x m' c' n d=true):agree x m c n d=true:=by
 by_cases e118:x=118
 ·subst e118;exact (decide_eq_true_iff).2 (((decide_eq_true_iff).1 h).trans ((decide_eq_true_iff).1 h'))
 by_cases e110:x=110
 ·subst e110;exact (decide_eq_true_iff).2 (((decide_eq_true_iff).1 h).trans ((decide_eq_true_iff).1 h'))
 by_cases e102:x=102
 ·subst e102;exact (decide_eq_true_iff).2 (((decide_eq_true_iff).1 h).trans ((decide_eq_true_iff).1 h'))
 by_cases e99:x=99
 ·subst e99;exact (decide_eq_true_iff).2 (((decide_eq_true_iff).1 h).trans ((decide_eq_true_iff).1 h'))
 by_cases e117:x=117
 ·subst e117;exact (decide_eq_true_iff).2 (((decide_eq_true_iff).1 h).trans ((decide_eq_true_iff).1 h'))
 by_cases e113:x=113
 ·subst e113;exact sameReq_key.2 ((sameReq_key.1 h).trans (sameReq_key.1 h'))
 by_cases e114:x=114
 ·subst e114;exact sameRes_key.2 ((sameRes_key.1 h).trans (sameRes_key.1 h'))
 by_cases e97:x=97
 ·subst e97;exact (decide_eq_true_iff).2 (((decide_eq_true_iff).1 h).trans ((decide_eq_true_iff).1 h'))
 by_cases e109:x=109
 ·subst e109;exact (decide_eq_true_iff).2 (((decide_eq_true_iff).1 h).trans ((decide_eq_true_iff).1 h'))
 by_cases e98:x=98
 ·subst e98;exact (decide_eq_true_iff).2 (((decide_eq_true_iff).1 h).trans ((decide_eq_true_iff).1 h'))
 by_cases e115:x=115
 ·subst e115;exact (decide_eq_true_iff).2 (((decide_eq_true_iff).1 h).trans ((decide_eq_true_iff).1 h'))
 by_cases e108:x=108
 ·subst e108;exact sameLog_key.2 ((sameLog_key.1 h).trans (sameLog_key.1 h'))
 by_cases e111:x=111
 ·subst e111;exact (decide_eq_true_iff).2 (((decide_eq_true_iff).1 h).trans ((decide_eq_true_iff).1 h'))
 by_cases e119:x=119
 ·subst e119;exact (decide_eq_true_iff).2 (((decide_eq_true_iff).1 h).trans ((decide_eq_true_iff).1 h'))
 have hd:∀(m m':MV) (c c':MC),agree x m c m' c'=decide (c.seen=c'.seen):=fun m m' c c'=>by unfold agree;simp only[e118,e110,e102,e99,e117,e113,e114,e97,e109,e98,e115,e108,e111,e119,if_false]
 rw[hd] at h h' ⊢
 exact decide_eq_true ((of_decide_eq_true h).trans (of_decide_eq_true h'))
theorem agree_refl (x:Int)(m:MV)(c:MC):agree x m c m c=true:=by
 by_cases e118:x=118
 ·subst e118;exact (decide_eq_true_iff).2 rfl
 by_cases e110:x=110
 ·subst e110;exact (decide_eq_true_iff).2 rfl
 by_cases e102:x=102
 ·subst e102;exact (decide_eq_true_iff).2 rfl
 by_cases e99:x=99
 ·subst e99;exact (decide_eq_true_iff).2 rfl
 by_cases e117:x=117
 ·subst e117;exact (decide_eq_true_iff).2 rfl
 by_cases e113:x=113
 ·subst e113;exact sameReq_key.2 rfl
 by_cases e114:x=114
 ·subst e114;exact sameRes_key.2 rfl
 by_cases e97:x=97
 ·subst e97;exact (decide_eq_true_iff).2 rfl
 by_cases e109:x=109
 ·subst e109;exact (decide_eq_true_iff).2 rfl
 by_cases e98:x=98
 ·subst e98;exact (decide_eq_true_iff).2 rfl
 by_cases e115:x=115
 ·subst e115;exact (decide_eq_true_iff).2 rfl
 by_cases e108:x=108
 ·subst e108;exact sameLog_key.2 rfl
 by_cases e111:x=111
 ·subst e111;exact (decide_eq_true_iff).2 rfl
 by_cases e119:x=119
 ·subst e119;exact (decide_eq_true_iff).2 rfl
 have hd:agree x m c m c=decide (c.seen=c.seen):=by unfold agree;simp only[e118,e110,e102,e99,e117,e113,e114,e97,e109,e98,e115,e108,e111,e119,if_false]
 rw[hd]
 exact decide_eq_true rfl
theorem same_iff {m m':MV}{c c':MC}:sameMsg m c m' c'=true↔m.k=m'.k∧∀x∈allX,agree x m c m' c'=true:=by
 constructor
 ·intro h
  unfold sameMsg at h
  simp only[Bool.and_eq_true] at h
  obtain⟨h1,h2,h3,h4,h5,h6,h7,h8,h9,h10,h11,h12,h13,h14,h15,h16⟩:=h
  refine⟨of_decide_eq_true h1,fun x hx=>?_⟩
  simp only[allX,List.mem_cons,List.not_mem_nil,or_false] at hx
  rcases hx with rfl|rfl|rfl|rfl|rfl|rfl|rfl|rfl|rfl|rfl|rfl|rfl|rfl|rfl|rfl
  ·exact h2
  ·exact h3
  ·exact h4
  ·exact h5
  ·exact h6
  ·exact h7
  ·exact h8
  ·exact h9
  ·exact h10
  ·exact h11
  ·exact h12
  ·exact h13
  ·exact h14
  ·exact h15
  exact h16
 rintro⟨hk,h⟩
 unfold sameMsg
 simp only[Bool.and_eq_true]
 exact⟨decide_eq_true hk,h 118 (by decide),h 110 (by decide),h 102 (by decide),h 99 (by decide),h 117 (by decide),h 113 (by decide),h 114 (by decide),h 97 (by decide),h 109 (by decide),h 98 (by decide),h 115 (by decide),h 108 (by decide),h 111 (by decide),h 119 (by decide),h 101 (by decide)⟩
theorem agree_self (x:Int)(m0 m:MV)(c0 c:MC)(hx:x∈allX):agree x (setF x m0 m) (setC x c0 c) m c=true:=by
 simp only[allX,List.mem_cons,List.not_mem_nil,or_false] at hx
 rcases hx with rfl|rfl|rfl|rfl|rfl|rfl|rfl|rfl|rfl|rfl|rfl|rfl|rfl|rfl|rfl
 ·show decide (m.vi=m.vi)=true;exact (decide_eq_true_iff).2 rfl
 ·show decide (m.no=m.no)=true;exact (decide_eq_true_iff).2 rfl
 ·show decide (m.fr=m.fr)=true;exact (decide_eq_true_iff).2 rfl
 ·show decide (m.cl=m.cl)=true;exact (decide_eq_true_iff).2 rfl
 ·show decide (m.nu=m.nu)=true;exact (decide_eq_true_iff).2 rfl
 ·show sameReq m.rq c.rq m.rq c.rq=true;exact sameReq_key.2 rfl
 ·show sameRes m.rs c.rs m.rs c.rs=true;exact sameRes_key.2 rfl
 ·show decide (m.at_=m.at_)=true;exact (decide_eq_true_iff).2 rfl
 ·show decide (m.cm=m.cm)=true;exact (decide_eq_true_iff).2 rfl
 ·show decide (m.bs=m.bs)=true;exact (decide_eq_true_iff).2 rfl
 ·show decide (c.snap=c.snap)=true;exact (decide_eq_true_iff).2 rfl
 ·show sameLog c.log c.log=true;exact sameLog_key.2 rfl
 ·show decide (m.nc=m.nc)=true;exact (decide_eq_true_iff).2 rfl
 ·show decide (m.wh=m.wh)=true;exact (decide_eq_true_iff).2 rfl
 show decide (c.seen=c.seen)=true;exact (decide_eq_true_iff).2 rfl
theorem agree_other (x y:Int)(m0 m:MV)(c0 c:MC)(hx:x∈allX)(hy:y∈allX)(hne:x≠y):agree x (setF y m0 m) (setC y c0 c) m0 c0=true:=by
 simp only[allX,List.mem_cons,List.not_mem_nil,or_false] at hx hy
 rcases hx with rfl|rfl|rfl|rfl|rfl|rfl|rfl|rfl|rfl|rfl|rfl|rfl|rfl|rfl|rfl
 ·rcases hy with rfl|rfl|rfl|rfl|rfl|rfl|rfl|rfl|rfl|rfl|rfl|rfl|rfl|rfl|rfl<;>first | exact absurd rfl hne | (show decide (m0.vi=m0.vi)=true;exact (decide_eq_true_iff).2 rfl)
 ·rcases hy with rfl|rfl|rfl|rfl|rfl|rfl|rfl|rfl|rfl|rfl|rfl|rfl|rfl|rfl|rfl<;>first | exact absurd rfl hne | (show decide (m0.no=m0.no)=true;exact (decide_eq_true_iff).2 rfl)
 ·rcases hy with rfl|rfl|rfl|rfl|rfl|rfl|rfl|rfl|rfl|rfl|rfl|rfl|rfl|rfl|rfl<;>first | exact absurd rfl hne | (show decide (m0.fr=m0.fr)=true;exact (decide_eq_true_iff).2 rfl)
 ·rcases hy with rfl|rfl|rfl|rfl|rfl|rfl|rfl|rfl|rfl|rfl|rfl|rfl|rfl|rfl|rfl<;>first | exact absurd rfl hne | (show decide (m0.cl=m0.cl)=true;exact (decide_eq_true_iff).2 rfl)
 ·rcases hy with rfl|rfl|rfl|rfl|rfl|rfl|rfl|rfl|rfl|rfl|rfl|rfl|rfl|rfl|rfl<;>first | exact absurd rfl hne | (show decide (m0.nu=m0.nu)=true;exact (decide_eq_true_iff).2 rfl)
 ·rcases hy with rfl|rfl|rfl|rfl|rfl|rfl|rfl|rfl|rfl|rfl|rfl|rfl|rfl|rfl|rfl<;>first | exact absurd rfl hne | (show sameReq m0.rq c0.rq m0.rq c0.rq=true;exact sameReq_key.2 rfl)
 ·rcases hy with rfl|rfl|rfl|rfl|rfl|rfl|rfl|rfl|rfl|rfl|rfl|rfl|rfl|rfl|rfl<;>first | exact absurd rfl hne | (show sameRes m0.rs c0.rs m0.rs c0.rs=true;exact sameRes_key.2 rfl)
 ·rcases hy with rfl|rfl|rfl|rfl|rfl|rfl|rfl|rfl|rfl|rfl|rfl|rfl|rfl|rfl|rfl<;>first | exact absurd rfl hne | (show decide (m0.at_=m0.at_)=true;exact (decide_eq_true_iff).2 rfl)
 ·rcases hy with rfl|rfl|rfl|rfl|rfl|rfl|rfl|rfl|rfl|rfl|rfl|rfl|rfl|rfl|rfl<;>first | exact absurd rfl hne | (show decide (m0.cm=m0.cm)=true;exact (decide_eq_true_iff).2 rfl)
 ·rcases hy with rfl|rfl|rfl|rfl|rfl|rfl|rfl|rfl|rfl|rfl|rfl|rfl|rfl|rfl|rfl<;>first | exact absurd rfl hne | (show decide (m0.bs=m0.bs)=true;exact (decide_eq_true_iff).2 rfl)
 ·rcases hy with rfl|rfl|rfl|rfl|rfl|rfl|rfl|rfl|rfl|rfl|rfl|rfl|rfl|rfl|rfl<;>first | exact absurd rfl hne | (show decide (c0.snap=c0.snap)=true;exact (decide_eq_true_iff).2 rfl)
 ·rcases hy with rfl|rfl|rfl|rfl|rfl|rfl|rfl|rfl|rfl|rfl|rfl|rfl|rfl|rfl|rfl<;>first | exact absurd rfl hne | (show sameLog c0.log c0.log=true;exact sameLog_key.2 rfl)
 ·rcases hy with rfl|rfl|rfl|rfl|rfl|rfl|rfl|rfl|rfl|rfl|rfl|rfl|rfl|rfl|rfl<;>first | exact absurd rfl hne | (show decide (m0.nc=m0.nc)=true;exact (decide_eq_true_iff).2 rfl)
 ·rcases hy with rfl|rfl|rfl|rfl|rfl|rfl|rfl|rfl|rfl|rfl|rfl|rfl|rfl|rfl|rfl<;>first | exact absurd rfl hne | (show decide (m0.wh=m0.wh)=true;exact (decide_eq_true_iff).2 rfl)
 rcases hy with rfl|rfl|rfl|rfl|rfl|rfl|rfl|rfl|rfl|rfl|rfl|rfl|rfl|rfl|rfl<;>first | exact absurd rfl hne | (show decide (c0.seen=c0.seen)=true;exact (decide_eq_true_iff).2 rfl)
theorem kept_in (m:MV)(c:MC):∀(ls:List Int),(∀x∈ls,x∈allX)→∀x∈allX,∀(m0:MV) (c0:MC),(x∈ls→agree x (ls.foldl (fun b y=>setF y b m) m0) (ls.foldl (fun b y=>setC y b c) c0) m c=true)∧(x∉ls→agree x (ls.foldl (fun b y=>setF y b m) m0) (ls.foldl (fun b y=>setC y b c) c0) m0 c0=true)
 | [],_,x,_,m0,c0=>⟨fun h=>absurd h List.not_mem_nil,fun _=>agree_refl x m0 c0⟩
 | y::ls,hls,x,hx,m0,c0=>by
  obtain⟨h1,h2⟩:=kept_in m c ls (fun z hz=>hls z (by simp[hz])) x hx (setF y m0 m) (setC y c0 c)
  refine⟨fun h=>?_,fun h=>?_⟩
  ·by_cases hm:x∈ls
   ·exact h1 hm
   obtain rfl:x=y:=by
    rcases List.mem_cons.1 h with h | h
    ·exact h
    exact absurd h hm
   exact agree_trans (h2 hm) (agree_self x m0 m c0 c hx)
  have hne:x≠y:=fun e=>h (by simp[e])
  exact agree_trans (h2 (fun hm=>h (by simp[hm]))) (agree_other x y m0 m c0 c hx (hls y (by simp)) hne)
theorem setF_k (y:Int)(m0 m:MV):(setF y m0 m).k=m0.k:=by
 by_cases e118:y=118
 ·subst e118;rfl
 by_cases e110:y=110
 ·subst e110;rfl
 by_cases e102:y=102
 ·subst e102;rfl
 by_cases e99:y=99
 ·subst e99;rfl
 by_cases e117:y=117
 ·subst e117;rfl
 by_cases e113:y=113
 ·subst e113;rfl
 by_cases e114:y=114
 ·subst e114;rfl
 by_cases e97:y=97
 ·subst e97;rfl
 by_cases e109:y=109
 ·subst e109;rfl
 by_cases e98:y=98
 ·subst e98;rfl
 by_cases e115:y=115
 ·subst e115;rfl
 by_cases e108:y=108
 ·subst e108;rfl
 by_cases e111:y=111
 ·subst e111;rfl
 by_cases e119:y=119
 ·subst e119;rfl
 by_cases e101:y=101
 ·subst e101;rfl
 unfold setF;simp only[e118,e110,e102,e99,e117,e113,e114,e97,e109,e98,e115,e108,e111,e119,e101,if_false]
theorem kept_k (m:MV):∀(ls:List Int) (m0:MV),(ls.foldl (fun b y=>setF y b m) m0).k=m0.k
 | [],_=>rfl
 | y::ls,m0=>by rw[List.foldl_cons,kept_k m ls,setF_k]
end Go.Proofs.YtfmmandlmbcncaaGreatDoor.Msg
