/-
  A part of the proof.
-/
import Derived.Test.YtfmmandlmbcncaaGreatDoorKbbk
import Derived.Test.YtfmmandlmbcncaaGreatDoorKbbe
import Derived.Test.YtfmmandlmbcncaaGreatDoorKbay
import Derived.Test.YtfmmandlmbcncaaGreatDoorKbaz
import Derived.Test.YtfmmandlmbcncaaGreatDoorKbbj
import Derived.Test.YtfmmandlmbcncaaGreatDoorKbbh
import Derived.Test.YtfmmandlmbcncaaGreatDoorKbbl
set_option maxHeartbeats 40000000
namespace Go.Proofs.YtfmmandlmbcncaaGreatDoor.Msg
open Go.RowKit Go.Lib Go.Proofs.YtfmmandlmbcncaaGreatDoor.Mem Go.Proofs.YtfmmandlmbcncaaGreatDoor.Tlv
theorem opL_small {W:World}{v:OV}{c:OC}(ho:OpAt W v c)(hm:mayOp v c=true):(opL v c).length≤600013:=by
 obtain⟨-,-,f3⟩:=may_parts W ho hm
 have h1:=flat_le (letV v c) 200000 f3 (fieldsOf v.k)
 have h2:=Nat.mul_le_mul_right 200000 (fields_len v.k)
 unfold opL opTo
 rw[List.length_append,val_len,num8_len]
 omega
theorem logB_le {W:World}:∀(l:List RP),(∀p∈l,OpAt W p.1.op p.2)→(∀p∈l,mayOp p.1.op p.2=true)→(logB l).length≤l.length*600049
 | [],_,_=>Nat.zero_le _
 | p::l,h,hm=>by
  have h1:=opL_small (h p (by simp)) (hm p (by simp))
  have h2:=logB_le l (fun q hq=>h q (by simp[hq])) (fun q hq=>hm q (by simp[hq]))
  rw[logB_cons,List.length_append,val_len,reqL_len,List.length_cons]
  omega
theorem fitsM_of {W:World}{m:MV}{c:MC}(h:MAt W m c)(hln:m.ln≤6)(hen:m.rs.en≤8):FitsM m c:=by
 have le:c.rs.ents.length=m.rs.en:=h.rs.e.len
 have lc:c.rs.cursor.length=m.rs.cn:=by have:=h.rs.c.1;rw[byV_len] at this;omega
 have ll:c.log.length=m.ln:=h.lg.len
 refine⟨shortQ_of (by omega),fun hm=>?_,fun hm=>?_⟩
 ·have F:=FitQ.of h.rs hm
  have h1:=entsB_le c.rs.ents F.all
  have h2:=F.cn
  rw[resL_len]
  omega
 have:=logB_le c.log h.lg.each hm
 omega
theorem mayF_of {x:Int}{m:MV}{c:MC}(hf:FitsM m c)(hs:m.sn≤4194304)(hb:mayFb x m c=true):MayF x m c:=by
 refine⟨fun e=>?_,fun e=>?_,fun e=>?_,fun _=>hs,fun e=>?_,fun e=>?_⟩
 ·subst e
  have h1:(decide (0≤m.fr)&&decide (m.fr<7))=true:=hb
  simpa using h1
 ·subst e;exact hb
 ·subst e
  have h1:mayRes m.rs c.rs=true:=hb
  exact⟨h1,hf.rl h1⟩
 ·subst e
  have h1:(!(c.log.any fun u=>!mayOp u.1.op u.2)&&decide (m.ln≤4096))=true:=hb
  rw[Bool.and_eq_true] at h1
  have h2:∀p∈c.log,mayOp p.1.op p.2=true:=fun p hp=>by
   have:=List.any_eq_false.1 (by simpa using h1.1:(c.log.any fun u=>!mayOp u.1.op u.2)=false) p hp
   simpa using this
  exact⟨h2,hf.lg h2,of_decide_eq_true h1.2⟩
 subst e
 exact of_decide_eq_true hb
theorem mayM_of {W:World}{m:MV}{c:MC}(h:MAt W m c)(hu:U64M m c)(hf:FitsM m c)(hs:m.sn≤4194304)(hn:lettersOf m.k m.wh≠[])(hall:∀x∈lettersOf m.k m.wh,mayFb x m c=true):MayM W m c:=by
 have hk:1≤m.k∧m.k≤12:=by
  rcases kinds m.k m.wh with h0 | h0
  ·exact absurd h0 hn
  omega
 exact⟨h,hu,hk,fun x hx=>mayF_of hf hs (hall x hx)⟩
theorem in_q {k:Int}{wh:Bool}(h:k=1∨k=3):(113:Int)∈lettersOf k wh:=by
 rcases h with rfl|rfl<;>cases wh<;>decide
theorem in_r {k:Int}{wh:Bool}(h:k=2):(114:Int)∈lettersOf k wh:=by
 subst h;cases wh<;>decide
theorem well_iff {W:World}{m:MV}{c:MC}(h:MAt W m c)(hs:m.sn≤4194304):wellM m c=true↔lettersOf m.k m.wh≠[]∧(∀x∈lettersOf m.k m.wh,mayFb x m c=true)∧sameMsg m c (keptM (lettersOf m.k m.wh) m) (keptC (lettersOf m.k m.wh) c)=true:=by
 constructor
 ·intro hw
  have F:=WellP.of hw
  refine⟨F.ls,fun x hx=>?_,F.same⟩
  unfold mayFb
  by_cases e102:x=102
  ·subst e102;rw[if_pos rfl,decide_eq_true F.f0,decide_eq_true F.f7];rfl
  rw[if_neg e102]
  by_cases e113:x=113
  ·subst e113;rw[if_pos rfl];exact F.rq (letters_q hx)
  rw[if_neg e113]
  by_cases e114:x=114
  ·subst e114;rw[if_pos rfl];exact F.rs (letters_r hx)
  rw[if_neg e114]
  by_cases e108:x=108
  ·subst e108
   rw[if_pos rfl,decide_eq_true F.ln,List.any_eq_false.2 (fun p hp=>by simp[F.log p hp])];rfl
  rw[if_neg e108]
  by_cases e101:x=101
  ·subst e101;rw[if_pos rfl];exact decide_eq_true F.hn
  rw[if_neg e101]
 rintro⟨h1,h2,h3⟩
 obtain⟨-,hag⟩:=same_iff.1 h3
 have hall:∀x∈lettersOf m.k m.wh,x∈allX:=allX_of
 have hz:∀x∈allX,x∉lettersOf m.k m.wh→agree x m c (bareM m.k) bareC=true:=fun x hx hn=>agree_trans (hag x hx) ((kept_in m c _ hall x hx (bareM m.k) bareC).2 hn)
 have lg:=h.lg.len
 have ls:=h.se.1
 rw[u64V_len] at ls
 have hfr:0≤m.fr∧m.fr<7:=by
  by_cases hm:(102:Int)∈lettersOf m.k m.wh
  ·have:(decide (0≤m.fr)&&decide (m.fr<7))=true:=h2 102 hm
   simpa using this
  have:m.fr=0:=of_decide_eq_true (hz 102 (by decide) hm)
  omega
 have hlog:(∀p∈c.log,mayOp p.1.op p.2=true)∧m.ln≤4096:=by
  by_cases hm:(108:Int)∈lettersOf m.k m.wh
  ·have h4:(!(c.log.any fun u=>!mayOp u.1.op u.2)&&decide (m.ln≤4096))=true:=h2 108 hm
   rw[Bool.and_eq_true] at h4
   refine⟨fun p hp=>?_,of_decide_eq_true h4.2⟩
   have:=List.any_eq_false.1 (by simpa using h4.1:(c.log.any fun u=>!mayOp u.1.op u.2)=false) p hp
   simpa using this
  have h4:sameLog c.log []=true:=hz 108 (by decide) hm
  have h5:=sameLog_len h4
  have h6:c.log=[]:=List.eq_nil_of_length_eq_zero h5
  rw[h6] at lg ⊢
  exact⟨fun p hp=>absurd hp List.not_mem_nil,by simp at lg;omega⟩
 have hsn:m.hn≤7:=by
  by_cases hm:(101:Int)∈lettersOf m.k m.wh
  ·exact of_decide_eq_true (show decide (m.hn≤7)=true from h2 101 hm)
  have h4:c.seen=[]:=of_decide_eq_true (show decide (c.seen=[])=true from hz 101 (by decide) hm)
  rw[h4] at ls
  simp at ls
  omega
 unfold wellM
 rw[decide_eq_true h1,h3,decide_eq_true hfr.1,decide_eq_true hfr.2,decide_eq_true hlog.2,decide_eq_true hs,decide_eq_true hsn,List.any_eq_false.2 (fun p hp=>by simp[hlog.1 p hp])]
 simp only[Bool.true_and,Bool.not_false]
 by_cases hq:m.k=1∨m.k=3
 ·rw[if_pos hq];exact h2 113 (in_q hq)
 rw[if_neg hq]
 by_cases hr:m.k=2
 ·rw[if_pos hr];exact h2 114 (in_r hr)
 rw[if_neg hr]
end Go.Proofs.YtfmmandlmbcncaaGreatDoor.Msg
namespace Go.Proofs.YtfmmandlmbcncaaGreatDoor.Tlv
open Go.RowKit Go.Proofs.YtfmmandlmbcncaaGreatDoor.Mem
end Go.Proofs.YtfmmandlmbcncaaGreatDoor.Tlv
namespace Go.Proofs.YtfmmandlmbcncaaGreatDoor.Msg
open Go.RowKit Go.Lib Go.Proofs.YtfmmandlmbcncaaGreatDoor.Mem Go.Proofs.YtfmmandlmbcncaaGreatDoor.Tlv
theorem rowT_not_msg:¬RowT 59:=fun h=>by rcases h with h | h | h | h | h | h<;>exact absurd h (by decide)
theorem exec_load_row {P:Program}{o:Oper}{a:Act}{w:World}{t ty:TypeId}{p:Operand}{g:Nat}{cs:Array Value}{fr:Nat×Nat}
  (hg:w.heap[g]?=some (.cells cs t fr)) (hop:o.op=.load ty p) (hp:a.eval p=.pointer (some ⟨g,0,none⟩)) (hu:isRowT P ty=true) (hi:(P.info? ty).map (·.size)=some cs.size):(execOp a.eval o).run P w=.ok (.value (.agg cs)) w:=by
 obtain⟨d,h1,h2⟩:=isRowT_d hu
 have hl:(Instr.loadAt ty (.pointer (some ⟨g,0,none⟩))).run P w=.ok (.agg cs) w:=by
  simp only[Instr.loadAt,Instr.sureAddr,Sem.run_bind,Sem.run_pure,Result.andThen]
  cases d<;>first | exact run_loadVar_row w g t ty cs fr _ hg h1 rfl hi | cases h2
 unfold execOp
 rw[hop]
 simp only[hp,Sem.run_bind,hl,Result.andThen,Sem.run_pure]
def setRq (W:World)(b:Nat)(r:RV):World:=((((((((W.setCell ⟨b,6,none⟩ (.int .u64 r.cl)).setCell ⟨b,7,none⟩ (.int .u64 r.nu)).setCell ⟨b,8,none⟩ (.int .i64 r.op.k)).setCell ⟨b,9,none⟩ (.string r.op.name)).setCell ⟨b,10,none⟩ (.string r.op.to)).setCell ⟨b,11,none⟩ (.slice r.op.ao r.op.an r.op.ac)).setCell ⟨b,12,none⟩ (.slice r.op.bo r.op.bn r.op.bc)).setCell ⟨b,13,none⟩ (.slice r.op.co r.op.cn r.op.cc)).setCell ⟨b,14,none⟩ (.int .i64 r.op.n)
theorem setRq_at {W:World}{b:Nat}{m:MV}{r:RV}(h:W.heap[b]?=some m.box):(setRq W b r).heap[b]?=some (MV.box { m with rq:=r }):=by
 unfold MV.box MV.cells at h
 have h0:=at_set (i:=6) (x:=.int .u64 r.cl) h
 have h1:=at_set (i:=7) (x:=.int .u64 r.nu) h0
 have h2:=at_set (i:=8) (x:=.int .i64 r.op.k) h1
 have h3:=at_set (i:=9) (x:=.string r.op.name) h2
 have h4:=at_set (i:=10) (x:=.string r.op.to) h3
 have h5:=at_set (i:=11) (x:=.slice r.op.ao r.op.an r.op.ac) h4
 have h6:=at_set (i:=12) (x:=.slice r.op.bo r.op.bn r.op.bc) h5
 have h7:=at_set (i:=13) (x:=.slice r.op.co r.op.cn r.op.cc) h6
 have h8:=at_set (i:=14) (x:=.int .i64 r.op.n) h7
 exact h8.trans (by kernel_rfl)
theorem setRq_belX {M:Nat}{ys:List Nat}{a:World}{b:Nat}{r:RV}(hb:b∈ys∨M≤b):BelX M ys a (setRq a b r):=(((((((((BelX.refl M ys a).set b 6 _ hb).set b 7 _ hb).set b 8 _ hb).set b 9 _ hb).set b 10 _ hb).set b 11 _ hb).set b 12 _ hb).set b 13 _ hb).set b 14 _ hb
def setRs (W:World)(b:Nat)(q:QV):World:=(((W.setCell ⟨b,15,none⟩ (.int .i64 q.code)).setCell ⟨b,16,none⟩ (.bool q.yes)).setCell ⟨b,17,none⟩ (.slice q.eo q.en q.ec)).setCell ⟨b,18,none⟩ (.slice q.co q.cn q.cc)
theorem setRs_at {W:World}{b:Nat}{m:MV}{q:QV}(h:W.heap[b]?=some m.box):(setRs W b q).heap[b]?=some (MV.box { m with rs:=q }):=by
 unfold MV.box MV.cells at h
 have h0:=at_set (i:=15) (x:=.int .i64 q.code) h
 have h1:=at_set (i:=16) (x:=.bool q.yes) h0
 have h2:=at_set (i:=17) (x:=.slice q.eo q.en q.ec) h1
 have h3:=at_set (i:=18) (x:=.slice q.co q.cn q.cc) h2
 exact h3.trans (by kernel_rfl)
theorem setRs_belX {M:Nat}{ys:List Nat}{a:World}{b:Nat}{q:QV}(hb:b∈ys∨M≤b):BelX M ys a (setRs a b q):=((((BelX.refl M ys a).set b 15 _ hb).set b 16 _ hb).set b 17 _ hb).set b 18 _ hb
section
variable {B g ob nb rb:Nat} {w:World} {T:Option Addr} {l8:List UInt8} {tc:Nat} {o:MV} {c:MC} {s:RS} {W W':World}
end
theorem fieldL_other (x y:Int)(m0 m:MV)(c0 c:MC)(hx:x∈allX)(hy:y∈allX)(hne:x≠y):fieldL x (setF y m0 m) (setC y c0 c)=fieldL x m0 c0:=by
 simp only[allX,List.mem_cons,List.not_mem_nil,or_false] at hx hy
 rcases hx with rfl|rfl|rfl|rfl|rfl|rfl|rfl|rfl|rfl|rfl|rfl|rfl|rfl|rfl|rfl
 all_goals
  rcases hy with rfl|rfl|rfl|rfl|rfl|rfl|rfl|rfl|rfl|rfl|rfl|rfl|rfl|rfl|rfl<;>first | exact absurd rfl hne | rfl
theorem mayG_other (x y:Int)(m0 m:MV)(c0 c:MC)(hy:y∈allX)(hne:x≠y)(h:MayG x m0 c0):MayG x (setF y m0 m) (setC y c0 c):=by
 simp only[allX,List.mem_cons,List.not_mem_nil,or_false] at hy
 refine⟨fun e=>?_,fun e=>?_,fun e=>?_,fun e=>?_,fun e=>?_,fun e=>?_⟩
 ·have k:=h.fr e
  subst e
  rcases hy with rfl|rfl|rfl|rfl|rfl|rfl|rfl|rfl|rfl|rfl|rfl|rfl|rfl|rfl|rfl<;>first | exact absurd rfl hne | exact k
 ·have k:=h.rq e
  subst e
  rcases hy with rfl|rfl|rfl|rfl|rfl|rfl|rfl|rfl|rfl|rfl|rfl|rfl|rfl|rfl|rfl<;>first | exact absurd rfl hne | exact k
 ·have k:=h.rs e
  subst e
  rcases hy with rfl|rfl|rfl|rfl|rfl|rfl|rfl|rfl|rfl|rfl|rfl|rfl|rfl|rfl|rfl<;>first | exact absurd rfl hne | exact k
 ·have k:=h.sn e
  subst e
  rcases hy with rfl|rfl|rfl|rfl|rfl|rfl|rfl|rfl|rfl|rfl|rfl|rfl|rfl|rfl|rfl<;>first | exact absurd rfl hne | exact k
 ·have k:=h.log e
  subst e
  rcases hy with rfl|rfl|rfl|rfl|rfl|rfl|rfl|rfl|rfl|rfl|rfl|rfl|rfl|rfl|rfl<;>first | exact absurd rfl hne | exact k
 have k:=h.seen e
 subst e
 rcases hy with rfl|rfl|rfl|rfl|rfl|rfl|rfl|rfl|rfl|rfl|rfl|rfl|rfl|rfl|rfl<;>first | exact absurd rfl hne | exact k
def NilS (ls:List Int)(o:MV):Prop:=((108:Int)∉ls→o.lo=none∧o.ln=0∧o.lc=0)∧((101:Int)∉ls→o.ho=none∧o.hn=0∧o.hc=0)
theorem NilS.set {ls:List Int}{o m:MV}{x:Int}(h:NilS ls o)(hx:x∈allX):NilS (ls++[x]) (setF x o m):=by
 simp only[allX,List.mem_cons,List.not_mem_nil,or_false] at hx
 constructor
 ·intro hn
  have h1:=h.1 (fun hm=>hn (List.mem_append_left _ hm))
  rcases hx with rfl|rfl|rfl|rfl|rfl|rfl|rfl|rfl|rfl|rfl|rfl|rfl|rfl|rfl|rfl<;>first | exact absurd (List.mem_append_right ls (List.mem_singleton.2 rfl)) hn | exact h1
 intro hn
 have h1:=h.2 (fun hm=>hn (List.mem_append_left _ hm))
 rcases hx with rfl|rfl|rfl|rfl|rfl|rfl|rfl|rfl|rfl|rfl|rfl|rfl|rfl|rfl|rfl<;>first | exact absurd (List.mem_append_right ls (List.mem_singleton.2 rfl)) hn | exact h1
theorem letters_nodup (k:Int)(wh:Bool):(lettersOf k wh).Nodup:=List.Pairwise.filter _ (by unfold allX;decide)
theorem take_nin {l:List Int}(hl:l.Nodup){j:Nat}{x:Int}(hx:l[j]?=some x):x∉l.take j:=by
 intro hm
 obtain⟨i,hi,e⟩:=List.getElem_of_mem hm
 rw[List.getElem_take] at e
 obtain⟨hj,ej⟩:=List.getElem?_eq_some_iff.1 hx
 rw[List.length_take] at hi
 exact List.pairwise_iff_getElem.1 hl i j (by omega) hj (by omega) (e.trans ej.symm)
theorem tag_tagR (s:RS):s.tag=s.tagR:=by
 unfold RS.tag RS.tagR
 by_cases h1:s.bad=true
 ·rw[if_pos h1,if_pos (.inl h1)]
 by_cases h2:fs s.l=0
 ·rw[if_neg h1,if_pos h2,if_pos (.inr h2)]
 rw[if_neg h1,if_neg h2,if_neg (by simp[h1,h2])]
theorem numR_lt (s:RS)(t:UInt8):(s.num t).1<18446744073709551616:=by
 unfold RS.num
 split
 ·show 0<18446744073709551616;decide
 split
 ·exact numK_lt _ 8
 show 0<18446744073709551616;decide
structure MTyP (W:World)(m:MV)(c:MC):Prop where
 rq:OpTy W m.rq.op
 rs:QTy W m.rs c.rs
 sn:TyX 5 W m.so m.sc
 lo:TyX 55 W m.lo m.lc
 log:∀p∈c.log,OpTy W p.1.op
 ho:TyX 22 W m.ho m.hc
theorem LgAt.kpm {a b:World}{ao:Option Addr}{n cap:Nat}{l:List RP}(h:LgAt a ao n cap l)(hy:TyX 55 a ao cap)(hyo:∀p∈l,OpTy a p.1.op)(hk:KeepM a b):LgAt b ao n cap l:=
 ⟨rd_kpm rowT_req h.r hy hk,fun p hp=>(h.each p hp).kpr (hyo p hp) hk.kr⟩
theorem MTyP.kpm {a b:World}{m:MV}{c:MC}(h:MTyP a m c)(hk:KeepM a b):MTyP b m c:=
 ⟨h.rq.kpr hk.kr,h.rs.kpm hk,h.sn.kpm rowT_u8 hk,h.lo.kpm rowT_req hk,fun p hp=>(h.log p hp).kpr hk.kr,h.ho.kpm rowT_u64 hk⟩
theorem MAt.kpm {a b:World}{m:MV}{c:MC}(h:MAt a m c)(hy:MTyP a m c)(hk:KeepM a b):MAt b m c:=
 ⟨h.rq.kpr hy.rq hk.kr,h.rs.kpm hy.rs hk,rd_kpm rowT_u8 h.sn hy.sn hk,h.lg.kpm hy.lo hy.log hk,rd_kpm rowT_u64 h.se hy.ho hk,h.ls,h.lh⟩
structure RdM (B g ob:Nat)(w:World)(o:MV)(c:MC)(s:RS)(W:World):Prop where
 rd:RdS B g s W
 X:BelX w.heap.size [g,ob] w W
 q:W.heap[ob]?=some o.box
 at_:MAt W o c
 u:U64M o c
 ty:MTyP W o c
 fr:0≤o.fr∧o.fr<7
 cnt:s.bad=false→o.ln≤4096∧o.hn≤7
 gw:g<w.heap.size
 ow:ob<w.heap.size
 ne:g≠ob
section
variable {B g ob:Nat} {w:World} {o o' m:MV} {c c' d:MC} {s s':RS} {W W' W1:World}
theorem RdM.lt (h:RdM B g ob w o c s W):g<W.heap.size∧ob<W.heap.size:=⟨by obtain⟨_,_,h⟩:=h.rd;exact h.lt,(Array.getElem?_eq_some_iff.1 h.q).1⟩
theorem RdM.kg (h:RdM B g ob w o c s W)(hg:W.grownBy W' (some g)):KeepM W W':=by
 obtain⟨_,_,hr⟩:=h.rd
 exact KeepM.grown hg hr.at_ rowT_not_rdr
theorem RdM.grown (h:RdM B g ob w o c s W)(hg:W.grownBy W' (some g))(hr:RdS B g s' W')(hb:s'.bad=false→s.bad=false):RdM B g ob w o c s' W':=by
 have hk:=h.kg hg
 have hX:BelX W.heap.size [g] W W':=BelX.of_grown hg
 have hne:ob∉[g]:=fun hm=>h.ne (List.mem_singleton.1 hm).symm
 exact⟨hr,h.X.trans (hX.mono h.X.size (fun k hk _=>by rw[List.mem_singleton.1 hk];simp)),hX.at_ h.q h.lt.2 hne,h.at_.kpm h.ty hk,h.u,h.ty.kpm hk,h.fr,fun e=>h.cnt (hb e),h.gw,h.ow,h.ne⟩
theorem RdM.later (h:RdM B g ob w o c s W)(hb:Below W.heap.size W W'):RdM B g ob w o c s W':=h.grown (grown_any hb _) (h.rd.later hb) id
theorem RdM.not_u8 {cs:Array Value}{t:TypeId}{fr:Nat×Nat}(ht:¬RowT t):∀(c:Array Value) (fr':Nat×Nat),(Obj.cells cs t fr)≠.cells c 5 fr':=fun c fr' e=>by cases e;exact ht rowT_u8
theorem RdM.ko (h:RdM B g ob w o c s W)(hX:BelX W.heap.size [ob] W W'):KeepM W W':=KeepM.of_belX hX (fun k hk=>by
 rw[List.mem_singleton.1 hk]
 exact⟨_,h.q,fun c t fr ht e=>by cases e;exact rowT_not_msg ht⟩)
theorem RdM.box (h:RdM B g ob w o c s W)(hX:BelX W.heap.size [ob] W W')(hq:W'.heap[ob]?=some o'.box)(hat:MAt W' o' c')(hu:U64M o' c')(hty:MTyP W' o' c')(hfr:0≤o'.fr∧o'.fr<7)(hcnt:s.bad=false→o'.ln≤4096∧o'.hn≤7):RdM B g ob w o' c' s W':=by
 have hrf:RdS B g s W':=RdS.belX h.rd hX (fun hm=>h.ne (List.mem_singleton.1 hm)) (fun k hk=>by rw[List.mem_singleton.1 hk];exact⟨_,h.q,RdM.not_u8 rowT_not_msg⟩)
 exact⟨hrf,h.X.trans (hX.mono h.X.size (fun k hk _=>by rw[List.mem_singleton.1 hk];simp)),hq,hat,hu,hty,hfr,hcnt,h.gw,h.ow,h.ne⟩
theorem RdM.turn (h:RdM B g ob w o c s W)(hX:BelX W.heap.size [g,ob] W W')(hr:RdS B g s' W')(hq:W'.heap[ob]?=some o'.box)(hat:MAt W' o' c')(hu:U64M o' c')(hty:MTyP W' o' c')(hfr:0≤o'.fr∧o'.fr<7)(hcnt:s'.bad=false→o'.ln≤4096∧o'.hn≤7):RdM B g ob w o' c' s' W':=
 ⟨hr,h.X.trans (hX.mono h.X.size (fun _ hk _=>hk)),hq,hat,hu,hty,hfr,hcnt,h.gw,h.ow,h.ne⟩
def SwP (B g ob:Nat)(w:World)(x:Int)(o:MV)(c:MC)(s:RS)(W W':World):Prop:=BelX W.heap.size [g,ob] W W'∧∃(m:MV) (d:MC) (s':RS),RdM B g ob w (setF x o m) (setC x c d) s' W'∧StepX x s (setF x o m) (setC x c d) s'
theorem belX2 (h:BelX W.heap.size [g] W W1)(h':BelX W1.heap.size [ob] W1 W'):BelX W.heap.size [g,ob] W W':=
 (h.mono (Nat.le_refl _) (fun k hk _=>by rw[List.mem_singleton.1 hk];simp)).trans (h'.mono h.size (fun k hk _=>by rw[List.mem_singleton.1 hk];simp))
theorem RdM.put {x:Int}{i:Nat}{v:Value}(h:RdM B g ob w o c s W)(hg:W.grownBy W1 (some g))(hr:RdS B g s' W1)(S:StepX x s (setF x o m) (setC x c d) s')
  (hbox:(match o.box with | .cells cs t fr=>Obj.cells (cs.setIfInBounds i v) t fr | o=>o)=(setF x o m).box) (hat:MAt W1 (setF x o m) (setC x c d)) (hu:U64M (setF x o m) (setC x c d)) (hty:MTyP W1 (setF x o m) (setC x c d)) (hfr:0≤(setF x o m).fr∧(setF x o m).fr<7) (hcnt:s'.bad=false→(setF x o m).ln≤4096∧(setF x o m).hn≤7) :
  SwP B g ob w x o c s W (W1.setCell ⟨ob,i,none⟩ v):=by
 have h1:=h.grown hg hr (fun e=>(S.yes e).1)
 have hX:BelX W1.heap.size [ob] W1 (W1.setCell ⟨ob,i,none⟩ v):=(BelX.refl _ _ _).set _ _ _ (.inl (by simp))
 have hk:=h1.ko hX
 have hq:=at_set (i:=i) (x:=v) h1.q
 exact⟨belX2 (BelX.of_grown hg) hX,m,d,s',h1.box hX (hq.trans (congrArg some hbox)) (hat.kpm hty hk) hu (hty.kpm hk) hfr hcnt,S⟩
theorem RdM.num {x:Int}{i:Nat}{v:Value}(h:RdM B g ob w o c s W)(hg:W.grownBy W1 (some g))(hr:RdS B g s' W1)(S:StepX x s (setF x o m) (setC x c c) s')
  (hbox:(match o.box with | .cells cs t fr=>Obj.cells (cs.setIfInBounds i v) t fr | o=>o)=(setF x o m).box) (hat:∀X,MAt X o c→MAt X (setF x o m) (setC x c c)) (hu:U64M (setF x o m) (setC x c c)) (hty:∀X,MTyP X o c→MTyP X (setF x o m) (setC x c c)) (hfr:0≤(setF x o m).fr∧(setF x o m).fr<7) (hl:(setF x o m).ln=o.ln) (hh:(setF x o m).hn=o.hn) :
  SwP B g ob w x o c s W (W1.setCell ⟨ob,i,none⟩ v):=
 h.put hg hr S hbox (hat _ (h.at_.kpm h.ty (h.kg hg))) hu (hty _ (h.ty.kpm (h.kg hg))) hfr (fun e=>by rw[hl,hh];exact h.cnt (S.yes e).1)
end
def elQ (p:RP):List UInt8:=val 1 (reqL p.1 (opL p.1.op p.2))
structure mayQ (p:RP):Prop where
 may:mayOp p.1.op p.2=true
 len:(reqL p.1 (opL p.1.op p.2)).length≤4194304
 u:U64R p.1
 at_:∃W:World,OpAt W p.1.op p.2
theorem elQ_pos (p:RP):0<(elQ p).length:=by unfold elQ;rw[val_len];omega
theorem elQ_inj (z z':RP)(r r':List UInt8)(h:mayQ z)(h':mayQ z')(e:elQ z++r=elQ z'++r'):r=r':=(val_inj (by decide) h.len h'.len e).2
theorem step_logP {s s':RS}{l:List RP}{o:MV}{c:MC}(T:Took (fun ys=>val 13 (flatE elQ ys)) (fun ys=>(∀y∈ys,mayQ y)∧ys.length≤4096∧(flatE elQ ys).length≤4194304) (fun ys=>(∀y∈ys,mayQ y)∧ys.length≤4096∧(flatE elQ ys).length≤4194304) s l s')(hc:c.log=l):StepX 108 s o c s' where
 yes:=fun h=>by
  obtain⟨a,b,g1,-,g2⟩:=T.yes h
  subst hc
  exact⟨a,b,⟨fun e=>absurd e (by decide),fun e=>absurd e (by decide),fun e=>absurd e (by decide),fun e=>absurd e (by decide),fun _=>⟨fun p hp=>(g1 p hp).may,g2⟩,fun e=>absurd e (by decide)⟩⟩
 go:=fun hb W m d r h1 h2 h3 e=>by
  obtain⟨hm,hz,hn⟩:=h3.log rfl
  refine took_go T (fun z r r' hz hg e=>(val_inj (by decide) hg.2.2 hz.2.2 e).2) hb (z:=d.log) ⟨fun p hp=>⟨hm p hp,?_,h2.log p hp,W,h1.lg.each p hp⟩,by rw[h1.lg.len];exact hn,hz⟩ e
  have:=opL_len (h1.lg.each p hp) (hm p hp)
  rw[reqL_len]
  omega
 le:=T.le
def elN (n:Nat):List UInt8:=val 1 (num8 n)
def mayN (n:Nat):Prop:=n<18446744073709551616
theorem flatE_seen (l:List Nat):flatE elN l=seenB l:=rfl
theorem elN_pos (n:Nat):0<(elN n).length:=by unfold elN;rw[val_len];omega
theorem elN_inj (z z':Nat)(r r':List UInt8)(_:mayN z)(_:mayN z')(e:elN z++r=elN z'++r'):r=r':=(val_inj (by decide) (by rw[num8_len];omega) (by rw[num8_len];omega) e).2
theorem step_seenP {s s':RS}{l:List Nat}{o:MV}{c:MC}(T:Took (fun ys=>val 16 (flatE elN ys)) (fun ys=>(∀y∈ys,mayN y)∧ys.length≤7∧(flatE elN ys).length≤4194304) (fun ys=>(∀y∈ys,mayN y)∧ys.length≤7∧(flatE elN ys).length≤4194304) s l s')(hc:c.seen=l):StepX 101 s o c s' where
 yes:=fun h=>by
  obtain⟨a,b,-,-,g2⟩:=T.yes h
  subst hc
  exact⟨a,b,⟨fun e=>absurd e (by decide),fun e=>absurd e (by decide),fun e=>absurd e (by decide),fun e=>absurd e (by decide),fun e=>absurd e (by decide),fun _=>g2⟩⟩
 go:=fun hb W m d r h1 h2 h3 e=>by
  have hl:=h1.se.1
  rw[u64V_len] at hl
  have h7:=h3.seen rfl
  exact took_go T (fun z r r' hz hg e=>(val_inj (by decide) hg.2.2 hz.2.2 e).2) hb (z:=d.seen) ⟨h2.seen,by omega,by rw[flatE_seen,seenB_len];omega⟩ e
 le:=T.le
end Go.Proofs.YtfmmandlmbcncaaGreatDoor.Msg
