/-
  A part of the proof.
-/
import Derived.Test.YtfmmandlmbcncaaGreatDoorKbbj
import Derived.Test.YtfmmandlmbcncaaGreatDoorKbbe
import Derived.Test.YtfmmandlmbcncaaGreatDoorKbaz
import Derived.Test.YtfmmandlmbcncaaGreatDoorKbay
import Derived.Test.YtfmmandlmbcncaaGreatDoorKbbh
import Derived.Test.YtfmmandlmbcncaaGreatDoorKban
import Derived.Test.YtfmmandlmbcncaaGreatDoorKbbf
import Derived.Test.YtfmmandlmbcncaaGreatDoorKbaj
set_option maxHeartbeats 40000000
namespace Go.Proofs.YtfmmandlmbcncaaGreatDoor.Msg
open Go.RowKit Go.Lib Go.Proofs.YtfmmandlmbcncaaGreatDoor.Mem Go.Proofs.YtfmmandlmbcncaaGreatDoor.Tlv
def agree (x:Int)(m:MV)(c:MC)(m':MV)(c':MC):Bool:=
 if x=118 then decide (m.vi=m'.vi)
 else if x=110 then decide (m.no=m'.no)
 else if x=102 then decide (m.fr=m'.fr)
 else if x=99 then decide (m.cl=m'.cl)
 else if x=117 then decide (m.nu=m'.nu)
 else if x=113 then sameReq m.rq c.rq m'.rq c'.rq
 else if x=114 then sameRes m.rs c.rs m'.rs c'.rs
 else if x=97 then decide (m.at_=m'.at_)
 else if x=109 then decide (m.cm=m'.cm)
 else if x=98 then decide (m.bs=m'.bs)
 else if x=115 then decide (c.snap=c'.snap)
 else if x=108 then sameLog c.log c'.log
 else if x=111 then decide (m.nc=m'.nc)
 else if x=119 then decide (m.wh=m'.wh)
 else decide (c.seen=c'.seen)
theorem num_inj {t:UInt8}{a b:Int}{r r':List UInt8}(ht:0<t.toNat)(ha:0≤a∧a<18446744073709551616)(hb:0≤b∧b<18446744073709551616)(h:val t (num8 a.toNat)++r=val t (num8 b.toNat)++r'):a=b∧r=r':=by
 obtain⟨h1,h2⟩:=val_inj ht (by rw[num8_len];omega) (by rw[num8_len];omega) h
 have:=num8_inj (by omega) (by omega) h1
 exact⟨by omega,h2⟩
theorem seenB_inj:∀(l l':List Nat),(∀n∈l,n<18446744073709551616)→(∀n∈l',n<18446744073709551616)→seenB l=seenB l'→l=l'
 | [],[],_,_,_=>rfl
 | [],n::l',_,_,h=>by have:=congrArg List.length h;rw[seenB_cons,List.length_append,val_len] at this;simp[seenB] at this;omega
 | n::l,[],_,_,h=>by have:=congrArg List.length h;rw[seenB_cons,List.length_append,val_len] at this;simp[seenB] at this
 | n::l,n'::l',hl,hl',h=>by
  rw[seenB_cons,seenB_cons] at h
  obtain⟨h1,h2⟩:=val_inj (by decide) (by rw[num8_len];omega) (by rw[num8_len];omega) h
  have e:=num8_inj (hl n (by simp)) (hl' n' (by simp)) h1
  rw[e,seenB_inj l l' (fun k hk=>hl k (by simp[hk])) (fun k hk=>hl' k (by simp[hk])) h2]
theorem logB_inj {W W':World}:∀(l l':List RP),(∀p∈l,OpAt W p.1.op p.2∧mayOp p.1.op p.2=true∧U64R p.1)→(∀p∈l',OpAt W' p.1.op p.2∧mayOp p.1.op p.2=true∧U64R p.1)→logB l=logB l'→sameLog l l'=true
 | [],[],_,_,_=>rfl
 | [],p::l',_,_,h=>by have:=congrArg List.length h;rw[logB_cons,List.length_append,val_len] at this;simp[logB] at this;omega
 | p::l,[],_,_,h=>by have:=congrArg List.length h;rw[logB_cons,List.length_append,val_len] at this;simp[logB] at this
 | p::l,p'::l',hl,hl',h=>by
  obtain⟨a1,a2,a3⟩:=hl p (by simp)
  obtain⟨b1,b2,b3⟩:=hl' p' (by simp)
  have s1:=opL_len a1 a2
  have s2:=opL_len b1 b2
  rw[logB_cons,logB_cons] at h
  obtain⟨h1,h2⟩:=val_inj (by decide) (by rw[reqL_len];omega) (by rw[reqL_len];omega) h
  obtain⟨e1,e2,e3⟩:=req_inj a1 b1 a2 b2 a3 b3 h1
  have ih:=logB_inj l l' (fun q hq=>hl q (by simp[hq])) (fun q hq=>hl' q (by simp[hq])) h2
  show (sameReq p.1 p.2 p'.1 p'.2&&sameLog l l')=true
  rw[ih]
  unfold sameReq
  rw[decide_eq_true e1,decide_eq_true e2,e3]
  rfl
structure MayG (x:Int)(m:MV)(c:MC):Prop where
 fr:x=102→0≤m.fr∧m.fr<18446744073709551616
 rq:x=113→mayOp m.rq.op c.rq=true
 rs:x=114→mayRes m.rs c.rs=true∧(resL m.rs c.rs).length≤4194304
 sn:x=115→c.snap.length≤4194304
 log:x=108→(∀p∈c.log,mayOp p.1.op p.2=true)∧(logB c.log).length≤4194304
 seen:x=101→(seenB c.seen).length≤4194304
theorem MayF.g {W:World}{x:Int}{m:MV}{c:MC}(h:MayF x m c)(hm:MAt W m c):MayG x m c:=
 ⟨fun e=>by have:=h.fr e;omega,h.rq,h.rs,fun e=>by have:=h.sn e;have l1:=hm.sn.1;rw[byV_len] at l1;omega,fun e=>⟨(h.log e).1,(h.log e).2.1⟩,fun e=>by have:=h.seen e;have l1:=hm.se.1;rw[u64V_len] at l1;rw[seenB_len];omega⟩
theorem field_inj {W W':World}{x:Int}{m m':MV}{c c':MC}{r r':List UInt8}(hx:x∈allX)(h:MAt W m c)(h':MAt W' m' c')(hu:U64M m c)(hu':U64M m' c')(f:MayG x m c)(f':MayG x m' c')
  (e:fieldL x m c++r=fieldL x m' c'++r'):agree x m c m' c'=true∧r=r':=by
 simp only[allX,List.mem_cons,List.not_mem_nil,or_false] at hx
 rcases hx with rfl|rfl|rfl|rfl|rfl|rfl|rfl|rfl|rfl|rfl|rfl|rfl|rfl|rfl|rfl
 ·obtain⟨h1,h2⟩:=num_inj (t:=2) (a:=m.vi) (b:=m'.vi) (by decide) hu.vi hu'.vi e
  exact⟨decide_eq_true h1,h2⟩
 ·obtain⟨h1,h2⟩:=num_inj (t:=3) (a:=m.no) (b:=m'.no) (by decide) hu.no hu'.no e
  exact⟨decide_eq_true h1,h2⟩
 ·obtain⟨h1,h2⟩:=num_inj (t:=4) (a:=m.fr) (b:=m'.fr) (by decide) (by have:=f.fr rfl;omega) (by have:=f'.fr rfl;omega) e
  exact⟨decide_eq_true h1,h2⟩
 ·obtain⟨h1,h2⟩:=num_inj (t:=5) (a:=m.cl) (b:=m'.cl) (by decide) hu.cl hu'.cl e
  exact⟨decide_eq_true h1,h2⟩
 ·obtain⟨h1,h2⟩:=num_inj (t:=6) (a:=m.nu) (b:=m'.nu) (by decide) hu.nu hu'.nu e
  exact⟨decide_eq_true h1,h2⟩
 ·have s1:=opL_len h.rq (f.rq rfl)
  have s2:=opL_len h'.rq (f'.rq rfl)
  obtain⟨h1,h2⟩:=val_inj (t:=7) (by decide) (by rw[reqL_len];omega) (by rw[reqL_len];omega) e
  obtain⟨e1,e2,e3⟩:=req_inj h.rq h'.rq (f.rq rfl) (f'.rq rfl) hu.rq hu'.rq h1
  refine⟨?_,h2⟩
  show sameReq m.rq c.rq m'.rq c'.rq=true
  unfold sameReq
  rw[decide_eq_true e1,decide_eq_true e2,e3]
  rfl
 ·obtain⟨f1,f2⟩:=f.rs rfl
  obtain⟨g1,g2⟩:=f'.rs rfl
  obtain⟨h1,h2⟩:=val_inj (t:=8) (by decide) f2 g2 e
  exact⟨res_inj h.rs h'.rs f1 g1 h1,h2⟩
 ·obtain⟨h1,h2⟩:=num_inj (t:=9) (a:=m.at_) (b:=m'.at_) (by decide) hu.at_ hu'.at_ e
  exact⟨decide_eq_true h1,h2⟩
 ·obtain⟨h1,h2⟩:=num_inj (t:=10) (a:=m.cm) (b:=m'.cm) (by decide) hu.cm hu'.cm e
  exact⟨decide_eq_true h1,h2⟩
 ·obtain⟨h1,h2⟩:=num_inj (t:=11) (a:=m.bs) (b:=m'.bs) (by decide) hu.bs hu'.bs e
  exact⟨decide_eq_true h1,h2⟩
 ·obtain⟨h1,h2⟩:=val_inj (t:=12) (by decide) (f.sn rfl) (f'.sn rfl) e
  exact⟨decide_eq_true h1,h2⟩
 ·obtain⟨f1,f2⟩:=f.log rfl
  obtain⟨g1,g2⟩:=f'.log rfl
  obtain⟨h1,h2⟩:=val_inj (t:=13) (by decide) f2 g2 e
  exact⟨logB_inj c.log c'.log (fun p hp=>⟨h.lg.each p hp,f1 p hp,hu.log p hp⟩) (fun p hp=>⟨h'.lg.each p hp,g1 p hp,hu'.log p hp⟩) h1,h2⟩
 ·obtain⟨h1,h2⟩:=num_inj (t:=14) (a:=m.nc) (b:=m'.nc) (by decide) hu.nc hu'.nc e
  exact⟨decide_eq_true h1,h2⟩
 ·obtain⟨h1,h2⟩:=val_inj (t:=15) (by decide) (by simp) (by simp) e
  refine⟨decide_eq_true ?_,h2⟩
  cases hw:m.wh<;>cases hw':m'.wh<;>rw[hw,hw'] at h1<;>first | rfl | (exact absurd h1 (by decide))
 obtain⟨h1,h2⟩:=val_inj (t:=16) (by decide) (f.seen rfl) (f'.seen rfl) e
 exact⟨decide_eq_true (seenB_inj _ _ hu.seen hu'.seen h1),h2⟩
theorem fields_inj {W W':World}{m m':MV}{c c':MC}(h:MAt W m c)(h':MAt W' m' c')(hu:U64M m c)(hu':U64M m' c'):∀(ls:List Int) (r r':List UInt8),(∀x∈ls,x∈allX)→(∀x∈ls,MayG x m c)→(∀x∈ls,MayG x m' c')→fieldsL ls m c++r=fieldsL ls m' c'++r'→(∀x∈ls,agree x m c m' c'=true)∧r=r'
 | [],_,_,_,_,_,e=>⟨fun x hx=>absurd hx List.not_mem_nil,e⟩
 | x::ls,r,r',ha,hf,hf',e=>by
  have e1:fieldsL (x::ls) m c=fieldL x m c++fieldsL ls m c:=rfl
  have e2:fieldsL (x::ls) m' c'=fieldL x m' c'++fieldsL ls m' c':=rfl
  rw[e1,e2,List.append_assoc,List.append_assoc] at e
  obtain⟨h1,h2⟩:=field_inj (ha x (by simp)) h h' hu hu' (hf x (by simp)) (hf' x (by simp)) e
  obtain⟨h3,h4⟩:=fields_inj h h' hu hu' ls r r' (fun y hy=>ha y (by simp[hy])) (fun y hy=>hf y (by simp[hy])) (fun y hy=>hf' y (by simp[hy])) h2
  exact⟨fun y hy=>by rcases List.mem_cons.1 hy with rfl | hy;exact h1;exact h3 y hy,h4⟩
theorem letters_wh {k:Int}(h:1≤k∧k≤12)(h10:k≠10):lettersOf k false=lettersOf k true:=by
 rcases (by omega:k=1∨k=2∨k=3∨k=4∨k=5∨k=6∨k=7∨k=8∨k=9∨k=11∨k=12) with rfl|rfl|rfl|rfl|rfl|rfl|rfl|rfl|rfl|rfl|rfl<;>rfl
theorem val_apart {t t':UInt8}{a b r r':List UInt8}(h:t≠t'):val t a++r≠val t' b++r':=fun e=>by
 have:=congrArg (fun l=>l[0]?) e
 simp[val] at this
 exact h this
theorem whole_apart {m m':MV}{c c':MC}{r r':List UInt8}(hu:U64M m c)(hu':U64M m' c')(hf:∀x∈lettersOf 10 false,MayG x m c)(hf':∀x∈lettersOf 10 true,MayG x m' c'):fieldsL (lettersOf 10 false) m c++r≠fieldsL (lettersOf 10 true) m' c'++r':=fun e=>by
 have e1:fieldsL (lettersOf 10 false) m c=val 2 (num8 m.vi.toNat)++(val 4 (num8 m.fr.toNat)++(val 14 (num8 m.nc.toNat)++fieldsL [119,101] m c)):=rfl
 have e2:fieldsL (lettersOf 10 true) m' c'=val 2 (num8 m'.vi.toNat)++(val 4 (num8 m'.fr.toNat)++(val 10 (num8 m'.cm.toNat)++fieldsL [98,115,108,111,119,101] m' c')):=rfl
 rw[e1,e2] at e
 simp only[List.append_assoc] at e
 obtain⟨-,h2⟩:=num_inj (t:=2) (a:=m.vi) (b:=m'.vi) (by decide) hu.vi hu'.vi e
 have f1:=(hf 102 (by decide)).fr rfl
 have f2:=(hf' 102 (by decide)).fr rfl
 obtain⟨-,h3⟩:=num_inj (t:=4) (a:=m.fr) (b:=m'.fr) (by decide) (by omega) (by omega) h2
 exact val_apart (by decide) h3
theorem msg_inj {W W':World}{m m':MV}{c c':MC}{r r':List UInt8}(h:MAt W m c)(h':MAt W' m' c')(hu:U64M m c)(hu':U64M m' c')(hk:1≤m.k∧m.k≤12)(hk':1≤m'.k∧m'.k≤12)
  (hf:∀x∈lettersOf m.k m.wh,MayG x m c) (hf':∀x∈lettersOf m'.k m'.wh,MayG x m' c') (e:msgL m c++r=msgL m' c'++r') :
  m.k=m'.k∧lettersOf m.k m.wh=lettersOf m'.k m'.wh∧(∀x∈lettersOf m.k m.wh,agree x m c m' c'=true)∧r=r':=by
 unfold msgL at e
 rw[List.append_assoc,List.append_assoc] at e
 obtain⟨h1,h2⟩:=num_inj (t:=1) (a:=m.k) (b:=m'.k) (by decide) (by omega) (by omega) e
 have hall:∀(k:Int) (wh:Bool),∀x∈lettersOf k wh,x∈allX:=fun k wh x hx=>(List.mem_filter.1 hx).1
 have key:lettersOf m.k m.wh=lettersOf m'.k m'.wh:=by
  rw[h1]
  rw[h1] at hf h2
  by_cases h10:m'.k=10
  ·rw[h10] at hf hf' h2 ⊢
   cases hw:m.wh<;>cases hw':m'.wh<;>rw[hw] at hf h2<;>rw[hw'] at hf' h2
   ·exact absurd h2 (whole_apart hu hu' hf hf')
   exact absurd h2.symm (whole_apart hu' hu hf' hf)
  have:=letters_wh hk' h10
  cases m.wh<;>cases m'.wh<;>first | rfl | exact this | exact this.symm
 refine⟨h1,key,?_⟩
 rw[←key] at h2 hf'
 exact fields_inj h h' hu hu' _ _ _ (hall _ _) hf hf' h2
end Go.Proofs.YtfmmandlmbcncaaGreatDoor.Msg
namespace Go.Proofs.YtfmmandlmbcncaaGreatDoor.Tlv
open Go.RowKit Go.Lib Go.Proofs.YtfmmandlmbcncaaGreatDoor.Mem
def RS.tagR (s:RS):UInt8:=if s.bad=true∨fs s.l=0 then 0 else (hd1 s.l).1
end Go.Proofs.YtfmmandlmbcncaaGreatDoor.Tlv
namespace Go.Proofs.YtfmmandlmbcncaaGreatDoor.Msg
open Go.RowKit Go.Lib Go.Proofs.YtfmmandlmbcncaaGreatDoor.Mem Go.Proofs.YtfmmandlmbcncaaGreatDoor.Tlv
structure MayM (W:World)(m:MV)(d:MC):Prop where
 at_:MAt W m d
 u:U64M m d
 k:1≤m.k∧m.k≤12
 may:∀x∈lettersOf m.k m.wh,MayF x m d
structure StepX (x:Int)(s:RS)(o:MV)(c:MC)(s':RS):Prop where
 yes:s'.bad=false→s.bad=false∧s.l=fieldL x o c++s'.l∧MayG x o c
 go:s.bad=false→∀(W:World) (m:MV) (d:MC) (r:List UInt8),MAt W m d→U64M m d→MayF x m d→s.l=fieldL x m d++r→s'.bad=false∧s'.l=r
 le:s'.l.length≤s.l.length
theorem took_go {α:Type}{body:α→List UInt8}{may good:α→Prop}{s s':RS}{y:α}(T:Took body may good s y s')(hinj:∀z r r',may z→good y→body y++r'=body z++r→r'=r)(hb:s.bad=false){z:α}{r:List UInt8}(hz:may z)(e:s.l=body z++r):s'.bad=false∧s'.l=r:=by
 cases h:s'.bad with
 | true=>
  rcases T.no h with h1 | h1
  ·rw[hb] at h1;cases h1
  exact absurd e (h1 z r hz)
 | false=>
  obtain⟨-,e2,g⟩:=T.yes h
  exact⟨rfl,hinj z r _ hz g (e2.symm.trans e)⟩
theorem step_num {x:Int}{t:UInt8}{s s':RS}{n:Nat}{o:MV}{c:MC}{f:MV→Int}(ht:0<t.toNat)(hf:∀m d,fieldL x m d=val t (num8 (f m).toNat))(hu:∀W m d,MAt W m d→U64M m d→MayF x m d→0≤f m∧f m<18446744073709551616)
  (T:Took (fun n:Nat=>val t (num8 n)) (fun n=>n<18446744073709551616) (fun n=>n<18446744073709551616) s n s') (ho:f o=(n:Int)) (hg:n<18446744073709551616→MayG x o c):StepX x s o c s' where
 yes:=fun h=>by
  obtain⟨a,b,g⟩:=T.yes h
  refine⟨a,?_,hg g⟩
  rw[hf,ho,Int.toNat_natCast]
  exact b
 go:=fun hb W m d r h1 h2 h3 e=>by
  obtain⟨u1,u2⟩:=hu W m d h1 h2 h3
  rw[hf] at e
  exact took_go T (fun z r r' _ _ e=>(val_inj ht (by rw[num8_len];omega) (by rw[num8_len];omega) e).2) hb (by omega) e
 le:=T.le
structure ReadM (s:RS)(k:Int)(ls:List Int)(j:Nat)(ch:Bool)(o:MV)(c:MC)(s':RS):Prop where
 yes:s'.bad=false→s.bad=false∧s.l=val 1 (num8 k.toNat)++(fieldsL (ls.take j) o c++s'.l)∧∀x∈ls.take j,MayG x o c
 go:s.bad=false→∀(W:World) (m:MV) (d:MC) (r:List UInt8),MayM W m d→s.l=msgL m d++r→m.k=k∧(lettersOf m.k m.wh).take j=ls.take j∧(ch=true→lettersOf m.k m.wh=ls)∧s'.bad=false∧s'.l=fieldsL ((lettersOf m.k m.wh).drop j) m d++r
 le:s'.l.length≤s.l.length
theorem ReadM.first {s s':RS}{n:Nat}{o:MV}{c:MC}(T:Took (fun n:Nat=>val 1 (num8 n)) (fun n=>n≤12) (fun n=>n<18446744073709551616) s n s')(hn:1≤n∧n≤12):ReadM s n (lettersOf n false) 0 (decide (n≠10)) o c s' where
 yes:=fun h=>by
  obtain⟨a,b,-⟩:=T.yes h
  exact⟨a,by rw[Int.toNat_natCast];simpa [fieldsL] using b,fun x hx=>by simp at hx⟩
 go:=fun hb W m d r hM e=>by
  have hk:=hM.k
  unfold msgL at e
  rw[List.append_assoc] at e
  obtain⟨h1,h2⟩:=took_go T (fun z r r' _ _ e=>(val_inj (by decide) (by rw[num8_len];omega) (by rw[num8_len];omega) e).2) hb (z:=m.k.toNat) (by omega) e
  obtain⟨-,e2,g⟩:=T.yes h1
  have e3:=num8_inj g (by omega) (val_inj (t:=1) (by decide) (by rw[num8_len];omega) (by rw[num8_len];omega) (e2.symm.trans e)).1
  have hkn:m.k=(n:Int):=by omega
  refine⟨hkn,rfl,fun hc=>?_,h1,h2⟩
  have h10:n≠10:=of_decide_eq_true hc
  rw[hkn]
  have:=letters_wh (k:=(n:Int)) (by omega) (by omega)
  cases m.wh
  ·rfl
  exact this.symm
 le:=T.le
theorem two10 (wh:Bool):(lettersOf 10 wh).take 2=[118,102]:=by cases wh<;>rfl
theorem ReadM.step {s s1 s2:RS}{k:Int}{ls:List Int}{j:Nat}{ch:Bool}{o o':MV}{c c':MC}{x:Int}(R:ReadM s k ls j ch o c s1)(hch:ch=true∨(k=10∧j<2∧ls=lettersOf 10 false))(hx:ls[j]?=some x)(S:StepX x s1 o' c' s2)
  (hkeep:∀y∈ls.take j,fieldL y o' c'=fieldL y o c∧(MayG y o c→MayG y o' c')):ReadM s k ls (j+1) ch o' c' s2 where
 yes:=fun h=>by
  obtain⟨a1,b1,g1⟩:=S.yes h
  obtain⟨a2,b2,g2⟩:=R.yes a1
  have e:fieldsL (ls.take j) o' c'=fieldsL (ls.take j) o c:=by
   unfold fieldsL
   rw[List.flatMap_def,List.flatMap_def]
   congr 1
   exact List.map_congr_left (fun y hy=>(hkeep y hy).1)
  refine⟨a2,?_,fun y hy=>?_⟩
  ·rw[List.take_add_one,hx,Option.toList_some,fieldsL_snoc,e,b2,b1]
   simp only[List.append_assoc]
  rw[List.take_add_one,hx] at hy
  rcases List.mem_append.1 hy with hy | hy
  ·exact (hkeep y hy).2 (g2 y hy)
  obtain rfl:y=x:=by simpa using hy
  exact g1
 go:=fun hb W m d r hM e=>by
  obtain⟨h1,h2,h3,h4,h5⟩:=R.go hb W m d r hM e
  have hxm:(lettersOf m.k m.wh)[j]?=some x:=by
   rcases hch with hc | ⟨h10,hj,hls⟩
   ·rw[h3 hc];exact hx
   rw[h1,h10]
   have a1:((lettersOf 10 m.wh).take 2)[j]?=(lettersOf 10 m.wh)[j]?:=List.getElem?_take_of_lt hj
   have a2:((lettersOf 10 false).take 2)[j]?=(lettersOf 10 false)[j]?:=List.getElem?_take_of_lt hj
   rw[two10] at a1 a2
   rw[←a1,a2,←hls]
   exact hx
  have hd:(lettersOf m.k m.wh).drop j=x::(lettersOf m.k m.wh).drop (j+1):=by
   obtain⟨hl,he⟩:=List.getElem?_eq_some_iff.1 hxm
   rw[List.drop_eq_getElem_cons hl,he]
  rw[hd] at h5
  have h6:s1.l=fieldL x m d++(fieldsL ((lettersOf m.k m.wh).drop (j+1)) m d++r):=by rw[h5];unfold fieldsL;rw[List.flatMap_cons,List.append_assoc]
  obtain⟨h7,h8⟩:=S.go h4 W m d _ hM.at_ hM.u (hM.may x (List.mem_of_getElem? hxm)) h6
  refine⟨h1,?_,h3,h7,h8⟩
  rw[List.take_add_one,List.take_add_one,h2,hxm,hx]
 le:=Nat.le_trans S.le R.le
theorem at_new (W:World)(o:Obj):(W.alloc o).heap[W.heap.size]?=some o:=by show (W.heap.push o)[W.heap.size]?=some o;exact Array.getElem?_push_size
def mayFb (x:Int)(m:MV)(c:MC):Bool:=
 if x=102 then decide (0≤m.fr)&&decide (m.fr<7)
 else if x=113 then mayOp m.rq.op c.rq
 else if x=114 then mayRes m.rs c.rs
 else if x=108 then !(c.log.any fun u=>!mayOp u.1.op u.2)&&decide (m.ln≤4096)
 else if x=101 then decide (m.hn≤7)
 else true
theorem McAt.op {W:World}{B:Nat}{m:MV}(h:McAt W B m):∀(j:Nat) (v:Value),m.rq.op.cells[j]?=some v→W.cell? ⟨B,8+j,none⟩=some v:=fun j v hv=>by
 have hj:j<7:=by
  have:=(Array.getElem?_eq_some_iff.1 hv).1
  simpa [OV.cells] using this
 have:=h.q (2+j) v (by rcases (by omega:j=0∨j=1∨j=2∨j=3∨j=4∨j=5∨j=6) with rfl|rfl|rfl|rfl|rfl|rfl|rfl<;>exact hv)
 rw[show 6+(2+j)=8+j by omega] at this
 exact this
theorem tagR_val (t:UInt8)(b r:List UInt8)(ht:0<t.toNat)(hb:b.length≤4194304):RS.tagR ⟨val t b++r,false⟩=t:=by
 unfold RS.tagR
 rw[if_neg (by
  rintro (h | h)
  ·cases h
  rw[fs_val t b r ht hb] at h;omega),hd1_val t b r ht hb]
theorem ReadM.choose {s s':RS}{o:MV}{c:MC}(R:ReadM s 10 (lettersOf 10 false) 2 false o c s'):ReadM s 10 (lettersOf 10 (decide (s'.tagR=10))) 2 true o c s' where
 yes:=fun h=>by
  obtain⟨a,b,g⟩:=R.yes h
  rw[two10] at b g ⊢
  exact⟨a,b,g⟩
 go:=fun hb W m d r hM e=>by
  obtain⟨h1,h2,-,h4,h5⟩:=R.go hb W m d r hM e
  have key:s'.tagR=10↔m.wh=true:=by
   have hs:s'=⟨s'.l,false⟩:=by rw[←h4]
   rw[hs,h5,h1]
   cases hw:m.wh with
   | true=>
    have e1:fieldsL ((lettersOf 10 true).drop 2) m d++r=val 10 (num8 m.cm.toNat)++(fieldsL [98,115,108,111,119,101] m d++r):=by
     rw[←List.append_assoc];rfl
    rw[e1,tagR_val _ _ _ (by decide) (by rw[num8_len];omega)]
    exact⟨fun _=>rfl,fun _=>rfl⟩
   | false=>
    have e1:fieldsL ((lettersOf 10 false).drop 2) m d++r=val 14 (num8 m.nc.toNat)++(fieldsL [119,101] m d++r):=by
     rw[←List.append_assoc];rfl
    rw[e1,tagR_val _ _ _ (by decide) (by rw[num8_len];omega)]
    exact⟨fun h=>absurd h (by decide),fun h=>by cases h⟩
  have hch:decide (s'.tagR=10)=m.wh:=by
   cases hw:m.wh with
   | true=>exact decide_eq_true (key.2 hw)
   | false=>exact decide_eq_false (fun h=>by rw[key.1 h] at hw;cases hw)
  refine⟨h1,by rw[two10,h2,two10],fun _=>by rw[h1,hch],h4,h5⟩
 le:=R.le
theorem step_snap {s s':RS}{y:List UInt8}{o:MV}{c:MC}(T:Took (val 12) (fun z=>z.length≤4194304) (fun z=>z.length≤4194304) s y s')(hc:c.snap=y):StepX 115 s o c s' where
 yes:=fun h=>by
  obtain⟨a,b,g⟩:=T.yes h
  refine⟨a,by show s.l=val 12 c.snap++s'.l;rw[hc];exact b,⟨fun e=>absurd e (by decide),fun e=>absurd e (by decide),fun e=>absurd e (by decide),fun _=>by rw[hc];exact g,fun e=>absurd e (by decide),fun e=>absurd e (by decide)⟩⟩
 go:=fun hb W m d r h1 h2 h3 e=>took_go T (fun z r r' hz hg e=>(val_inj (by decide) hg hz e).2) hb (h3.g h1 |>.sn rfl) e
 le:=T.le
theorem step_whole {s s':RS}{y:Bool}{o:MV}{c:MC}(T:Took (fun b:Bool=>val 15 [if b then 1 else 0]) (fun _=>True) (fun _=>True) s y s')(ho:o.wh=y):StepX 119 s o c s' where
 yes:=fun h=>by
  obtain⟨a,b,g⟩:=T.yes h
  refine⟨a,by show s.l=val 15 [if o.wh then 1 else 0]++s'.l;rw[ho];exact b,⟨fun e=>absurd e (by decide),fun e=>absurd e (by decide),fun e=>absurd e (by decide),fun e=>absurd e (by decide),fun e=>absurd e (by decide),fun e=>absurd e (by decide)⟩⟩
 go:=fun hb W m d r h1 h2 h3 e=>took_go T (fun z r r' _ _ e=>(val_inj (by decide) (by simp) (by simp) e).2) hb trivial (z:=m.wh) e
 le:=T.le
theorem step_req {s s1:RS}{y:List UInt8}{ok:Bool}{o:MV}{c:MC}(T:Took (val 7) (fun z=>z.length≤4194304) (fun z=>z.length≤4194304) s y s1)
  (hok:ok=true→mayOp o.rq.op c.rq=true∧reqL o.rq (opL o.rq.op c.rq)=y) (hno:ok=false→NoReq y):StepX 113 s o c ⟨s1.l,s1.bad||!ok⟩ where
 yes:=fun h=>by
  dsimp only at h
  rw[Bool.or_eq_false_iff] at h
  obtain⟨h1,h2⟩:=h
  have h3:ok=true:=by simpa using h2
  obtain⟨g1,g2⟩:=hok h3
  obtain⟨a,b,g⟩:=T.yes h1
  exact⟨a,by show s.l=val 7 (reqL o.rq (opL o.rq.op c.rq))++s1.l;rw[g2];exact b,⟨fun e=>absurd e (by decide),fun _=>g1,fun e=>absurd e (by decide),fun e=>absurd e (by decide),fun e=>absurd e (by decide),fun e=>absurd e (by decide)⟩⟩
 go:=fun hb W m d r h1 h2 h3 e=>by
  have hm:=h3.rq rfl
  have hl:=opL_len h1.rq hm
  have hz:(reqL m.rq (opL m.rq.op d.rq)).length≤4194304:=by rw[reqL_len];omega
  obtain⟨b1,b2⟩:=took_go T (fun z r r' hz hg e=>(val_inj (by decide) hg hz e).2) hb hz e
  obtain⟨-,e2,g⟩:=T.yes b1
  have hy:=(val_inj (t:=7) (by decide) g hz (e2.symm.trans e)).1
  refine⟨?_,b2⟩
  cases hok2:ok with
  | true=>show (s1.bad||!true)=false;rw[b1];rfl
  | false=>exact absurd hy.symm (hno hok2 W m.rq d.rq h1.rq hm h2.rq)
 le:=T.le
theorem step_res {s s1:RS}{y:List UInt8}{ok:Bool}{o:MV}{c:MC}(T:Took (val 8) (fun z=>z.length≤4194304) (fun z=>z.length≤4194304) s y s1)
  (hok:ok=true→mayRes o.rs c.rs=true∧resL o.rs c.rs=y) (hno:ok=false→NoRes y):StepX 114 s o c ⟨s1.l,s1.bad||!ok⟩ where
 yes:=fun h=>by
  dsimp only at h
  rw[Bool.or_eq_false_iff] at h
  obtain⟨h1,h2⟩:=h
  have h3:ok=true:=by simpa using h2
  obtain⟨g1,g2⟩:=hok h3
  obtain⟨a,b,g⟩:=T.yes h1
  exact⟨a,by show s.l=val 8 (resL o.rs c.rs)++s1.l;rw[g2];exact b,⟨fun e=>absurd e (by decide),fun e=>absurd e (by decide),fun _=>⟨g1,by rw[g2];exact g⟩,fun e=>absurd e (by decide),fun e=>absurd e (by decide),fun e=>absurd e (by decide)⟩⟩
 go:=fun hb W m d r h1 h2 h3 e=>by
  obtain⟨hm,hz⟩:=h3.rs rfl
  obtain⟨b1,b2⟩:=took_go T (fun z r r' hz hg e=>(val_inj (by decide) hg hz e).2) hb hz e
  obtain⟨-,e2,g⟩:=T.yes b1
  have hy:=(val_inj (t:=8) (by decide) g hz (e2.symm.trans e)).1
  refine⟨?_,b2⟩
  cases hok2:ok with
  | true=>show (s1.bad||!true)=false;rw[b1];rfl
  | false=>exact absurd hy.symm (hno hok2 W m.rs d.rs h1.rs hm)
 le:=T.le
structure TookM (s:RS)(o:MV)(c:MC)(s':RS):Prop where
 yes:s'.bad=false→s.bad=false∧s.l=msgL o c++s'.l∧(∀x∈lettersOf o.k o.wh,MayG x o c)∧0≤o.fr∧o.fr<7
 go:s.bad=false→∀(W:World) (m:MV) (d:MC) (r:List UInt8),MayM W m d→s.l=msgL m d++r→s'.bad=false∧s'.l=r
 le:s'.l.length≤s.l.length
theorem allX_of {k:Int}{wh:Bool}:∀x∈lettersOf k wh,x∈allX:=fun _ hx=>(List.mem_filter.1 hx).1
theorem letters_10 {a b:Bool}(h:lettersOf 10 a=lettersOf 10 b):a=b:=by
 cases a<;>cases b<;>first | rfl | exact absurd h (by decide)
theorem whole_10 (b:Bool):(119:Int)∈lettersOf 10 b:=by cases b<;>decide
theorem ReadM.done {W':World}{s s':RS}{ls:List Int}{whole:Bool}{o:MV}{c:MC}(R:ReadM s o.k ls ls.length true o c s')(hls:ls=lettersOf o.k whole)(hw:o.k≠10→whole=false∧o.wh=false)
  (hz:(102:Int)∉ls→o.fr=0) (hat:MAt W' o c) (hu:U64M o c) (hfr:0≤o.fr∧o.fr<18446744073709551616) :
  TookM s { o with fr:=o.fr % 7 } c ⟨s'.l,s'.bad||(decide (7≤o.fr)||(whole != o.wh))⟩ where
 yes:=fun h=>by
  dsimp only at h
  rw[Bool.or_eq_false_iff,Bool.or_eq_false_iff] at h
  obtain⟨h1,h2,h3⟩:=h
  have h7:o.fr<7:=by have:=of_decide_eq_false h2;omega
  have h4:whole=o.wh:=by simpa using h3
  have e:({ o with fr:=o.fr % 7 }:MV)=o:=by rw[show o.fr % 7=o.fr by omega]
  rw[e]
  obtain⟨a,b,g⟩:=R.yes h1
  rw[List.take_length] at b g
  rw[hls,h4] at b g
  refine⟨a,?_,g,hfr.1,h7⟩
  unfold msgL
  rw[b]
  simp only[List.append_assoc]
 go:=fun hb W m d r hM e=>by
  obtain⟨h1,-,h3,h4,h5⟩:=R.go hb W m d r hM e
  have hl:=h3 rfl
  rw[hl,List.drop_length] at h5
  obtain⟨-,b,g⟩:=R.yes h4
  rw[List.take_length] at b g
  have e2:fieldsL ls o c++s'.l=fieldsL ls m d++r:=by
   have h6:val 1 (num8 o.k.toNat)++(fieldsL ls o c++s'.l)=val 1 (num8 o.k.toNat)++(fieldsL ls m d++r):=by
    rw[←b,e]
    unfold msgL
    rw[hl,h1]
    simp only[List.append_assoc]
   exact (val_inj (by decide) (by rw[num8_len];omega) (by rw[num8_len];omega) h6).2
  have hag:=(fields_inj hat hM.at_ hu hM.u ls _ _ (fun x hx=>allX_of x (hls▸hx)) g (fun x hx=>(hM.may x (hl▸hx)).g hM.at_) e2).1
  have f7:o.fr<7:=by
   by_cases h:(102:Int)∈ls
   ·have h8:o.fr=m.fr:=of_decide_eq_true (hag 102 h)
    have:=(hM.may 102 (hl▸h)).fr rfl
    omega
   rw[hz h];decide
  have hwh:whole=o.wh:=by
   by_cases h10:o.k=10
   ·have h8:o.wh=m.wh:=of_decide_eq_true (hag 119 (by rw[hls,h10];exact whole_10 _))
    rw[h1,h10,hls,h10] at hl
    rw[h8]
    exact (letters_10 hl).symm
   obtain⟨a1,a2⟩:=hw h10
   rw[a1,a2]
  refine⟨?_,by simpa [fieldsL] using h5⟩
  dsimp only
  rw[h4,decide_eq_false (show ¬7≤o.fr by omega),hwh]
  simp
 le:=R.le
end Go.Proofs.YtfmmandlmbcncaaGreatDoor.Msg
