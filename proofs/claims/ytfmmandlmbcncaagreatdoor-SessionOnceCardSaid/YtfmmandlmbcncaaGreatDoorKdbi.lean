/-
  A part of the proof.
-/
import Derived.Test.YtfmmandlmbcncaaGreatDoorKdbg
set_option maxHeartbeats 40000000
set_option maxRecDepth 100000
namespace Go.Proofs.YtfmmandlmbcncaaGreatDoor.Msg
open Go.RowKit Go.Lib Mem Tlv
def agree (x:Int)(m:MV)(c:MC)(m':MV)(c':MC):Bool:=
 if x=118 then decide (m.vi=m'.vi)
 else if x=110 then decide (m.no=m'.no)
 else if x=102 then decide (m.fr=m'.fr)
 else if x=99 then decide (m.cl=m'.cl)
 else if x=117 then decide (m.nu=m'.nu)
 else if x=113 then bP m.rq c.rq m'.rq c'.rq
 else if x=114 then aN m.rs c.rs m'.rs c'.rs
 else if x=97 then decide (m.at_=m'.at_)
 else if x=109 then decide (m.cm=m'.cm)
 else if x=98 then decide (m.bs=m'.bs)
 else if x=115 then decide (c.snap=c'.snap)
 else if x=108 then bT c.log c'.log
 else if x=111 then decide (m.nc=m'.nc)
 else if x=119 then decide (m.wh=m'.wh)
 else decide (c.seen=c'.seen)
theorem iw {t:UInt8}{a b:Int}{r r':List UInt8}(ht:0<t.toNat)(ha:0<=a/\a<18446744073709551616)(hb:0<=b/\b<18446744073709551616)(h:val t (az a.toNat)++r=val t (az b.toNat)++r'):a=b/\r=r':=by
 obtain⟨h1,h2⟩:=ak ht (by rw[ah];omega) (by rw[ah];omega) h;have:=gV (by omega) (by omega) h1;exact⟨by omega,h2⟩
theorem zn:∀(l l':List Nat),(∀n∈l,n<18446744073709551616)->(∀n∈l',n<18446744073709551616)->gZ l=gZ l'->l=l'
 | [],[],_,_,_=>rfl
 | [],n::l',_,_,h=>by have:=congrArg List.length h;rw[lF,List.length_append,ae] at this;simp[gZ] at this;omega
 | n::l,[],_,_,h=>by have:=congrArg List.length h;rw[lF,List.length_append,ae] at this;simp[gZ] at this
 | n::l,n'::l',hl,hl',h=>by
  rw[lF,lF] at h;obtain⟨h1,h2⟩:=ak (by decide) (by rw[ah];omega) (by rw[ah];omega) h;have e:=gV (hl n (by simp)) (hl' n' (by simp)) h1;rw[e,zn l l' (fun k hk=>hl k (by simp[hk])) (fun k hk=>hl' k (by simp[hk])) h2]
theorem AC {W W':World}:∀(l l':List RP),(∀p∈l,OpAt W p.1.op p.2/\aB p.1.op p.2=true/\U64R p.1)->(∀p∈l',OpAt W' p.1.op p.2/\aB p.1.op p.2=true/\U64R p.1)->jo l=jo l'->bT l l'=true
 | [],[],_,_,_=>rfl
 | [],p::l',_,_,h=>by have:=congrArg List.length h;rw[oD,List.length_append,ae] at this;simp[jo] at this;omega
 | p::l,[],_,_,h=>by have:=congrArg List.length h;rw[oD,List.length_append,ae] at this;simp[jo] at this
 | p::l,p'::l',hl,hl',h=>by
  obtain⟨a1,a2,a3⟩:=hl p (by simp);obtain⟨b1,b2,b3⟩:=hl' p' (by simp);have s1:=gU a1 a2;have s2:=gU b1 b2;rw[oD,oD] at h;obtain⟨h1,h2⟩:=ak (by decide) (by rw[gp];omega) (by rw[gp];omega) h;obtain⟨e1,e2,e3⟩:=Dj a1 b1 a2 b2 a3 b3 h1;have ih:=AC l l' (fun q hq=>hl q (by simp[hq])) (fun q hq=>hl' q (by simp[hq])) h2;show (bP p.1 p.2 p'.1 p'.2&&bT l l')=true;rw[ih];unfold bP;rw[decide_eq_true e1,decide_eq_true e2,e3];rfl
structure MayG (x:Int)(m:MV)(c:MC):Prop where
 fr:x=102->0<=m.fr/\m.fr<18446744073709551616
 rq:x=113->aB m.rq.op c.rq=true
 rs:x=114->bf m.rs c.rs=true/\(dG m.rs c.rs).length<=4194304
 sn:x=115->c.snap.length<=4194304
 log:x=108->(∀p∈c.log,aB p.1.op p.2=true)/\(jo c.log).length<=4194304
 seen:x=101->(gZ c.seen).length<=4194304
theorem MayF.g {W:World}{x:Int}{m:MV}{c:MC}(h:MayF x m c)(hm:MAt W m c):MayG x m c:=
 ⟨fun e=>by have:=h.fr e;omega,h.rq,h.rs,fun e=>by have:=h.sn e;have l1:=hm.sn.1;rw[aS] at l1;omega,fun e=>⟨(h.log e).1,(h.log e).2.1⟩,fun e=>by have:=h.seen e;have l1:=hm.se.1;rw[jl] at l1;rw[oI];omega⟩
theorem IZ {W W':World}{x:Int}{m m':MV}{c c':MC}{r r':List UInt8}(hx:x∈dA)(h:MAt W m c)(h':MAt W' m' c')(hu:U64M m c)(hu':U64M m' c')(f:MayG x m c)(f':MayG x m' c')
  (e:dB x m c++r=dB x m' c'++r'):agree x m c m' c'=true/\r=r':=by
 simp only[dA,List.mem_cons,List.not_mem_nil,or_false] at hx;rcases hx with rfl|rfl|rfl|rfl|rfl|rfl|rfl|rfl|rfl|rfl|rfl|rfl|rfl|rfl|rfl
 ·obtain⟨h1,h2⟩:=iw (t:=2) (a:=m.vi) (b:=m'.vi) (by decide) hu.vi hu'.vi e;exact⟨decide_eq_true h1,h2⟩
 ·obtain⟨h1,h2⟩:=iw (t:=3) (a:=m.no) (b:=m'.no) (by decide) hu.no hu'.no e;exact⟨decide_eq_true h1,h2⟩
 ·obtain⟨h1,h2⟩:=iw (t:=4) (a:=m.fr) (b:=m'.fr) (by decide) (by have:=f.fr rfl;omega) (by have:=f'.fr rfl;omega) e;exact⟨decide_eq_true h1,h2⟩
 ·obtain⟨h1,h2⟩:=iw (t:=5) (a:=m.cl) (b:=m'.cl) (by decide) hu.cl hu'.cl e;exact⟨decide_eq_true h1,h2⟩
 ·obtain⟨h1,h2⟩:=iw (t:=6) (a:=m.nu) (b:=m'.nu) (by decide) hu.nu hu'.nu e;exact⟨decide_eq_true h1,h2⟩
 ·have s1:=gU h.rq (f.rq rfl);have s2:=gU h'.rq (f'.rq rfl);obtain⟨h1,h2⟩:=ak (t:=7) (by decide) (by rw[gp];omega) (by rw[gp];omega) e;obtain⟨e1,e2,e3⟩:=Dj h.rq h'.rq (f.rq rfl) (f'.rq rfl) hu.rq hu'.rq h1;refine⟨?_,h2⟩;show bP m.rq c.rq m'.rq c'.rq=true;unfold bP;rw[decide_eq_true e1,decide_eq_true e2,e3];rfl
 ·obtain⟨f1,f2⟩:=f.rs rfl;obtain⟨g1,g2⟩:=f'.rs rfl;obtain⟨h1,h2⟩:=ak (t:=8) (by decide) f2 g2 e;exact⟨N7 h.rs h'.rs f1 g1 h1,h2⟩
 ·obtain⟨h1,h2⟩:=iw (t:=9) (a:=m.at_) (b:=m'.at_) (by decide) hu.at_ hu'.at_ e;exact⟨decide_eq_true h1,h2⟩
 ·obtain⟨h1,h2⟩:=iw (t:=10) (a:=m.cm) (b:=m'.cm) (by decide) hu.cm hu'.cm e;exact⟨decide_eq_true h1,h2⟩
 ·obtain⟨h1,h2⟩:=iw (t:=11) (a:=m.bs) (b:=m'.bs) (by decide) hu.bs hu'.bs e;exact⟨decide_eq_true h1,h2⟩
 ·obtain⟨h1,h2⟩:=ak (t:=12) (by decide) (f.sn rfl) (f'.sn rfl) e;exact⟨decide_eq_true h1,h2⟩
 ·obtain⟨f1,f2⟩:=f.log rfl;obtain⟨g1,g2⟩:=f'.log rfl;obtain⟨h1,h2⟩:=ak (t:=13) (by decide) f2 g2 e;exact⟨AC c.log c'.log (fun p hp=>⟨h.lg.each p hp,f1 p hp,hu.log p hp⟩) (fun p hp=>⟨h'.lg.each p hp,g1 p hp,hu'.log p hp⟩) h1,h2⟩
 ·obtain⟨h1,h2⟩:=iw (t:=14) (a:=m.nc) (b:=m'.nc) (by decide) hu.nc hu'.nc e;exact⟨decide_eq_true h1,h2⟩
 ·obtain⟨h1,h2⟩:=ak (t:=15) (by decide) (by simp) (by simp) e;refine⟨decide_eq_true ?_,h2⟩;cases hw:m.wh<;>cases hw':m'.wh<;>rw[hw,hw'] at h1<;>first | rfl | (exact absurd h1 (by decide))
 obtain⟨h1,h2⟩:=ak (t:=16) (by decide) (f.seen rfl) (f'.seen rfl) e;exact⟨decide_eq_true (zn _ _ hu.seen hu'.seen h1),h2⟩
theorem rW {W W':World}{m m':MV}{c c':MC}(h:MAt W m c)(h':MAt W' m' c')(hu:U64M m c)(hu':U64M m' c'):∀(ls:List Int) (r r':List UInt8),(∀x∈ls,x∈dA)->(∀x∈ls,MayG x m c)->(∀x∈ls,MayG x m' c')->aJ ls m c++r=aJ ls m' c'++r'->(∀x∈ls,agree x m c m' c'=true)/\r=r'
 | [],_,_,_,_,_,e=>⟨fun x hx=>absurd hx List.not_mem_nil,e⟩
 | x::ls,r,r',ha,hf,hf',e=>by
  have e1:aJ (x::ls) m c=dB x m c++aJ ls m c:=rfl;have e2:aJ (x::ls) m' c'=dB x m' c'++aJ ls m' c':=rfl;rw[e1,e2,List.append_assoc,List.append_assoc] at e;obtain⟨h1,h2⟩:=IZ (ha x (by simp)) h h' hu hu' (hf x (by simp)) (hf' x (by simp)) e;obtain⟨h3,h4⟩:=rW h h' hu hu' ls r r' (fun y hy=>ha y (by simp[hy])) (fun y hy=>hf y (by simp[hy])) (fun y hy=>hf' y (by simp[hy])) h2;exact⟨fun y hy=>by rcases List.mem_cons.1 hy with rfl | hy;exact h1;exact h3 y hy,h4⟩
theorem xq {k:Int}(h:1<=k/\k<=12)(h10:k≠10):lettersOf k false=lettersOf k true:=by
 rcases (by omega:k=1\/k=2\/k=3\/k=4\/k=5\/k=6\/k=7\/k=8\/k=9\/k=11\/k=12) with rfl|rfl|rfl|rfl|rfl|rfl|rfl|rfl|rfl|rfl|rfl<;>rfl
theorem Jn {t t':UInt8}{a b r r':List UInt8}(h:t≠t'):val t a++r≠val t' b++r':=fun e=>by
 have:=congrArg (fun l=>l[0]?) e;simp[val] at this;exact h this
theorem vO {m m':MV}{c c':MC}{r r':List UInt8}(hu:U64M m c)(hu':U64M m' c')(hf:∀x∈lettersOf 10 false,MayG x m c)(hf':∀x∈lettersOf 10 true,MayG x m' c'):aJ (lettersOf 10 false) m c++r≠aJ (lettersOf 10 true) m' c'++r':=fun e=>by
 have e1:aJ (lettersOf 10 false) m c=val 2 (az m.vi.toNat)++(val 4 (az m.fr.toNat)++(val 14 (az m.nc.toNat)++aJ [119,101] m c)):=rfl;have e2:aJ (lettersOf 10 true) m' c'=val 2 (az m'.vi.toNat)++(val 4 (az m'.fr.toNat)++(val 10 (az m'.cm.toNat)++aJ [98,115,108,111,119,101] m' c')):=rfl;rw[e1,e2] at e;simp only[List.append_assoc] at e;obtain⟨-,h2⟩:=iw (t:=2) (a:=m.vi) (b:=m'.vi) (by decide) hu.vi hu'.vi e;have f1:=(hf 102 (by decide)).fr rfl;have f2:=(hf' 102 (by decide)).fr rfl;obtain⟨-,h3⟩:=iw (t:=4) (a:=m.fr) (b:=m'.fr) (by decide) (by omega) (by omega) h2;exact Jn (by decide) h3
theorem Dn {W W':World}{m m':MV}{c c':MC}{r r':List UInt8}(h:MAt W m c)(h':MAt W' m' c')(hu:U64M m c)(hu':U64M m' c')(hk:1<=m.k/\m.k<=12)(hk':1<=m'.k/\m'.k<=12)
  (hf:∀x∈lettersOf m.k m.wh,MayG x m c) (hf':∀x∈lettersOf m'.k m'.wh,MayG x m' c') (e:dM m c++r=dM m' c'++r') :
  m.k=m'.k/\lettersOf m.k m.wh=lettersOf m'.k m'.wh/\(∀x∈lettersOf m.k m.wh,agree x m c m' c'=true)/\r=r':=by
 unfold dM at e;rw[List.append_assoc,List.append_assoc] at e;obtain⟨h1,h2⟩:=iw (t:=1) (a:=m.k) (b:=m'.k) (by decide) (by omega) (by omega) e;have hall:∀(k:Int) (wh:Bool),∀x∈lettersOf k wh,x∈dA:=fun k wh x hx=>(List.mem_filter.1 hx).1;have key:lettersOf m.k m.wh=lettersOf m'.k m'.wh:=by
  rw[h1];rw[h1] at hf h2;by_cases h10:m'.k=10
  ·rw[h10] at hf hf' h2 ⊢;cases hw:m.wh<;>cases hw':m'.wh<;>rw[hw] at hf h2<;>rw[hw'] at hf' h2
   ·exact absurd h2 (vO hu hu' hf hf')
   exact absurd h2.symm (vO hu' hu hf' hf)
  have:=xq hk' h10;cases m.wh<;>cases m'.wh<;>first | rfl | exact this | exact this.symm
 refine⟨h1,key,?_⟩;rw[<-key] at h2 hf';exact rW h h' hu hu' _ _ _ (hall _ _) hf hf' h2
end Go.Proofs.YtfmmandlmbcncaaGreatDoor.Msg
namespace Go.Proofs.YtfmmandlmbcncaaGreatDoor.Tlv
open Go.RowKit Go.Lib Mem
def RS.tagR (s:RS):UInt8:=if s.bad=true\/fs s.l=0 then 0 else (hd1 s.l).1
end Go.Proofs.YtfmmandlmbcncaaGreatDoor.Tlv
namespace Go.Proofs.YtfmmandlmbcncaaGreatDoor.Msg
open Go.RowKit Go.Lib Mem Tlv
structure MayM (W:World)(m:MV)(d:MC):Prop where
 at_:MAt W m d
 u:U64M m d
 k:1<=m.k/\m.k<=12
 may:∀x∈lettersOf m.k m.wh,MayF x m d
structure StepX (x:Int)(s:RS)(o:MV)(c:MC)(s':RS):Prop where
 yes:s'.bad=false->s.bad=false/\s.l=dB x o c++s'.l/\MayG x o c
 go:s.bad=false->∀(W:World) (m:MV) (d:MC) (r:List UInt8),MAt W m d->U64M m d->MayF x m d->s.l=dB x m d++r->s'.bad=false/\s'.l=r
 le:s'.l.length<=s.l.length
theorem jv {α:Type}{body:α->List UInt8}{may good:α->Prop}{s s':RS}{y:α}(T:Took body may good s y s')(hinj:∀z r r',may z->good y->body y++r'=body z++r->r'=r)(hb:s.bad=false){z:α}{r:List UInt8}(hz:may z)(e:s.l=body z++r):s'.bad=false/\s'.l=r:=by
 cases h:s'.bad with
 | true=>
  rcases T.no h with h1 | h1
  ·rw[hb] at h1;cases h1
  exact absurd e (h1 z r hz)
 | false=>
  obtain⟨-,e2,g⟩:=T.yes h;exact⟨rfl,hinj z r _ hz g (e2.symm.trans e)⟩
theorem iJ {x:Int}{t:UInt8}{s s':RS}{n:Nat}{o:MV}{c:MC}{f:MV->Int}(ht:0<t.toNat)(hf:∀m d,dB x m d=val t (az (f m).toNat))(hu:∀W m d,MAt W m d->U64M m d->MayF x m d->0<=f m/\f m<18446744073709551616)
  (T:Took (fun n:Nat=>val t (az n)) (fun n=>n<18446744073709551616) (fun n=>n<18446744073709551616) s n s') (ho:f o=(n:Int)) (hg:n<18446744073709551616->MayG x o c):StepX x s o c s' where
 yes:=fun h=>by
  obtain⟨a,b,g⟩:=T.yes h;refine⟨a,?_,hg g⟩;rw[hf,ho,Int.toNat_natCast];exact b
 go:=fun hb W m d r h1 h2 h3 e=>by
  obtain⟨u1,u2⟩:=hu W m d h1 h2 h3;rw[hf] at e;exact jv T (fun z r r' _ _ e=>(ak ht (by rw[ah];omega) (by rw[ah];omega) e).2) hb (by omega) e
 le:=T.le
structure ReadM (s:RS)(k:Int)(ls:List Int)(j:Nat)(ch:Bool)(o:MV)(c:MC)(s':RS):Prop where
 yes:s'.bad=false->s.bad=false/\s.l=val 1 (az k.toNat)++(aJ (ls.take j) o c++s'.l)/\∀x∈ls.take j,MayG x o c
 go:s.bad=false->∀(W:World) (m:MV) (d:MC) (r:List UInt8),MayM W m d->s.l=dM m d++r->m.k=k/\(lettersOf m.k m.wh).take j=ls.take j/\(ch=true->lettersOf m.k m.wh=ls)/\s'.bad=false/\s'.l=aJ ((lettersOf m.k m.wh).drop j) m d++r
 le:s'.l.length<=s.l.length
theorem ReadM.first {s s':RS}{n:Nat}{o:MV}{c:MC}(T:Took (fun n:Nat=>val 1 (az n)) (fun n=>n<=12) (fun n=>n<18446744073709551616) s n s')(hn:1<=n/\n<=12):ReadM s n (lettersOf n false) 0 (decide (n≠10)) o c s' where
 yes:=fun h=>by
  obtain⟨a,b,-⟩:=T.yes h;exact⟨a,by rw[Int.toNat_natCast];simpa [aJ] using b,fun x hx=>by simp at hx⟩
 go:=fun hb W m d r hM e=>by
  have hk:=hM.k;unfold dM at e;rw[List.append_assoc] at e;obtain⟨h1,h2⟩:=jv T (fun z r r' _ _ e=>(ak (by decide) (by rw[ah];omega) (by rw[ah];omega) e).2) hb (z:=m.k.toNat) (by omega) e;obtain⟨-,e2,g⟩:=T.yes h1;have e3:=gV g (by omega) (ak (t:=1) (by decide) (by rw[ah];omega) (by rw[ah];omega) (e2.symm.trans e)).1;have hkn:m.k=(n:Int):=by omega
  refine⟨hkn,rfl,fun hc=>?_,h1,h2⟩;have h10:n≠10:=of_decide_eq_true hc;rw[hkn];have:=xq (k:=(n:Int)) (by omega) (by omega);cases m.wh
  ·rfl
  exact this.symm
 le:=T.le
theorem Aa (wh:Bool):(lettersOf 10 wh).take 2=[118,102]:=by cases wh<;>rfl
theorem ReadM.step {s s1 s2:RS}{k:Int}{ls:List Int}{j:Nat}{ch:Bool}{o o':MV}{c c':MC}{x:Int}(R:ReadM s k ls j ch o c s1)(hch:ch=true\/(k=10/\j<2/\ls=lettersOf 10 false))(hx:ls[j]?=some x)(S:StepX x s1 o' c' s2)
  (hkeep:∀y∈ls.take j,dB y o' c'=dB y o c/\(MayG y o c->MayG y o' c')):ReadM s k ls (j+1) ch o' c' s2 where
 yes:=fun h=>by
  obtain⟨a1,b1,g1⟩:=S.yes h;obtain⟨a2,b2,g2⟩:=R.yes a1;have e:aJ (ls.take j) o' c'=aJ (ls.take j) o c:=by
   unfold aJ;rw[List.flatMap_def,List.flatMap_def]
   congr 1
   exact List.map_congr_left (fun y hy=>(hkeep y hy).1)
  refine⟨a2,?_,fun y hy=>?_⟩
  ·rw[List.take_add_one,hx,Option.toList_some,og,e,b2,b1];simp only[List.append_assoc]
  rw[List.take_add_one,hx] at hy;rcases List.mem_append.1 hy with hy | hy
  ·exact (hkeep y hy).2 (g2 y hy)
  obtain rfl:y=x:=by simpa using hy
  exact g1
 go:=fun hb W m d r hM e=>by
  obtain⟨h1,h2,h3,h4,h5⟩:=R.go hb W m d r hM e;have hxm:(lettersOf m.k m.wh)[j]?=some x:=by
   rcases hch with hc | ⟨h10,hj,hls⟩
   ·rw[h3 hc];exact hx
   rw[h1,h10];have a1:((lettersOf 10 m.wh).take 2)[j]?=(lettersOf 10 m.wh)[j]?:=List.getElem?_take_of_lt hj;have a2:((lettersOf 10 false).take 2)[j]?=(lettersOf 10 false)[j]?:=List.getElem?_take_of_lt hj;rw[Aa] at a1 a2;rw[<-a1,a2,<-hls];exact hx
  have hd:(lettersOf m.k m.wh).drop j=x::(lettersOf m.k m.wh).drop (j+1):=by
   obtain⟨hl,he⟩:=List.getElem?_eq_some_iff.1 hxm;rw[List.drop_eq_getElem_cons hl,he]
  rw[hd] at h5;have h6:s1.l=dB x m d++(aJ ((lettersOf m.k m.wh).drop (j+1)) m d++r):=by rw[h5];unfold aJ;rw[List.flatMap_cons,List.append_assoc]
  obtain⟨h7,h8⟩:=S.go h4 W m d _ hM.at_ hM.u (hM.may x (List.mem_of_getElem? hxm)) h6;refine⟨h1,?_,h3,h7,h8⟩;rw[List.take_add_one,List.take_add_one,h2,hxm,hx]
 le:=Nat.le_trans S.le R.le
end Go.Proofs.YtfmmandlmbcncaaGreatDoor.Msg
