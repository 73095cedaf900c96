/-A part of the proof.-/
import Derived.Test.YtfmmandlmbcncaaGreatDoorKfay
set_option maxHeartbeats 40000000
set_option maxRecDepth 100000
set_option linter.all false
namespace Go.Proofs.YtfmmandlmbcncaaGreatDoor
namespace Msg
open Go.RowKit Go.Lib Mem Tlv
variable{W W':World}{c c':MC}{m m':MV}{r r':List UInt8}{t:UInt8}{x:Int}
def agree (x:Int)(m:MV)(c:MC)(m':MV)(c':MC):Bool:=
 if x=118 then decide (m.vi=m'.vi)
 else if x=110 then decide (m.no=m'.no)
 else if x=102 then decide (m.fr=m'.fr)
 else if x=99 then decide (m.cl=m'.cl)
 else if x=117 then decide (m.nu=m'.nu)
 else if x=113 then bQ m.rq c.rq m'.rq c'.rq
 else if x=114 then aF m.rs c.rs m'.rs c'.rs
 else if x=97 then decide (m.at_=m'.at_)
 else if x=109 then decide (m.cm=m'.cm)
 else if x=98 then decide (m.bs=m'.bs)
 else if x=115 then decide (c.snap=c'.snap)
 else if x=108 then bH c.log c'.log
 else if x=111 then decide (m.nc=m'.nc)
 else if x=119 then decide (m.wh=m'.wh)
 else decide (c.seen=c'.seen)
theorem jg{a b:Int}(ht:0<t.toNat)(ha:0<=a/\a<18446744073709551616)(hb:0<=b/\b<18446744073709551616)(h:val t (au a.toNat)++r=val t (au b.toNat)++r'):a=b/\r=r':=by
 obtain⟨h1,h2⟩:=az ht (by rw[ai];omega) (by rw[ai];omega) h;have:=iM (by omega) (by omega) h1;exact⟨by omega,h2⟩
theorem AZ:∀(l l':List Nat),(∀n∈l,n<18446744073709551616)->(∀n∈l',n<18446744073709551616)->df l=df l'->l=l'
 | [],[],_,_,_=>rfl
 | [],n::l',_,_,h=>by have:=congrArg List.length h;rw[iV,yab,ae] at this;simp[df] at this;omega
 | n::l,[],_,_,h=>by have:=congrArg List.length h;rw[iV,yab,ae] at this;simp[df] at this
 | n::l,n'::l',hl,hl',h=>by
  rw[iV,iV] at h;obtain⟨h1,h2⟩:=az (by decide) (by rw[ai];omega) (by rw[ai];omega) h;have e:=iM (hl n (by simp)) (hl' n' (by simp)) h1;rw[e,AZ l l' (fun k hk=>hl k (by simp[hk])) (fun k hk=>hl' k (by simp[hk])) h2]
theorem Ef:∀(l l':List RP),(∀p∈l,OpAt W p.1.op p.2/\aA p.1.op p.2=true/\U64R p.1)->(∀p∈l',OpAt W' p.1.op p.2/\aA p.1.op p.2=true/\U64R p.1)->gq l=gq l'->bH l l'=true
 | [],[],_,_,_=>rfl
 | [],p::l',_,_,h=>by have:=congrArg List.length h;rw[mO,yab,ae] at this;simp[gq] at this;omega
 | p::l,[],_,_,h=>by have:=congrArg List.length h;rw[mO,yab,ae] at this;simp[gq] at this
 | p::l,p'::l',hl,hl',h=>by
  obtain⟨a1,a2,a3⟩:=hl p (by simp);obtain⟨b1,b2,b3⟩:=hl' p' (by simp);have s1:=iJ a1 a2;have s2:=iJ b1 b2;rw[mO,mO] at h;obtain⟨h1,h2⟩:=az (by decide) (by rw[gX];omega) (by rw[gX];omega) h;obtain⟨e1,e2,e3⟩:=Fq a1 b1 a2 b2 a3 b3 h1;have ih:=Ef l l' (fun q hq=>hl q (by simp[hq])) (fun q hq=>hl' q (by simp[hq])) h2;show (bQ p.1 p.2 p'.1 p'.2&&bH l l')=true;rw[ih];unfold bQ;rw[yaa e1,yaa e2,e3];rfl
structure MayG (x:Int)(m:MV)(c:MC):Prop where
 fr:x=102->0<=m.fr/\m.fr<18446744073709551616
 rq:x=113->aA m.rq.op c.rq=true
 rs:x=114->bz m.rs c.rs=true/\(dM m.rs c.rs).length<=4194304
 sn:x=115->c.snap.length<=4194304
 log:x=108->(∀p∈c.log,aA p.1.op p.2=true)/\(gq c.log).length<=4194304
 seen:x=101->(df c.seen).length<=4194304
theorem MayF.g(h:MayF x m c)(hm:MAt W m c):MayG x m c:=
 ⟨fun e=>by have:=h.fr e;omega,h.rq,h.rs,fun e=>by have:=h.sn e;have l1:=hm.sn.1;rw[aV] at l1;omega,fun e=>⟨(h.log e).1,(h.log e).2.1⟩,fun e=>by have:=h.seen e;have l1:=hm.se.1;rw[iq] at l1;rw[jS];omega⟩
theorem Jf(hx:x∈dF)(h:MAt W m c)(h':MAt W' m' c')(hu:U64M m c)(hu':U64M m' c')(f:MayG x m c)(f':MayG x m' c')
  (e:bW x m c++r=bW x m' c'++r'):agree x m c m' c'=true/\r=r':=by
 simp only[dF,yas,yal,or_false] at hx;rcases hx with rfl|rfl|rfl|rfl|rfl|rfl|rfl|rfl|rfl|rfl|rfl|rfl|rfl|rfl|rfl
 ·obtain⟨h1,h2⟩:=jg (t:=2) (a:=m.vi) (b:=m'.vi) (by decide) hu.vi hu'.vi e;exact⟨yaa h1,h2⟩
 ·obtain⟨h1,h2⟩:=jg (t:=3) (a:=m.no) (b:=m'.no) (by decide) hu.no hu'.no e;exact⟨yaa h1,h2⟩
 ·obtain⟨h1,h2⟩:=jg (t:=4) (a:=m.fr) (b:=m'.fr) (by decide) (by have:=f.fr rfl;omega) (by have:=f'.fr rfl;omega) e;exact⟨yaa h1,h2⟩
 ·obtain⟨h1,h2⟩:=jg (t:=5) (a:=m.cl) (b:=m'.cl) (by decide) hu.cl hu'.cl e;exact⟨yaa h1,h2⟩
 ·obtain⟨h1,h2⟩:=jg (t:=6) (a:=m.nu) (b:=m'.nu) (by decide) hu.nu hu'.nu e;exact⟨yaa h1,h2⟩
 ·have s1:=iJ h.rq (f.rq rfl);have s2:=iJ h'.rq (f'.rq rfl);obtain⟨h1,h2⟩:=az (t:=7) (by decide) (by rw[gX];omega) (by rw[gX];omega) e;obtain⟨e1,e2,e3⟩:=Fq h.rq h'.rq (f.rq rfl) (f'.rq rfl) hu.rq hu'.rq h1;refine⟨?_,h2⟩;show bQ m.rq c.rq m'.rq c'.rq=true;unfold bQ;rw[yaa e1,yaa e2,e3];rfl
 ·obtain⟨f1,f2⟩:=f.rs rfl;obtain⟨g1,g2⟩:=f'.rs rfl;obtain⟨h1,h2⟩:=az (t:=8) (by decide) f2 g2 e;exact⟨QL h.rs h'.rs f1 g1 h1,h2⟩
 ·obtain⟨h1,h2⟩:=jg (t:=9) (a:=m.at_) (b:=m'.at_) (by decide) hu.at_ hu'.at_ e;exact⟨yaa h1,h2⟩
 ·obtain⟨h1,h2⟩:=jg (t:=10) (a:=m.cm) (b:=m'.cm) (by decide) hu.cm hu'.cm e;exact⟨yaa h1,h2⟩
 ·obtain⟨h1,h2⟩:=jg (t:=11) (a:=m.bs) (b:=m'.bs) (by decide) hu.bs hu'.bs e;exact⟨yaa h1,h2⟩
 ·obtain⟨h1,h2⟩:=az (t:=12) (by decide) (f.sn rfl) (f'.sn rfl) e;exact⟨yaa h1,h2⟩
 ·obtain⟨f1,f2⟩:=f.log rfl;obtain⟨g1,g2⟩:=f'.log rfl;obtain⟨h1,h2⟩:=az (t:=13) (by decide) f2 g2 e;exact⟨Ef c.log c'.log (fun p hp=>⟨h.lg.each p hp,f1 p hp,hu.log p hp⟩) (fun p hp=>⟨h'.lg.each p hp,g1 p hp,hu'.log p hp⟩) h1,h2⟩
 ·obtain⟨h1,h2⟩:=jg (t:=14) (a:=m.nc) (b:=m'.nc) (by decide) hu.nc hu'.nc e;exact⟨yaa h1,h2⟩
 ·obtain⟨h1,h2⟩:=az (t:=15) (by decide) (by simp) (by simp) e;refine⟨yaa ?_,h2⟩;cases hw:m.wh<;>cases hw':m'.wh<;>rw[hw,hw'] at h1<;>first | rfl | (exact absurd h1 (by decide))
 obtain⟨h1,h2⟩:=az (t:=16) (by decide) (f.seen rfl) (f'.seen rfl) e;exact⟨yaa (AZ _ _ hu.seen hu'.seen h1),h2⟩
theorem tN(h:MAt W m c)(h':MAt W' m' c')(hu:U64M m c)(hu':U64M m' c'):∀(ls:List Int) (r r':List UInt8),(∀x∈ls,x∈dF)->(∀x∈ls,MayG x m c)->(∀x∈ls,MayG x m' c')->aS ls m c++r=aS ls m' c'++r'->(∀x∈ls,agree x m c m' c'=true)/\r=r'
 | [],_,_,_,_,_,e=>⟨fun x hx=>absurd hx yal,e⟩
 | x::ls,r,r',ha,hf,hf',e=>by
  have e1:aS (x::ls) m c=bW x m c++aS ls m c:=rfl;have e2:aS (x::ls) m' c'=bW x m' c'++aS ls m' c':=rfl;rw[e1,e2,yav,yav] at e;obtain⟨h1,h2⟩:=Jf (ha x (by simp)) h h' hu hu' (hf x (by simp)) (hf' x (by simp)) e;obtain⟨h3,h4⟩:=tN h h' hu hu' ls r r' (fun y hy=>ha y (by simp[hy])) (fun y hy=>hf y (by simp[hy])) (fun y hy=>hf' y (by simp[hy])) h2;exact⟨fun y hy=>by rcases yas.1 hy with rfl | hy;exact h1;exact h3 y hy,h4⟩
theorem yL{k:Int}(h:1<=k/\k<=12)(h10:k≠10):lettersOf k false=lettersOf k true:=by
 rcases (by omega:k=1\/k=2\/k=3\/k=4\/k=5\/k=6\/k=7\/k=8\/k=9\/k=11\/k=12) with rfl|rfl|rfl|rfl|rfl|rfl|rfl|rfl|rfl|rfl|rfl<;>rfl
theorem JY{t':UInt8}{a b:List UInt8}(h:t≠t'):val t a++r≠val t' b++r':=fun e=>by
 have:=congrArg (fun l=>l[0]?) e;simp[val] at this;exact h this
theorem xN(hu:U64M m c)(hu':U64M m' c')(hf:∀x∈lettersOf 10 false,MayG x m c)(hf':∀x∈lettersOf 10 true,MayG x m' c'):aS (lettersOf 10 false) m c++r≠aS (lettersOf 10 true) m' c'++r':=fun e=>by
 have e1:aS (lettersOf 10 false) m c=val 2 (au m.vi.toNat)++(val 4 (au m.fr.toNat)++(val 14 (au m.nc.toNat)++aS [119,101] m c)):=rfl;have e2:aS (lettersOf 10 true) m' c'=val 2 (au m'.vi.toNat)++(val 4 (au m'.fr.toNat)++(val 10 (au m'.cm.toNat)++aS [98,115,108,111,119,101] m' c')):=rfl;rw[e1,e2] at e;simp only[yav] at e;obtain⟨-,h2⟩:=jg (t:=2) (a:=m.vi) (b:=m'.vi) (by decide) hu.vi hu'.vi e;have f1:=(hf 102 (by decide)).fr rfl;have f2:=(hf' 102 (by decide)).fr rfl;obtain⟨-,h3⟩:=jg (t:=4) (a:=m.fr) (b:=m'.fr) (by decide) (by omega) (by omega) h2;exact JY (by decide) h3
theorem zU(h:MAt W m c)(h':MAt W' m' c')(hu:U64M m c)(hu':U64M m' c')(hk:1<=m.k/\m.k<=12)(hk':1<=m'.k/\m'.k<=12)
  (hf:∀x∈lettersOf m.k m.wh,MayG x m c) (hf':∀x∈lettersOf m'.k m'.wh,MayG x m' c') (e:dL m c++r=dL m' c'++r') :
  m.k=m'.k/\lettersOf m.k m.wh=lettersOf m'.k m'.wh/\(∀x∈lettersOf m.k m.wh,agree x m c m' c'=true)/\r=r':=by
 unfold dL at e;rw[yav,yav] at e;obtain⟨h1,h2⟩:=jg (t:=1) (a:=m.k) (b:=m'.k) (by decide) (by omega) (by omega) e;have hall:∀(k:Int) (wh:Bool),∀x∈lettersOf k wh,x∈dF:=fun k wh x hx=>(List.mem_filter.1 hx).1;have key:lettersOf m.k m.wh=lettersOf m'.k m'.wh:=by
  rw[h1];rw[h1] at hf h2;by_cases h10:m'.k=10
  ·rw[h10] at hf hf' h2 ⊢;cases hw:m.wh<;>cases hw':m'.wh<;>rw[hw] at hf h2<;>rw[hw'] at hf' h2
   ·exact absurd h2 (xN hu hu' hf hf')
   exact absurd h2.symm (xN hu' hu hf' hf)
  have:=yL hk' h10;cases m.wh<;>cases m'.wh<;>first | rfl | exact this | exact this.symm
 refine⟨h1,key,?_⟩;rw[<-key] at h2 hf';exact tN h h' hu hu' _ _ _ (hall _ _) hf hf' h2
end Msg
namespace Tlv
open Go.RowKit Go.Lib Mem
def RS.tagR (s:RS):UInt8:=if s.bad=true\/fs s.l=0 then 0 else (hd1 s.l).1
theorem LU (B g:Nat)(s:RS)(W:World)(hr:RfS B g s W)(hl:s.l.length<=100000000):Calls Tryz.prog 96 #[.pointer (some ⟨g,0,none⟩)] W (fun e w'=>e=.returned (.int .u8 (s.tagR.toNat:Int))/\Below W.heap.size W w'):=by
 obtain⟨ao,cap,hr⟩:=hr;obtain⟨l,bad⟩:=s;obtain⟨c0,c1,z0,z1⟩:=gz hr;dsimp only at hl c0 c1;cases bad with
 | true=>
  have e:RS.tagR ⟨l,true⟩=0:=by unfold RS.tagR;rw[if_pos (.inl rfl)]
  rw[e];go_in;go_wp2_with fail;go_ret;exact⟨rfl,yaj _ _⟩
 | false=>
  go_in;go_wp2_with fail;refine (uQ ao l.length cap l W hr.rd (by omega)).mono ?_;rintro e w1 ⟨hb1,hc1⟩;rcases hc1 with ⟨h0,rfl⟩ | ⟨h0,ao2,cap2,rfl,hr2,hbk⟩
  ·have e:RS.tagR ⟨l,false⟩=0:=by unfold RS.tagR;rw[if_pos (.inr h0)]
   have HE:=hid e;clear e;go_wp2_with fail;go_ret;exact⟨by rw[HE.out];rfl,hb1⟩
  have e:RS.tagR ⟨l,false⟩=(hd1 l).1:=by unfold RS.tagR;rw[if_neg (by rintro (h | h);cases h;exact h0 h)]
  have HE:=hid e;clear e;go_wp2_with fail;go_ret;exact⟨by rw[HE.out];rfl,hb1⟩
end Tlv
namespace Msg
open Go.RowKit Go.Lib Mem Tlv
variable{c:MC}{n:Nat}{o:MV}{s s':RS}{x:Int}
structure MayM (W:World)(m:MV)(d:MC):Prop where
 at_:MAt W m d
 u:U64M m d
 k:1<=m.k/\m.k<=12
 may:∀x∈lettersOf m.k m.wh,MayF x m d
structure StepX (x:Int)(s:RS)(o:MV)(c:MC)(s':RS):Prop where
 yes:s'.bad=false->s.bad=false/\s.l=bW x o c++s'.l/\MayG x o c
 go:s.bad=false->∀(W:World) (m:MV) (d:MC) (r:List UInt8),MAt W m d->U64M m d->MayF x m d->s.l=bW x m d++r->s'.bad=false/\s'.l=r
 le:s'.l.length<=s.l.length
theorem jh{α:Type}{body:α->List UInt8}{may good:α->Prop}{y:α}(T:Took body may good s y s')(hinj:∀z r r',may z->good y->body y++r'=body z++r->r'=r)(hb:s.bad=false){z:α}{r:List UInt8}(hz:may z)(e:s.l=body z++r):s'.bad=false/\s'.l=r:=by
 cases h:s'.bad with
 | true=>
  rcases T.no h with h1 | h1
  ·rw[hb] at h1;cases h1
  exact absurd e (h1 z r hz)
 | false=>
  obtain⟨-,e2,g⟩:=T.yes h;exact⟨rfl,hinj z r _ hz g (e2.symm.trans e)⟩
theorem jE{t:UInt8}{f:MV->Int}(ht:0<t.toNat)(hf:∀m d,bW x m d=val t (au (f m).toNat))(hu:∀W m d,MAt W m d->U64M m d->MayF x m d->0<=f m/\f m<18446744073709551616)
  (T:Took (fun n:Nat=>val t (au n)) (fun n=>n<18446744073709551616) (fun n=>n<18446744073709551616) s n s') (ho:f o=(n:Int)) (hg:n<18446744073709551616->MayG x o c):StepX x s o c s' where
 yes:=fun h=>by
  obtain⟨a,b,g⟩:=T.yes h;refine⟨a,?_,hg g⟩;rw[hf,ho,yct];exact b
 go:=fun hb W m d r h1 h2 h3 e=>by
  obtain⟨u1,u2⟩:=hu W m d h1 h2 h3;rw[hf] at e;exact jh T (fun z r r' _ _ e=>(az ht (by rw[ai];omega) (by rw[ai];omega) e).2) hb (by omega) e
 le:=T.le
structure ReadM (s:RS)(k:Int)(ls:List Int)(j:Nat)(ch:Bool)(o:MV)(c:MC)(s':RS):Prop where
 yes:s'.bad=false->s.bad=false/\s.l=val 1 (au k.toNat)++(aS (ls.take j) o c++s'.l)/\∀x∈ls.take j,MayG x o c
 go:s.bad=false->∀(W:World) (m:MV) (d:MC) (r:List UInt8),MayM W m d->s.l=dL m d++r->m.k=k/\(lettersOf m.k m.wh).take j=ls.take j/\(ch=true->lettersOf m.k m.wh=ls)/\s'.bad=false/\s'.l=aS ((lettersOf m.k m.wh).drop j) m d++r
 le:s'.l.length<=s.l.length
theorem ReadM.first(T:Took (fun n:Nat=>val 1 (au n)) (fun n=>n<=12) (fun n=>n<18446744073709551616) s n s')(hn:1<=n/\n<=12):ReadM s n (lettersOf n false) 0 (decide (n≠10)) o c s' where
 yes:=fun h=>by
  obtain⟨a,b,-⟩:=T.yes h;exact⟨a,by rw[yct];simpa [aS] using b,fun x hx=>by simp at hx⟩
 go:=fun hb W m d r hM e=>by
  have hk:=hM.k;unfold dL at e;rw[yav] at e;obtain⟨h1,h2⟩:=jh T (fun z r r' _ _ e=>(az (by decide) (by rw[ai];omega) (by rw[ai];omega) e).2) hb (z:=m.k.toNat) (by omega) e;obtain⟨-,e2,g⟩:=T.yes h1;have e3:=iM g (by omega) (az (t:=1) (by decide) (by rw[ai];omega) (by rw[ai];omega) (e2.symm.trans e)).1;have hkn:m.k=(n:Int):=by omega
  refine⟨hkn,rfl,fun hc=>?_,h1,h2⟩;have h10:n≠10:=yar hc;rw[hkn];have:=yL (k:=(n:Int)) (by omega) (by omega);cases m.wh
  ·rfl
  exact this.symm
 le:=T.le
theorem BZ(wh:Bool):(lettersOf 10 wh).take 2=[118,102]:=by cases wh<;>rfl
theorem ReadM.step{s1 s2:RS}{k:Int}{ls:List Int}{j:Nat}{ch:Bool}{o':MV}{c':MC}(R:ReadM s k ls j ch o c s1)(hch:ch=true\/(k=10/\j<2/\ls=lettersOf 10 false))(hx:ls[j]?=some x)(S:StepX x s1 o' c' s2)
  (hkeep:∀y∈ls.take j,bW y o' c'=bW y o c/\(MayG y o c->MayG y o' c')):ReadM s k ls (j+1) ch o' c' s2 where
 yes:=fun h=>by
  obtain⟨a1,b1,g1⟩:=S.yes h;obtain⟨a2,b2,g2⟩:=R.yes a1;have e:aS (ls.take j) o' c'=aS (ls.take j) o c:=by
   unfold aS;rw[ycl,ycl]
   congr 1
   exact ycE (fun y hy=>(hkeep y hy).1)
  refine⟨a2,?_,fun y hy=>?_⟩
  ·rw[yaE,hx,ybu,pO,e,b2,b1];simp only[yav]
  rw[yaE,hx] at hy;rcases yaQ.1 hy with hy | hy
  ·exact (hkeep y hy).2 (g2 y hy)
  obtain rfl:y=x:=by simpa using hy
  exact g1
 go:=fun hb W m d r hM e=>by
  obtain⟨h1,h2,h3,h4,h5⟩:=R.go hb W m d r hM e;have hxm:(lettersOf m.k m.wh)[j]?=some x:=by
   rcases hch with hc | ⟨h10,hj,hls⟩
   ·rw[h3 hc];exact hx
   rw[h1,h10];have a1:((lettersOf 10 m.wh).take 2)[j]?=(lettersOf 10 m.wh)[j]?:=ybI hj;have a2:((lettersOf 10 false).take 2)[j]?=(lettersOf 10 false)[j]?:=ybI hj;rw[BZ] at a1 a2;rw[<-a1,a2,<-hls];exact hx
  have hd:(lettersOf m.k m.wh).drop j=x::(lettersOf m.k m.wh).drop (j+1):=by
   obtain⟨hl,he⟩:=yao.1 hxm;rw[ycc hl,he]
  rw[hd] at h5;have h6:s1.l=bW x m d++(aS ((lettersOf m.k m.wh).drop (j+1)) m d++r):=by rw[h5];unfold aS;rw[yaH,yav]
  obtain⟨h7,h8⟩:=S.go h4 W m d _ hM.at_ hM.u (hM.may x (yan hxm)) h6;refine⟨h1,?_,h3,h7,h8⟩;rw[yaE,yaE,h2,hxm,hx]
 le:=yae S.le R.le
end Msg
namespace Tlv
open Go.RowKit Mem
theorem Qr (t:UInt8)(b:List UInt8)(n:Nat)(hb:b.length=n)(hn:n<=4194400) :
  byV (val t b)=[.int .u8 (t.toNat:Int),.int .u8 ((n:Int) / 16777216),.int .u8 ((n:Int) / 65536),.int .u8 ((n:Int) / 256 % 256),.int .u8 ((n:Int) % 256)]++byV b:=by
 subst hb;have h1:(b.length:Int) / 16777216=((UInt8.ofNat (b.length / 16777216)).toNat:Int):=by rw[yaT];omega
 have h2:(b.length:Int) / 65536=((UInt8.ofNat (b.length / 65536)).toNat:Int):=by rw[yaT];omega
 have h3:(b.length:Int) / 256 % 256=((UInt8.ofNat (b.length / 256)).toNat:Int):=by rw[yaT];omega
 have h4:(b.length:Int) % 256=((UInt8.ofNat b.length).toNat:Int):=by rw[yaT];omega
 rw[h1,h2,h3,h4];rfl
theorem GU (t:UInt8)(b:List UInt8)(ao:Option Addr)(n cap:Nat)(W:World)(hn:n<=4194400)(hr:Rd W 1 ao n cap (byV b)) :
  Calls Tryz.prog 84 #[.int .u8 (t.toNat:Int),.slice ao n cap] W (jw W (val t b)):=by
 have hbl:b.length=n:=by have:=hr.1;rw[aV] at this;omega
 have k63:5+n<=maxLen:=by unfold maxLen;omega
 have kby:(5+n)*1<=140737488355328:=by omega
 have hv:byV (val t b)=[.int .u8 (t.toNat:Int),.int .u8 ((n:Int) / 16777216),.int .u8 ((n:Int) / 65536 % 256),.int .u8 ((n:Int) / 256 % 256),.int .u8 ((n:Int) % 256)]++byV b:=by
  rw[Qr t b n hbl hn,show (n:Int) / 65536 % 256=(n:Int) / 65536 from by omega]
 have hvl:=ae t b;rw[hbl] at hvl;have Hv:=Lib.hid hv;have Hvl:=Lib.hid hvl;clear hv hvl;have hb0:∀o,Below W.heap.size W (W.alloc o):=fun o=>(yaj _ W).alloc (yag _) _;have ho0:=Fv W 5 [.int .u8 (t.toNat:Int),.int .u8 ((n:Int) / 16777216),.int .u8 ((n:Int) / 65536 % 256),.int .u8 ((n:Int) / 256 % 256),.int .u8 ((n:Int) % 256)] 5 rfl (by decide);have hr1:=hr.later (hb0 (.cells [Value.int .u8 (t.toNat:Int),.int .u8 ((n:Int) / 16777216),.int .u8 ((n:Int) / 65536 % 256),.int .u8 ((n:Int) / 256 % 256),.int .u8 ((n:Int) % 256)].toArray 5));have hsz:W.heap.size<=(W.alloc (.cells [Value.int .u8 (t.toNat:Int),.int .u8 ((n:Int) / 16777216),.int .u8 ((n:Int) / 65536 % 256),.int .u8 ((n:Int) / 256 % 256),.int .u8 ((n:Int) % 256)].toArray 5)).heap.size:=by simp
 go_in;go_wp2_with (at_builtin;refine dZ _ rfl (.tmp 25) (.tmp 26) 34 rfl W.heap.size 5 (.int .u8 0) 1 1 byT _ 5 _ rfl ho0 ao n cap (byV b) rfl hr1 (bM _) k63 kby hsz ?_;intro ao2 cap2 w2 ho2 hg2 hb2 _);go_ret;refine⟨_,rfl,?_,(hb0 _).trans hb2⟩;rw[Hvl.out,Hv.out];exact ho2
end Tlv
namespace Msg
open Go.RowKit Go.Lib Mem Tlv
variable{c:MC}{m o:MV}{ok:Bool}{s s' s1:RS}{y:List UInt8}
def lJ (l:List RP):List (List UInt8):=l.map fun p=>dG p.1 (opL p.1.op p.2)
theorem GN(l:List RP)(k:Nat)(p:RP)(h:l[k]?=some p):lJ (l.take (k+1))=lJ (l.take k)++[dG p.1 (opL p.1.op p.2)]:=by
 rw[yaE,h];simp[lJ]
theorem qf(l:List RP):aK 1 (lJ l)=gq l:=by simp[aK,lJ,gq,List.flatMap_map]
theorem EM{p:RP}(hp:p∈c.log)(hm:aA p.1.op p.2=false):fC 108 m c=false:=by
 have e:(c.log.any fun u=>!aA u.1.op u.2)=true:=List.any_eq_true.2 ⟨p,hp,by simp[hm]⟩;show ((!(c.log.any fun u=>!aA u.1.op u.2))&&decide (m.ln<=4096))=false;rw[e];rfl
theorem Dy(h:∀p∈c.log,aA p.1.op p.2=true):fC 108 m c=decide (m.ln<=4096):=by
 have e:(c.log.any fun u=>!aA u.1.op u.2)=false:=yaS.2 (fun p hp=>by simp[h p hp]);show ((!(c.log.any fun u=>!aA u.1.op u.2))&&decide (m.ln<=4096))=_;rw[e];rfl
structure RlLoop (w:World)(m:MV)(c:MC)(k:Nat)(l:Value)(wr:World):Prop where
 q:wr.heap[w.heap.size]?=some m.box
 bel:Below w.heap.size w wr
 ex:∃xs:List El,wr.ownsRow (w.heap.size+1) 34 1 l k (lsV xs)/\elB xs=lJ (c.log.take k)/\ElAt wr xs
 all:∀p∈c.log.take k,aA p.1.op p.2=true
theorem IX(m:MV)(c:MC)(w:World)(h:MAt w m c)(hu:U64M m c)(hf:FitsM m c)(hn:m.ln<=1000000):Calls Tryz.prog 53 #[m.val,.int .u8 13] w (lw 108 m c w):=by
 have lx:=h.lg.len;have LX:=hid lx;clear lx;have hb0:=bN w m.box;have k0:=aN w m.box
 unfold MV.box MV.cells at hb0 k0;unfold MV.val MV.cells;go_in;go_upto_region 1 with fail;generalize hg:w.alloc _=W0 at *;have q0:W0.heap[w.heap.size]?=some m.box:=k0;clear hg k0;have s0:RlLoop w m c 0 (.slice none 0 0) W0:=⟨q0,hb0,⟨[],yaC _ _ _ _,rfl,fun x hx=>by cases hx⟩,fun p hp=>by cases hp⟩
 clear q0 hb0;go_wp2_with fail;go_loopw [8,9] (fun l p wr=>∃k:Nat,k<=m.ln/\p=.int .i64 (k:Int)/\RlLoop w m c k l wr) (fun _ p _=>m.ln-(intOf p).toNat)
 case atStart=>exact⟨0,yam _,rfl,s0⟩
 case round=>
  rename_i lv _ _ _;obtain⟨k,hk,rfl,s1⟩:=hrel;clear s0;obtain⟨xs,own,hel,hat⟩:=s1.ex;obtain⟨u4,k4,rfl,-⟩:=Rd.of_own own;have Hel:=hid hel;have Hall:=hid s1.all;have q:=s1.q;have bel:=s1.bel;have c23:=(McAt.of q).c23;clear hel s1;by_cases hkn:k<m.ln
  ·have hg:=(h.later bel).lg;obtain⟨b,o,hao,hlt,hc1⟩:=hg.r.some (by have:=hg.r.le;omega);obtain⟨p,hp⟩:∃p,c.log[k]?=some p:=⟨_,yac (by rw[LX.out];exact hkn)⟩
   have hpm:=yan hp;have hOp:=hg.each p hpm;have hx1:=hg.r;rw[hao] at hx1 c23;have hrg:=mg hx1 hp;have hop:∀(j:Nat) (v:Value),p.1.op.cells[j]?=some v->wr.cell? ⟨b,o+k*9+2+j,none⟩=some v:=fun j v hv=>by
    have hj:j<7:=by
     have:=lA hv;simpa [OV.cells] using this
    have:=hrg (2+j) v (by rcases (by omega:j=0\/j=1\/j=2\/j=3\/j=4\/j=5\/j=6) with rfl|rfl|rfl|rfl|rfl|rfl|rfl<;>exact hv);rw[show o+k*9+(2+j)=o+k*9+2+j by omega] at this;exact this
   have HPM:=hid hpm;have HP:=hid hp;have HA:=hid hao;have hUp:=hu.log p hpm;have i0:(0:Int)<=(k:Int):=by omega
   have i1:(k:Int)<(m.ln:Int):=by omega
   have hcap:m.ln<=m.lc:=hg.r.le;have hme:=jq p.1.op p.2 wr hOp;unfold OV.val at hme;unfold OV.cells at hop;clear hg hx1 hc1 hpm hp hao;go_wp2_with (refine dB (ty:=36) hop rfl rfl rfl (by kernel_rfl) (by kernel_rfl) ?_;go_simp);refine hme.mono ?_;rintro e W1 ⟨rfl,hb1⟩;have q1:=af q hb1;have bel1:=bel.trans (hb1.mono bel.size);clear hme hop c23 q;cases hm:aA p.1.op p.2 with
   | false=>
    have HN:Hid (fC 108 m c=false):=hid (EM HPM.out hm);clear hm;go_wp2_with fail;go_ret2;exact⟨[],none,0,false,rfl,Rd.nil _ _,bel1,HN.out.symm,fun e=>by cases e⟩
   | true=>
    have HM:=hid hm;have hr:=uU p.1 p.2 W1 (hOp.later hb1) hm hUp.c0 hUp.c1 hUp.n0 hUp.n1;rw[lZ hm] at hr;unfold RV.val RV.cells at hr;have c23:=(McAt.of q1).c23;rw[HA.out] at c23;have hrg1:=jF hrg hb1;unfold RV.cells at hrg1;clear hm hrg;go_wp2_with (refine dB (ty:=55) hrg1 rfl rfl rfl (by kernel_rfl) (by kernel_rfl) ?_;go_simp);refine hr.mono ?_;rintro e W2 ⟨v3,rfl,o3,hb2⟩;obtain⟨a3,k3,e3,r3⟩:=Rd.of_own o3;subst e3;have t3:=TyX.of_own o3;have q2:=af q1 hb2;have bel2:=bel1.trans (hb2.mono bel1.size);have own2:=ag (ag own hb1) hb2;have hat2:=((hat.kpr (KeepR.of_below hb1)).kpr (KeepR.of_below hb2)).snoc (x:=⟨(1,dG p.1 (opL p.1.op p.2)),a3,k3⟩) r3 t3;have z2:w.heap.size+1<=W2.heap.size:=lA q2;clear hr hrg1 c23 own hat o3 r3 t3 q1 hOp hb1 hb2;go_wp2_with (at_builtin;refine fM _ rfl (.tmp 82) (.tmp 89) 151 rfl (w.heap.size+1) 34 (.slice none 0 0) 1 24 lsT (by decide) _ k (lsV xs) rfl own2 1 [.slice a3 (dG p.1 (opL p.1.op p.2)).length k3] rfl rfl (one1 _ rfl) z2 (by omega) ?_;intro ao4 cap4 W4 o4 hg4 hb4 _);have hK:KeepR W2 W4:=(KeepR.of_below (bN _ _)).trans (pG hg4 (own2.alloc _) (fun t ht e=>by rcases ht with rfl|rfl|rfl<;>exact absurd e (by decide)));have hat4:=hat2.kpr hK;have q4:W4.heap[w.heap.size]?=some m.box:=(hb4.block _ (ybY _)).trans q2;have bel4:=bel2.trans (hb4.mono (ycG _));have hp2:=HP.out;go_roundw
    case rel=>
     refine⟨k+1,by omega,by go_num,q4,bel4,⟨xs++[⟨(1,dG p.1 (opL p.1.op p.2)),a3,k3⟩],?_,?_,hat4⟩,fun z hz=>?_⟩
     ·rw[Aw];exact o4
     ·rw[mf,GN _ _ _ hp2,Hel.out]
     rw[yaE,hp2] at hz;rcases yaQ.1 hz with hz | hz
     ·exact Hall.out z hz
     obtain rfl:z=p:=by simpa using hz
     exact HM.out
    case measure=>simp[intOf];omega
  have hke:k=m.ln:=by omega
  have hfull:c.log.take k=c.log:=yak (by rw[LX.out];omega);have hallE:∀p∈c.log,aA p.1.op p.2=true:=fun p hp=>Hall.out p (by rw[hfull];exact hp);have hlen:=hf.lg hallE;have htag:aK 1 (elB xs)=gq c.log:=by rw[Hel.out,hfull,qf]
  obtain⟨a4,k4',e4,r4⟩:=Rd.of_own own;obtain⟨rfl,rfl⟩:u4=a4/\k4=k4':=by simpa using e4
  have hlst:=DV 13 u4 _ k4 xs wr r4 (fun u hu=>(hat u hu).1) (by rw[htag];exact hlen);rw[htag] at hlst;have HE:Hid (fC 108 m c=decide (m.ln<=4096)):=hid (Dy hallE);obtain⟨Z,hZ⟩:∃Z,val 13 (gq c.log)=Z:=⟨_,rfl⟩
  rw[hZ] at hlst;have HZ:Hid (bW 108 m c=Z):=hid hZ;subst hke;clear hfull hallE hlen htag hZ own hat r4 e4;go_wp2_with fail;refine hlst.mono ?_;rintro e W2 ⟨v2,rfl,o2,hb2⟩;obtain⟨a2,k2,e2,r2⟩:=Rd.of_own o2;subst e2;have bel2:=bel.trans (hb2.mono bel.size);clear hlst o2 hb2 c23 q;by_cases h4:m.ln<=4096
  ·have f1:decide ((m.ln:Int)<=4096)=true:=yaa (by omega);have HF:Hid (fC 108 m c=true):=hid (by rw[HE.out,yaa h4]);clear h4;go_wp2_with fail;go_ret2;exact⟨Z,a2,k2,true,rfl,r2,bel2,HF.out.symm,fun _=>HZ.out.symm⟩
  have f1:decide ((m.ln:Int)<=4096)=false:=yad (by omega);have HF:Hid (fC 108 m c=false):=hid (by rw[HE.out,yad h4]);clear h4;go_wp2_with fail;go_ret2;exact⟨Z,a2,k2,false,rfl,r2,bel2,HF.out.symm,fun e=>by cases e⟩
structure RnLoop (w:World)(m:MV)(c:MC)(k:Nat)(l:Value)(wr:World):Prop where
 q:wr.heap[w.heap.size]?=some m.box
 bel:Below w.heap.size w wr
 own:wr.ownsRow (w.heap.size+1) 5 1 l (df (c.seen.take k)).length (byV (df (c.seen.take k)))
theorem GI(m:MV)(c:MC)(w:World)(h:MAt w m c)(hu:U64M m c)(hn:m.hn<=322639):Calls Tryz.prog 53 #[m.val,.int .u8 16] w (lw 101 m c w):=by
 have hmo:=hmO
 have lx:c.seen.length=m.hn:=by have:=h.se.1;rw[iq] at this;omega
 have LX:=hid lx;clear lx;have hb0:=bN w m.box;have k0:=aN w m.box
 unfold MV.box MV.cells at hb0 k0;unfold MV.val MV.cells;go_in;go_upto_region 1 with fail;generalize hg:w.alloc _=W0 at *;have q0:W0.heap[w.heap.size]?=some m.box:=k0;clear hg k0;have s0:RnLoop w m c 0 (.slice none 0 0) W0:=⟨q0,hb0,yaC _ _ _ _⟩
 clear q0 hb0;go_wp2_with fail;go_loopw [12,13] (fun l p wr=>∃k:Nat,k<=m.hn/\p=.int .i64 (k:Int)/\RnLoop w m c k l wr) (fun _ p _=>m.hn-(intOf p).toNat)
 case atStart=>exact⟨0,yam _,rfl,s0⟩
 case round=>
  rename_i lv _ _ _;obtain⟨k,hk,rfl,s1⟩:=hrel;clear s0;have own:=s1.own;obtain⟨u4,k4,rfl,r4⟩:=Rd.of_own own;have q:=s1.q;have bel:=s1.bel;have c26:=(McAt.of q).c26;clear s1;by_cases hkn:k<m.hn
  ·have hg:=(h.later bel).se;obtain⟨b,o,hao,hlt,hc1⟩:=hg.some (by have:=hg.le;omega);obtain⟨p,hp⟩:∃p,c.seen[k]?=some p:=⟨_,yac (by rw[LX.out];exact hkn)⟩
   have hpm:=yan hp;have hcell:=hc1 k _ (oW _ k p hp);rw[hao] at c26;have HP:=hid hp;have i0:(0:Int)<=(k:Int):=by omega
   have i1:(k:Int)<(m.hn:Int):=by omega
   have hcap:m.hn<=m.hc:=hg.le;have hnum:=iY 1 p wr (hu.seen p hpm);have hsn:df (c.seen.take (k+1))=df (c.seen.take k)++val 1 (au p):=by rw[yaE,hp];exact zJ _ _
   have HS:=hid hsn;have hlen:(df (c.seen.take k)).length<=4200000:=by rw[jS,yaV];omega
   have hvl:(val 1 (au p)).length=13:=by rw[ae,ai]
   clear hg hc1 hpm hp hao hsn r4;go_wp2_with fail;refine hnum.mono ?_;rintro e W2 ⟨v3,rfl,o3,hb2⟩;obtain⟨a3,k3,e3,r3⟩:=Rd.of_own o3;subst e3;have q2:=af q hb2;have bel2:=bel.trans (hb2.mono bel.size);have own2:=ag own hb2;have z2:w.heap.size+1<=W2.heap.size:=lA q2;clear hnum c26 hcell own o3 q hb2;go_wp2_with (at_builtin;refine dZ _ rfl (.tmp 117) (.tmp 123) 34 rfl (w.heap.size+1) 5 (.int .u8 0) 1 1 byT _ _ (byV (df (c.seen.take k))) rfl own2 a3 _ k3 (byV (val 1 (au p))) rfl r3 (bM _) (by unfold maxLen;omega) (by omega) z2 ?_;intro ao4 cap4 W4 o4 hg4 hb4 _);have q4:W4.heap[w.heap.size]?=some m.box:=(hb4.block _ (ybY _)).trans q2;have bel4:=bel2.trans (hb4.mono (ycG _));go_roundw
   case rel=>
    refine⟨k+1,by omega,by go_num,q4,bel4,?_⟩;rw[HS.out,yab,dS];exact o4
   case measure=>simp[intOf];omega
  have hke:k=m.hn:=by omega
  have hfull:c.seen.take k=c.seen:=yak (by rw[LX.out];omega);obtain⟨S,hS⟩:∃S,df (c.seen.take k)=S:=⟨_,rfl⟩
  rw[hS] at r4 ⊢;have hSf:df c.seen=S:=by rw[<-hS,hfull]
  have hlen:S.length<=4194400:=by rw[<-hSf,jS,LX.out];omega
  obtain⟨Z,hZ⟩:∃Z,val 16 S=Z:=⟨_,rfl⟩
  have HZ:Hid (bW 101 m c=Z):=hid (by rw[<-hZ,<-hSf];rfl);have HE:Hid (fC 101 m c=decide ((m.hn:Int)<=7)):=hid (by show decide (m.hn<=7)=_;by_cases h7:m.hn<=7<;>simp[h7]<;>omega);clear hfull own hS hSf hke;go_upto_region 31 with fail;refine yaB (S:=fun W=>W.heap[w.heap.size]?=some m.box) hmo ?_;change wpAnyH _ _ _ _ _ _ _ _ (World.drew wr);have hd:Below wr.heap.size wr wr.drew:=(yaj _ _).drew;have t0:=af q hd;have hbel:=bel.trans (hd.mono bel.size);have hv:=GU 16 S u4 _ k4 wr.drew hlen (r4.later hd);rw[hZ] at hv;generalize World.drew wr=X0 at *;clear hd q c26 r4 hlen hZ;refine zp 0 (.slice u4 S.length k4) rfl (zp 2 (pp w.heap.size 26) rfl ?_);go_simp;refine zHa 3 (.slice m.ho m.hn m.hc) rfl (by rintro w2 h2;have cc:w2.cell? ⟨w.heap.size,26,none⟩=some (.slice m.ho m.hn m.hc):=(McAt.of h2).c26;go_simp) t0 ?_;go_simp;refine zp 4 (.int .i64 (m.hn:Int)) rfl (zp 5 (.bool (decide ((m.hn:Int)<=7))) rfl ?_);go_simp;refine zC 1 rfl hv ?_;rintro e X1 ⟨v2,rfl,o2,hb2⟩;obtain⟨a2,k2,e2,r2⟩:=Rd.of_own o2;subst e2;have t1:=af t0 hb2;have hbel2:=hbel.trans (hb2.mono hbel.size);clear o2 hb2 hv;refine⟨t1,?_⟩;go_simp;refine zp 6 (.slice a2 Z.length k2) rfl (zp 7 (.bool (decide ((m.hn:Int)<=7))) rfl ?_);go_simp;refine zd ?_;go_wp2_with fail;go_ret2;exact⟨Z,a2,k2,_,rfl,r2,hbel2,HE.out.symm,fun _=>HZ.out.symm⟩
theorem Dp(t:UInt8)(b r:List UInt8)(ht:0<t.toNat)(hb:b.length<=4194304):RS.tagR ⟨val t b++r,false⟩=t:=by
 unfold RS.tagR;rw[if_neg (by
  rintro (h | h)
  ·cases h
  rw[yI t b r ht hb] at h;omega),A8 t b r ht hb]
theorem ReadM.choose(R:ReadM s 10 (lettersOf 10 false) 2 false o c s'):ReadM s 10 (lettersOf 10 (decide (s'.tagR=10))) 2 true o c s' where
 yes:=fun h=>by
  obtain⟨a,b,g⟩:=R.yes h;rw[BZ] at b g ⊢;exact⟨a,b,g⟩
 go:=fun hb W m d r hM e=>by
  obtain⟨h1,h2,-,h4,h5⟩:=R.go hb W m d r hM e;have key:s'.tagR=10↔m.wh=true:=by
   have hs:s'=⟨s'.l,false⟩:=by rw[<-h4]
   rw[hs,h5,h1];cases hw:m.wh with
   | true=>
    have e1:aS ((lettersOf 10 true).drop 2) m d++r=val 10 (au m.cm.toNat)++(aS [98,115,108,111,119,101] m d++r):=by
     rw[<-yav];rfl
    rw[e1,Dp _ _ _ (by decide) (by rw[ai];omega)];exact⟨fun _=>rfl,fun _=>rfl⟩
   | false=>
    have e1:aS ((lettersOf 10 false).drop 2) m d++r=val 14 (au m.nc.toNat)++(aS [119,101] m d++r):=by
     rw[<-yav];rfl
    rw[e1,Dp _ _ _ (by decide) (by rw[ai];omega)];exact⟨fun h=>absurd h (by decide),fun h=>by cases h⟩
  have hch:decide (s'.tagR=10)=m.wh:=by
   cases hw:m.wh with
   | true=>exact yaa (key.2 hw)
   | false=>exact yad (fun h=>by rw[key.1 h] at hw;cases hw)
  refine⟨h1,by rw[BZ,h2,BZ],fun _=>by rw[h1,hch],h4,h5⟩
 le:=R.le
theorem BI(T:Took (val 12) (fun z=>z.length<=4194304) (fun z=>z.length<=4194304) s y s')(hc:c.snap=y):StepX 115 s o c s' where
 yes:=fun h=>by
  obtain⟨a,b,g⟩:=T.yes h;refine⟨a,by show s.l=val 12 c.snap++s'.l;rw[hc];exact b,⟨fun e=>absurd e (by decide),fun e=>absurd e (by decide),fun e=>absurd e (by decide),fun _=>by rw[hc];exact g,fun e=>absurd e (by decide),fun e=>absurd e (by decide)⟩⟩
 go:=fun hb W m d r h1 h2 h3 e=>jh T (fun z r r' hz hg e=>(az (by decide) hg hz e).2) hb (h3.g h1 |>.sn rfl) e
 le:=T.le
theorem zn{y:Bool}(T:Took (fun b:Bool=>val 15 [if b then 1 else 0]) (fun _=>True) (fun _=>True) s y s')(ho:o.wh=y):StepX 119 s o c s' where
 yes:=fun h=>by
  obtain⟨a,b,g⟩:=T.yes h;refine⟨a,by show s.l=val 15 [if o.wh then 1 else 0]++s'.l;rw[ho];exact b,⟨fun e=>absurd e (by decide),fun e=>absurd e (by decide),fun e=>absurd e (by decide),fun e=>absurd e (by decide),fun e=>absurd e (by decide),fun e=>absurd e (by decide)⟩⟩
 go:=fun hb W m d r h1 h2 h3 e=>jh T (fun z r r' _ _ e=>(az (by decide) (by simp) (by simp) e).2) hb trivial (z:=m.wh) e
 le:=T.le
theorem Es(T:Took (val 7) (fun z=>z.length<=4194304) (fun z=>z.length<=4194304) s y s1)
  (hok:ok=true->aA o.rq.op c.rq=true/\dG o.rq (opL o.rq.op c.rq)=y) (hno:ok=false->qW y):StepX 113 s o c ⟨s1.l,s1.bad||!ok⟩ where
 yes:=fun h=>by
  dsimp only at h;rw[yaU] at h;obtain⟨h1,h2⟩:=h;have h3:ok=true:=by simpa using h2
  obtain⟨g1,g2⟩:=hok h3;obtain⟨a,b,g⟩:=T.yes h1;exact⟨a,by show s.l=val 7 (dG o.rq (opL o.rq.op c.rq))++s1.l;rw[g2];exact b,⟨fun e=>absurd e (by decide),fun _=>g1,fun e=>absurd e (by decide),fun e=>absurd e (by decide),fun e=>absurd e (by decide),fun e=>absurd e (by decide)⟩⟩
 go:=fun hb W m d r h1 h2 h3 e=>by
  have hm:=h3.rq rfl;have hl:=iJ h1.rq hm;have hz:(dG m.rq (opL m.rq.op d.rq)).length<=4194304:=by rw[gX];omega
  obtain⟨b1,b2⟩:=jh T (fun z r r' hz hg e=>(az (by decide) hg hz e).2) hb hz e;obtain⟨-,e2,g⟩:=T.yes b1;have hy:=(az (t:=7) (by decide) g hz (e2.symm.trans e)).1;refine⟨?_,b2⟩;cases hok2:ok with
  | true=>show (s1.bad||!true)=false;rw[b1];rfl
  | false=>exact absurd hy.symm (hno hok2 W m.rq d.rq h1.rq hm h2.rq)
 le:=T.le
theorem CG(T:Took (val 8) (fun z=>z.length<=4194304) (fun z=>z.length<=4194304) s y s1)
  (hok:ok=true->bz o.rs c.rs=true/\dM o.rs c.rs=y) (hno:ok=false->uI y):StepX 114 s o c ⟨s1.l,s1.bad||!ok⟩ where
 yes:=fun h=>by
  dsimp only at h;rw[yaU] at h;obtain⟨h1,h2⟩:=h;have h3:ok=true:=by simpa using h2
  obtain⟨g1,g2⟩:=hok h3;obtain⟨a,b,g⟩:=T.yes h1;exact⟨a,by show s.l=val 8 (dM o.rs c.rs)++s1.l;rw[g2];exact b,⟨fun e=>absurd e (by decide),fun e=>absurd e (by decide),fun _=>⟨g1,by rw[g2];exact g⟩,fun e=>absurd e (by decide),fun e=>absurd e (by decide),fun e=>absurd e (by decide)⟩⟩
 go:=fun hb W m d r h1 h2 h3 e=>by
  obtain⟨hm,hz⟩:=h3.rs rfl;obtain⟨b1,b2⟩:=jh T (fun z r r' hz hg e=>(az (by decide) hg hz e).2) hb hz e;obtain⟨-,e2,g⟩:=T.yes b1;have hy:=(az (t:=8) (by decide) g hz (e2.symm.trans e)).1;refine⟨?_,b2⟩;cases hok2:ok with
  | true=>show (s1.bad||!true)=false;rw[b1];rfl
  | false=>exact absurd hy.symm (hno hok2 W m.rs d.rs h1.rs hm)
 le:=T.le
theorem NJ{L:List (List UInt8)}(T:Took (fun L=>val 13 (aK 1 L)) (fun L=>(aK 1 L).length<=4194304) (fun L=>(aK 1 L).length<=4194304) s L s1)
  (hok:ok=true->(∀p∈c.log,aA p.1.op p.2=true)/\lJ c.log=L) (hno:ok=false->∃y∈L,qW y):StepX 108 s o c ⟨s1.l,s1.bad||!ok⟩ where
 yes:=fun h=>by
  dsimp only at h;rw[yaU] at h;obtain⟨h1,h2⟩:=h;have h3:ok=true:=by simpa using h2
  obtain⟨g1,g2⟩:=hok h3;obtain⟨a,b,g⟩:=T.yes h1;have e:gq c.log=aK 1 L:=by rw[<-g2,qf]
  exact⟨a,by show s.l=val 13 (gq c.log)++s1.l;rw[e];exact b,⟨fun e=>absurd e (by decide),fun e=>absurd e (by decide),fun e=>absurd e (by decide),fun e=>absurd e (by decide),fun _=>⟨g1,by rw[e];exact g⟩,fun e=>absurd e (by decide)⟩⟩
 go:=fun hb W m d r h1 h2 h3 e=>by
  obtain⟨hm,hz,-⟩:=h3.log rfl;have e':s.l=val 13 (aK 1 (lJ d.log))++r:=by rw[qf];exact e
  rw[<-qf] at hz;obtain⟨b1,b2⟩:=jh T (fun z r r' hz hg e=>(az (by decide) hg hz e).2) hb hz e';obtain⟨-,e2,g⟩:=T.yes b1;have hy:=vP (by decide) g (az (t:=13) (by decide) g hz (e2.symm.trans e')).1;refine⟨?_,b2⟩;cases hok2:ok with
  | true=>show (s1.bad||!true)=false;rw[b1];rfl
  | false=>
   obtain⟨y,hyL,hn⟩:=hno hok2;rw[hy] at hyL;obtain⟨p,hp,rfl⟩:=ybM.1 hyL;exact absurd rfl (hn W p.1 p.2 (h1.lg.each p hp) (hm p hp) (h2.log p hp))
 le:=T.le
theorem step_seen(T:Took (val 16) (fun z=>z.length<=4194304) (fun z=>z.length<=4194304) s y s1)
  (hok:ok=true->df c.seen=y) (hno:ok=false->∀l:List Nat,(∀n∈l,n<18446744073709551616)->df l≠y):StepX 101 s o c ⟨s1.l,s1.bad||!ok⟩ where
 yes:=fun h=>by
  dsimp only at h;rw[yaU] at h;obtain⟨h1,h2⟩:=h;have h3:ok=true:=by simpa using h2
  have g2:=hok h3;obtain⟨a,b,g⟩:=T.yes h1;exact⟨a,by show s.l=val 16 (df c.seen)++s1.l;rw[g2];exact b,⟨fun e=>absurd e (by decide),fun e=>absurd e (by decide),fun e=>absurd e (by decide),fun e=>absurd e (by decide),fun e=>absurd e (by decide),fun _=>by rw[g2];exact g⟩⟩
 go:=fun hb W m d r h1 h2 h3 e=>by
  have hz:=(h3.g h1).seen rfl;obtain⟨b1,b2⟩:=jh T (fun z r r' hz hg e=>(az (by decide) hg hz e).2) hb hz e;obtain⟨-,e2,g⟩:=T.yes b1;have hy:=(az (t:=16) (by decide) g hz (e2.symm.trans e)).1;refine⟨?_,b2⟩;cases hok2:ok with
  | true=>show (s1.bad||!true)=false;rw[b1];rfl
  | false=>exact absurd hy.symm (hno hok2 d.seen h2.seen)
 le:=T.le
structure TookM (s:RS)(o:MV)(c:MC)(s':RS):Prop where
 yes:s'.bad=false->s.bad=false/\s.l=dL o c++s'.l/\(∀x∈lettersOf o.k o.wh,MayG x o c)/\0<=o.fr/\o.fr<7
 go:s.bad=false->∀(W:World) (m:MV) (d:MC) (r:List UInt8),MayM W m d->s.l=dL m d++r->s'.bad=false/\s'.l=r
 le:s'.l.length<=s.l.length
theorem jb{k:Int}{wh:Bool}:∀x∈lettersOf k wh,x∈dF:=fun _ hx=>(List.mem_filter.1 hx).1
theorem Gh{a b:Bool}(h:lettersOf 10 a=lettersOf 10 b):a=b:=by
 cases a<;>cases b<;>first | rfl | exact absurd h (by decide)
theorem MJ(b:Bool):(119:Int)∈lettersOf 10 b:=by cases b<;>decide
theorem ReadM.done{W':World}{ls:List Int}{whole:Bool}(R:ReadM s o.k ls ls.length true o c s')(hls:ls=lettersOf o.k whole)(hw:o.k≠10->whole=false/\o.wh=false)
  (hz:(102:Int)∉ls->o.fr=0) (hat:MAt W' o c) (hu:U64M o c) (hfr:0<=o.fr/\o.fr<18446744073709551616) :
  TookM s { o with fr:=o.fr % 7 } c ⟨s'.l,s'.bad||(decide (7<=o.fr)||(whole != o.wh))⟩ where
 yes:=fun h=>by
  dsimp only at h;rw[yaU,yaU] at h;obtain⟨h1,h2,h3⟩:=h;have h7:o.fr<7:=by have:=ybQ h2;omega
  have h4:whole=o.wh:=by simpa using h3
  have e:({ o with fr:=o.fr % 7 }:MV)=o:=by rw[show o.fr % 7=o.fr by omega]
  rw[e];obtain⟨a,b,g⟩:=R.yes h1;rw[ybG] at b g;rw[hls,h4] at b g;refine⟨a,?_,g,hfr.1,h7⟩;unfold dL;rw[b];simp only[yav]
 go:=fun hb W m d r hM e=>by
  obtain⟨h1,-,h3,h4,h5⟩:=R.go hb W m d r hM e;have hl:=h3 rfl;rw[hl,List.drop_length] at h5;obtain⟨-,b,g⟩:=R.yes h4;rw[ybG] at b g;have e2:aS ls o c++s'.l=aS ls m d++r:=by
   have h6:val 1 (au o.k.toNat)++(aS ls o c++s'.l)=val 1 (au o.k.toNat)++(aS ls m d++r):=by
    rw[<-b,e];unfold dL;rw[hl,h1];simp only[yav]
   exact (az (by decide) (by rw[ai];omega) (by rw[ai];omega) h6).2
  have hag:=(tN hat hM.at_ hu hM.u ls _ _ (fun x hx=>jb x (hls▸hx)) g (fun x hx=>(hM.may x (hl▸hx)).g hM.at_) e2).1;have f7:o.fr<7:=by
   by_cases h:(102:Int)∈ls
   ·have h8:o.fr=m.fr:=yar (hag 102 h);have:=(hM.may 102 (hl▸h)).fr rfl;omega
   rw[hz h];decide
  have hwh:whole=o.wh:=by
   by_cases h10:o.k=10
   ·have h8:o.wh=m.wh:=yar (hag 119 (by rw[hls,h10];exact MJ _));rw[h1,h10,hls,h10] at hl;rw[h8];exact (Gh hl).symm
   obtain⟨a1,a2⟩:=hw h10;rw[a1,a2]
  refine⟨?_,by simpa [aS] using h5⟩;dsimp only;rw[h4,yad (show ¬7<=o.fr by omega),hwh];simp
 le:=R.le
