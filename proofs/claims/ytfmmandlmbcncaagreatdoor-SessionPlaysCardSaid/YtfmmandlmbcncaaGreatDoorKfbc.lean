/-A part of the proof.-/
import Derived.Test.YtfmmandlmbcncaaGreatDoorKfbb
set_option maxHeartbeats 40000000
set_option maxRecDepth 100000
set_option linter.all false
namespace Go.Proofs.YtfmmandlmbcncaaGreatDoor
namespace Msg
open Go.RowKit Go.Lib Mem Tlv
variable{a4:Option Addr}{cs:Array Value}{i k4 n:Nat}{q' s:RS}{v:Value}
theorem JO(s:RS)(t:UInt8):(s.num t).1<18446744073709551616:=by
 rw[Bq];split
 ·show 0<18446744073709551616;decide
 exact pF _ 8
theorem QO{B g ob nb rb:Nat}{w:World}{T:Option Addr}{l8:List UInt8}{tc:Nat}{x:Int}{o:MV}{c:MC}{s':RS}{W:World}(hx:x∈[118,110,102,99,117,97,109,98,111])(h1:TkM B g ob nb rb w T l8 tc o c s' W)
  (TT:Took (fun n:Nat=>val (jW x) (au n)) (fun n=>n<18446744073709551616) (fun n=>n<18446744073709551616) s n s') (hn:n<18446744073709551616):SwM B g ob nb rb w T l8 tc x o c s (W.setCell ⟨nb,(jW x).toNat,none⟩ (.int .u64 (n:Int))):=by
 have hN:(0:Int)<=(n:Int)/\(n:Int)<18446744073709551616:=by omega
 have hX:BelX W.heap.size [nb] W (W.setCell ⟨nb,(jW x).toNat,none⟩ (.int .u64 (n:Int))):=(BelX.refl _ _ _).set _ _ _ (.inl (by simp));simp only[yas,yal,or_false] at hx;rcases hx with rfl|rfl|rfl|rfl|rfl|rfl|rfl|rfl|rfl
 all_goals
  refine⟨{ o with vi:=(n:Int),no:=(n:Int),fr:=(n:Int),cl:=(n:Int),nu:=(n:Int),at_:=(n:Int),cm:=(n:Int),bs:=(n:Int),nc:=(n:Int) },c,s',h1.nums hX ((at_set h1.na).trans (by kernel_rfl)) rfl (by constructor<;>first | exact hN | exact h1.u.vi | exact h1.u.no | exact h1.u.cl | exact h1.u.nu | exact h1.u.at_ | exact h1.u.cm | exact h1.u.bs | exact h1.u.nc | exact h1.u.rq | exact h1.u.log | exact h1.u.seen) (by first | exact hN | exact h1.fr),?_⟩
  first | exact jE (f:=MV.fr) (by decide) (fun _ _=>rfl) (fun _ _ _ _ _ k=>(by have:=k.fr rfl;omega)) TT rfl (fun _=>⟨fun _=>hN,fun e=>absurd e (by decide),fun e=>absurd e (by decide),fun e=>absurd e (by decide),fun e=>absurd e (by decide),fun e=>absurd e (by decide)⟩) | exact jE (f:=MV.vi) (by decide) (fun _ _=>rfl) (fun _ _ _ _ u _=>u.vi) TT rfl (fun _=>(by refine⟨?_,?_,?_,?_,?_,?_⟩<;>exact fun e=>absurd e (by decide))) | exact jE (f:=MV.no) (by decide) (fun _ _=>rfl) (fun _ _ _ _ u _=>u.no) TT rfl (fun _=>(by refine⟨?_,?_,?_,?_,?_,?_⟩<;>exact fun e=>absurd e (by decide))) | exact jE (f:=MV.cl) (by decide) (fun _ _=>rfl) (fun _ _ _ _ u _=>u.cl) TT rfl (fun _=>(by refine⟨?_,?_,?_,?_,?_,?_⟩<;>exact fun e=>absurd e (by decide))) | exact jE (f:=MV.nu) (by decide) (fun _ _=>rfl) (fun _ _ _ _ u _=>u.nu) TT rfl (fun _=>(by refine⟨?_,?_,?_,?_,?_,?_⟩<;>exact fun e=>absurd e (by decide))) | exact jE (f:=MV.at_) (by decide) (fun _ _=>rfl) (fun _ _ _ _ u _=>u.at_) TT rfl (fun _=>(by refine⟨?_,?_,?_,?_,?_,?_⟩<;>exact fun e=>absurd e (by decide))) | exact jE (f:=MV.cm) (by decide) (fun _ _=>rfl) (fun _ _ _ _ u _=>u.cm) TT rfl (fun _=>(by refine⟨?_,?_,?_,?_,?_,?_⟩<;>exact fun e=>absurd e (by decide))) | exact jE (f:=MV.bs) (by decide) (fun _ _=>rfl) (fun _ _ _ _ u _=>u.bs) TT rfl (fun _=>(by refine⟨?_,?_,?_,?_,?_,?_⟩<;>exact fun e=>absurd e (by decide))) | exact jE (f:=MV.nc) (by decide) (fun _ _=>rfl) (fun _ _ _ _ u _=>u.nc) TT rfl (fun _=>(by refine⟨?_,?_,?_,?_,?_,?_⟩<;>exact fun e=>absurd e (by decide)))
def ja (n:Nat):Code->Option Code
 | .block m c=>if m=n then some (.block m c) else ja n c
 | .seq a b=>match ja n a with
  | some c=>some c
  | none=>ja n b
 | .scope c=>ja n c
 | .loop c=>ja n c
 | .cond _ a b=>match ja n a with
  | some c=>some c
  | none=>ja n b
 | _=>none
noncomputable def takeSw:Code:=(Tryz.f54.body.bind (ja 2)).getD .skip
def yg (t:Value)(x:Int)(pre:MV->Prop):Prop:=∀(K J:Act->World->Prop) (Q':Exit->Act->World->Prop) (B g ob nb rb:Nat) (w:World) (T:Option Addr) (l8:List UInt8) (tc:Nat) (o:MV) (c:MC) (s:RS) (V0:World),pre o->TkM B g ob nb rb w T l8 tc o c s V0->s.l.length<=100000000 ->
  ∀(c1 c2 c3 c5 c7 c8 c9 c11 c12 c13 c14 c15 c16 c17 c18 c19 c20 c21 c22 c23 c24 c25 c26 c27 c28 c29 c30 c31 c32 c33 c34 c35 c36 c37 c38 c39 c40 c41 c42 c43 c44 c45 c46 c47 c48 c49 c50 c51 c53 c54 c55 c56 c57 c58 c59 c60 c61 c62 c63 c64 c65 c66 c67 c68 c69 c70 c71 c72 c73 c74 c75 c76 c77 c78 c79 c80 c81 c82 c83 c84 c85 c86 c87 c88 c89 c90 c91 c92 c93 c94 c95 c96 c97 c98 c99 c100 c101 c102 c103 c104 c105 c106 c107 c108 c109 c110 c111 c112 c113 c114 c115 c116 c117 c118 c119 c120 c121 c122 c123 c124 c125 c126 c127 c128 c129 c130 c131 c132 c133 c134 c135 c136 c137 c138 c139 c140 c141 c142 c143 c144 c145 c146 c147 c148 c149 c150 c151 c152 c153 c154 c155 c156 c157 c158 c159 c160 c161 c162 c163 c164 c165 c166 c167 c168 c169 c170 c171 c172 c173 c174 c175 c176 c177 c178 c179 c180 c181 c182 c183 c184 c185 c186 c187 c188 c189 c190 c191 c192 c193 c194 c195 c196 c197 c198 c199 c200 c201 c202 c203 c204 c205 c206 c207 c208 c209 c210 c211 c212 c213 c214 c215 c216 c217 c218 c219 c220 c221 c222 c223 c224 c225 c226 c227 c228 c229 c230 c231 c232 c233 c234 c235 c236 c237 c238 c239 c240:Value),(∀a' w',Met J a' w'->K a' w')->(∀(ch:_) (a:Act) (d:Nat) (v:Value) (W:World),Q' (.panic ch) (a.put (some d) v) W->Q' (.panic ch) a W) ->
  (∀(u11 u12 u13 u14 u15 u16 u17 u18 u19 u53 u54 u55 u56 u57 u58 u59 u60 u61 u62 u63 u64 u65 u66 u67 u68 u69 u70 u71 u72 u73 u74 u75 u76 u77 u78 u79 u80 u81 u82 u83 u84 u85 u86 u87 u88 u89 u90 u91 u92 u93 u94 u95 u96 u97 u98 u99 u100 u101 u102 u103 u104 u105 u106 u107 u108 u109 u110 u111 u112 u113 u114 u115 u116 u117 u118 u119 u120 u121 u122 u123 u124 u125 u126 u127 u128 u129 u130 u131 u132 u133 u134 u135 u136 u137 u138 u139 u140 u141 u142 u143 u144 u145 u146 u147 u148 u149 u150 u151 u152 u153 u154 u155 u156 u157 u158 u159 u160 u161 u162 u163 u164 u165 u166 u167 u168 u169 u170 u171 u172 u173 u174 u175 u176 u177 u178 u179 u180 u181 u182 u183:Value) (W':World),SwM B g ob nb rb w T l8 tc x o c s W'->J ⟨#[.pointer (some ⟨g,0,none⟩),c1,c2,c3,.pointer (some ⟨ob,0,none⟩),c5,.pointer (some ⟨nb,0,none⟩),c7,c8,c9,t,u11,u12,u13,u14,u15,u16,u17,u18,u19,c20,c21,c22,c23,c24,c25,c26,c27,c28,c29,c30,c31,c32,c33,c34,c35,c36,c37,c38,c39,c40,c41,c42,c43,c44,c45,c46,c47,c48,c49,c50,c51,t,u53,u54,u55,u56,u57,u58,u59,u60,u61,u62,u63,u64,u65,u66,u67,u68,u69,u70,u71,u72,u73,u74,u75,u76,u77,u78,u79,u80,u81,u82,u83,u84,u85,u86,u87,u88,u89,u90,u91,u92,u93,u94,u95,u96,u97,u98,u99,u100,u101,u102,u103,u104,u105,u106,u107,u108,u109,u110,u111,u112,u113,u114,u115,u116,u117,u118,u119,u120,u121,u122,u123,u124,u125,u126,u127,u128,u129,u130,u131,u132,u133,u134,u135,u136,u137,u138,u139,u140,u141,u142,u143,u144,u145,u146,u147,u148,u149,u150,u151,u152,u153,u154,u155,u156,u157,u158,u159,u160,u161,u162,u163,u164,u165,u166,u167,u168,u169,u170,u171,u172,u173,u174,u175,u176,u177,u178,u179,u180,u181,u182,u183,c184,c185,c186,c187,c188,c189,c190,c191,c192,c193,c194,c195,c196,c197,c198,c199,c200,c201,c202,c203,c204,c205,c206,c207,c208,c209,c210,c211,c212,c213,c214,c215,c216,c217,c218,c219,c220,c221,c222,c223,c224,c225,c226,c227,c228,c229,c230,c231,c232,c233,c234,c235,c236,c237,c238,c239,c240],[]⟩ W')->Code.wp Tryz.prog takeSw (Exit.then K Q') ⟨#[.pointer (some ⟨g,0,none⟩),c1,c2,c3,.pointer (some ⟨ob,0,none⟩),c5,.pointer (some ⟨nb,0,none⟩),c7,c8,c9,t,c11,c12,c13,c14,c15,c16,c17,c18,c19,c20,c21,c22,c23,c24,c25,c26,c27,c28,c29,c30,c31,c32,c33,c34,c35,c36,c37,c38,c39,c40,c41,c42,c43,c44,c45,c46,c47,c48,c49,c50,c51,t,c53,c54,c55,c56,c57,c58,c59,c60,c61,c62,c63,c64,c65,c66,c67,c68,c69,c70,c71,c72,c73,c74,c75,c76,c77,c78,c79,c80,c81,c82,c83,c84,c85,c86,c87,c88,c89,c90,c91,c92,c93,c94,c95,c96,c97,c98,c99,c100,c101,c102,c103,c104,c105,c106,c107,c108,c109,c110,c111,c112,c113,c114,c115,c116,c117,c118,c119,c120,c121,c122,c123,c124,c125,c126,c127,c128,c129,c130,c131,c132,c133,c134,c135,c136,c137,c138,c139,c140,c141,c142,c143,c144,c145,c146,c147,c148,c149,c150,c151,c152,c153,c154,c155,c156,c157,c158,c159,c160,c161,c162,c163,c164,c165,c166,c167,c168,c169,c170,c171,c172,c173,c174,c175,c176,c177,c178,c179,c180,c181,c182,c183,c184,c185,c186,c187,c188,c189,c190,c191,c192,c193,c194,c195,c196,c197,c198,c199,c200,c201,c202,c203,c204,c205,c206,c207,c208,c209,c210,c211,c212,c213,c214,c215,c216,c217,c218,c219,c220,c221,c222,c223,c224,c225,c226,c227,c228,c229,c230,c231,c232,c233,c234,c235,c236,c237,c238,c239,c240],[]⟩ V0
theorem Tf(x:Int)(t:Nat)(hx:x∈[118,110,102,99,117,97,109,98,111])(ht:t=(jW x).toNat):yg (.int .u8 (t:Int)) x (fun _=>True):=by
 intro K J Q' B g ob nb rb w T l8 tc o c s V0 _ h hl;intros;rename_i h2 hQP hJ;conv=>arg 2;whnf
 have t1:2<=t/\t<17/\t≠7/\t≠8/\t≠12/\t≠13/\t≠15/\t≠16:=by
  subst ht;simp only[yas,yal,or_false] at hx;rcases hx with rfl|rfl|rfl|rfl|rfl|rfl|rfl|rfl|rfl<;>decide
 have f7:((t:Int)==7)=false:=by rw[yap];omega
 have f8:((t:Int)==8)=false:=by rw[yap];omega
 have f12:((t:Int)==12)=false:=by rw[yap];omega
 have f13:((t:Int)==13)=false:=by rw[yap];omega
 have f15:((t:Int)==15)=false:=by rw[yap];omega
 have f16:((t:Int)==16)=false:=by rw[yap];omega
 have i0:(0:Int)<=(t:Int):=by omega
 have i1:(t:Int)<17:=by omega
 have hnum:=jQ B g s (jW x) V0 h.rf hl;have TT:=iL s (jW x) (by rw[<-ht];omega);have hn:=JO s (jW x);rw[<-ht] at hnum;have HT:=hid ht;have HX:=hid hx;have T1:=hid t1;generalize RS.num s (jW x)=nm at *;obtain⟨n,s'⟩:=nm;dsimp only at hnum TT hn;have HTT:=hid TT;clear TT ht hx t1;go_wp2_with fail;refine hnum.mono ?_;rintro e W1 ⟨rfl,hR,hg⟩;have h1:=h.grown hg hR;have HN:=h1.na;unfold jM dP at HN;obtain⟨v,hv⟩:∃v:Value,(jM o)[t]?=some v:=⟨_,ybt (show t<(jM o).size by have:=T1.out;show t<17;omega)⟩
 have cc:W1.cell? ⟨nb,t,none⟩=some v:=eQ h1.na t v hv;have fz:=fF h1.na t;have H1:=hid h1;clear hnum hR hg h1 HN hv;go_wp2_with fail;refine Met.intro ?_;apply hJ;have ht:=HT.out;subst ht;exact QO HX.out H1.out HTT.out hn
theorem zk(o:UInt8):∀L:List (List UInt8),5*L.length<=(aK o L).length
 | []=>yam _
 | x::L=>by
  have h:=zk o L;rw[oL,yab,ae,yaF];omega
theorem RfS.grownRow{B g:Nat}{W W':World}{row:Option Nat}(h:RfS B g s W)(hg:W.grownBy W' row)(hr:∀k,row=some k->g≠k/\B<=k/\∃c t fr,W.heap[k]?=some (.cells c t fr)/\t≠5):RfS B g s W':=by
 cases row with
 | none=>exact h.later ⟨hg.os,hg.tape,hg.output,hg.size,fun k hk=>hg.block k hk (by simp)⟩
 | some k=>
  obtain⟨h1,h2,c,t,fr,h3,h4⟩:=hr k rfl;exact h.grown hg h3 (fun c' fr' e=>by cases e;exact h4 rfl) h1 h2
theorem KeepB.grownRow{B M size:Nat}{W W':World}{e:TypeId}{xs:List Value}(hg:W.grownBy W' v.ownBlock)(ho:W.ownsRow M e size v n xs)(hM:B<=M)(he:∀t:TypeId,(t=5\/t=9\/t=106)->e≠t):KeepB B W W':=
 ⟨pG hg ho he,fun k h1 h2=>hg.block k h2 (fun e2=>by have:=(aU ho e2.symm).1;omega)⟩
theorem KeepB.set{B b:Nat}{W:World}{t:TypeId}{fr:Nat×Nat}{x:Value}(h:W.heap[b]?=some (.cells cs t fr))(hb:B<=b)(ht:∀t':TypeId,(t'=5\/t'=9\/t'=106)->t≠t'):KeepB B W (W.setCell ⟨b,i,none⟩ x):=
 ⟨oZ h ht,fun k h1 _=>yaA _ _ _ _ (by show k≠b;omega)⟩
theorem KeepN.of_belX'{B:Nat}{ys:List Nat}{a b:World}(hX:BelX a.heap.size ys a b)(hy:∀k∈ys,B<=k/\∃cs t fr,a.heap[k]?=some (.cells cs t fr)/\¬gZ t):KeepN B a b:=by
 refine⟨KeepM.of_belX hX (fun k hk=>?_),fun k h1 h2=>hX.block k h2 (fun hm=>?_)⟩
 ·obtain⟨-,cs,t,fr,h1,h2⟩:=hy k hk;exact⟨_,h1,fun c t' fr' ht' e=>by cases e;exact h2 ht'⟩
 have:=(hy k hm).1;omega
structure StL (B M ob:Nat)(o:MV)(l:List RP)(W:World):Prop where
 ex:∃a k,W.heap[ob]?=some (kC { o with lo:=a,ln:=l.length,lc:=k }).box/\W.ownsRow M 55 9 (.slice a l.length k) l.length (rpV l)
 each:∀p∈l,OpAt W p.1.op p.2/\OpTyB B W p.1.op/\U64R p.1
structure LgLoop (B M g ob:Nat)(o:MV)(s1:RS)(W1:World)(xs:List El)(k:Nat)(wr:World):Prop where
 X:BelX M [g,ob] W1 wr
 ex:∃(l:List RP) (okk:Bool),l.length=k/\StL B M ob o l wr/\RfS B g ⟨s1.l,s1.bad||!okk⟩ wr/\(okk=true->(∀p∈l,aA p.1.op p.2=true)/\lJ l=elB (xs.take k))/\(okk=false->∃y∈elB (xs.take k),qW y)/\(okk=false->∃p∈l,aA p.1.op p.2=false)
structure LgS (B M g ob yb:Nat)(o:MV)(s1:RS)(W1:World)(l:List RP)(a:Option Addr)(kc:Nat)(bad:Bool)(r:RV)(x:OC)(W:World):Prop where
 X:BelX M [g,ob] W1 W
 qo:W.heap[ob]?=some (kC { o with lo:=a,ln:=l.length,lc:=kc }).box
 own:W.ownsRow M 55 9 (.slice a l.length kc) l.length (rpV l)
 each:∀p∈l,OpAt W p.1.op p.2/\OpTyB B W p.1.op/\U64R p.1
 rf:RfS B g ⟨s1.l,bad⟩ W
 qy:W.heap[yb]?=some r.box
 oy:OpAt W r.op x
 ty:OpTyB B W r.op
 uy:U64R r
 hM:ob<M/\g<M/\M<=W.heap.size/\B<=M/\g≠ob
 hyb:M<=yb/\∀j,(Value.slice a l.length kc).ownBlock=some j->j<yb
section
variable {B M g ob yb:Nat} {o:MV} {s1:RS} {W1:World} {l:List RP} {a:Option Addr} {kc:Nat} {bad:Bool} {r:RV} {x:OC} {W W':World}
theorem LgS.cells(h:LgS B M g ob yb o s1 W1 l a kc bad r x W):W.heap[yb]?=some r.box/\W.cell? ⟨ob,23,none⟩=some (.slice a l.length kc)/\W.cell? ⟨g,1,none⟩=some (.bool bad):=⟨h.qy,(McAt.of h.qo).c23,h.rf.cell1⟩
theorem LgS.later(h:LgS B M g ob yb o s1 W1 l a kc bad r x W)(hb:Below W.heap.size W W'):LgS B M g ob yb o s1 W1 l a kc bad r x W':=
 ⟨h.X.trans ((BelX.of_below hb [g,ob]).mono h.hM.2.2.1 (fun _ hk _=>hk)),af h.qo hb,ag h.own hb,fun p hp=>⟨(h.each p hp).1.later hb,(h.each p hp).2.1.kpb (KeepB.of_below hb),(h.each p hp).2.2⟩,h.rf.later hb,(hb.q h.qy),h.oy.later hb,h.ty.kpb (KeepB.of_below hb),h.uy,⟨h.hM.1,h.hM.2.1,yae h.hM.2.2.1 hb.size,h.hM.2.2.2⟩,h.hyb⟩
structure LgA (B M g ob yb:Nat)(o:MV)(s1:RS)(W1:World)(l:List RP)(a:Option Addr)(kc:Nat)(a4:Option Addr)(k4:Nat)(bad:Bool)(r:RV)(x:OC)(W:World):Prop where
 X:BelX M [g,ob] W1 W
 qo:W.heap[ob]?=some (kC { o with lo:=a,ln:=l.length,lc:=kc }).box
 own:W.ownsRow M 55 9 (.slice a4 (l.length+1) k4) (l.length+1) (rpV (l++[(r,x)]))
 each:∀p∈l++[(r,x)],OpAt W p.1.op p.2/\OpTyB B W p.1.op/\U64R p.1
 rf:RfS B g ⟨s1.l,bad⟩ W
 qy:W.heap[yb]?=some r.box
 hM:ob<M/\g<M/\M<=W.heap.size/\B<=M/\g≠ob/\B<=ob/\B<=g
theorem LgA.cells(h:LgA B M g ob yb o s1 W1 l a kc a4 k4 bad r x W):W.heap[yb]?=some r.box/\W.cell? ⟨ob,23,none⟩=some (.slice a l.length kc)/\W.cell? ⟨g,1,none⟩=some (.bool bad):=⟨h.qy,(McAt.of h.qo).c23,h.rf.cell1⟩
theorem Qb:∀t:TypeId,(t=5\/t=9\/t=106)->55≠t:=fun t ht e=>by rcases ht with rfl|rfl|rfl<;>exact absurd e (by decide)
theorem OM:∀t:TypeId,(t=5\/t=9\/t=106)->59≠t:=fun t ht e=>by rcases ht with rfl|rfl|rfl<;>exact absurd e (by decide)
theorem Qa:∀t:TypeId,(t=5\/t=9\/t=106)->119≠t:=fun t ht e=>by rcases ht with rfl|rfl|rfl<;>exact absurd e (by decide)
theorem LgS.app(h:LgS B M g ob yb o s1 W1 l a kc bad r x W)(hBo:B<=ob)(hBg:B<=g)(h4:W'.ownsRow M 55 9 (.slice a4 (l.length+1) k4) (l.length+1) (rpV l++(RV.cells r).toList))(hg:W.grownBy W' (Value.slice a l.length kc).ownBlock)(hb:Below M W W'):LgA B M g ob yb o s1 W1 l a kc a4 k4 bad r x W':=by
 have hk:=KeepB.grownRow (B:=B) hg h.own h.hM.2.2.2.1 Qb;have hey:∀j,(Value.slice a l.length kc).ownBlock=some j->j≠yb:=fun j hj=>by have:=h.hyb.2 j hj;omega
 refine⟨h.X.trans (BelX.of_below hb [g,ob]),(hb.block _ h.hM.1).trans h.qo,by rw[D9];exact h4,fun p hp=>?_,RfS.grownRow h.rf hg (fun k hk=>?_),(hg.block _ (lA h.qy) (fun e=>hey _ e.symm rfl)).trans h.qy,h.hM.1,h.hM.2.1,yae h.hM.2.2.1 hg.size,h.hM.2.2.2.1,h.hM.2.2.2.2,hBo,hBg⟩
 ·rcases yaQ.1 hp with hp | hp
  ·obtain⟨e1,e2,e3⟩:=h.each p hp;exact⟨e1.kpb e2 hk,e2.kpb hk,e3⟩
  rw[yah] at hp;subst hp;exact⟨h.oy.kpb h.ty hk,h.ty.kpb hk,h.uy⟩
 obtain⟨k1,k2,cur,k3⟩:=aU h.own hk;have h1:=h.hM.2.1;have h2:=h.hM.2.2.2.1;exact⟨by omega,by omega,cur,_,_,k3,by decide⟩
theorem LgA.put(h:LgA B M g ob yb o s1 W1 l a kc a4 k4 bad r x W)(b':Bool):StL B M ob o (l++[(r,x)]) ((W.setCell ⟨ob,23,none⟩ (.slice a4 (l.length+1) k4)).setCell ⟨g,1,none⟩ (.bool b'))/\RfS B g ⟨s1.l,b'⟩ ((W.setCell ⟨ob,23,none⟩ (.slice a4 (l.length+1) k4)).setCell ⟨g,1,none⟩ (.bool b'))/\BelX M [g,ob] W1 ((W.setCell ⟨ob,23,none⟩ (.slice a4 (l.length+1) k4)).setCell ⟨g,1,none⟩ (.bool b')) /\
  (W.setCell ⟨ob,23,none⟩ (.slice a4 (l.length+1) k4)).cell? ⟨g,1,none⟩=some (.bool bad)/\(W.setCell ⟨ob,23,none⟩ (.slice a4 (l.length+1) k4)).frozen? ⟨g,1,none⟩=false:=by
 obtain⟨m1,m2,m3,m4,m5,m6,m7⟩:=h.hM;have eln:(l++[(r,x)]).length=l.length+1:=by simp
 have q1:(W.setCell ⟨ob,23,none⟩ (.slice a4 (l.length+1) k4)).heap[ob]?=some (kC { o with lo:=a4,ln:=(l++[(r,x)]).length,lc:=k4 }).box:=by rw[eln];exact (at_set h.qo).trans (by kernel_rfl)
 have rf1:RfS B g ⟨s1.l,bad⟩ (W.setCell ⟨ob,23,none⟩ (.slice a4 (l.length+1) k4)):=h.rf.grown (ak _ _ _ _) h.qo (TkM.not_u8 bJ) m5 m6;have hk1:KeepB B W (W.setCell ⟨ob,23,none⟩ (.slice a4 (l.length+1) k4)):=KeepB.set h.qo m6 OM;obtain⟨cs,hcs⟩:=rf1.at_;have hk2:KeepB B (W.setCell ⟨ob,23,none⟩ (.slice a4 (l.length+1) k4)) ((W.setCell ⟨ob,23,none⟩ (.slice a4 (l.length+1) k4)).setCell ⟨g,1,none⟩ (.bool b')):=KeepB.set hcs m7 Qa;refine⟨⟨⟨a4,k4,ah q1 (fun e=>m5 e.symm),?_⟩,fun p hp=>?_⟩,rf1.flag b',(h.X.set _ _ _ (.inl (by simp))).set _ _ _ (.inl (by simp)),rf1.cell1,rf1.fz1⟩
 ·rw[eln];exact dw (dw h.own (fun k hk=>yaA _ _ _ _ (by have:=(aU h.own hk).1;show k≠ob;omega))) (fun k hk=>yaA _ _ _ _ (by have:=(aU h.own hk).1;show k≠g;omega))
 obtain⟨e1,e2,e3⟩:=h.each p hp;have e1':=e1.kpb e2 hk1;have e2':=e2.kpb hk1;exact⟨e1'.kpb e2' hk2,e2'.kpb hk2,e3⟩
end
theorem Ru:yg (.int .u8 13) 108 (fun o=>o.lo=none/\o.ln=0/\o.lc=0):=by
 intro K J Q' B g ob nb rb w T l8 tc o c s V0 hz h hl;intros;rename_i h2 hQP hJ;conv=>arg 2;whnf
 have hmo:=hmO
 have HZ:=hid hz;have H:=hid h;have hlt:=h.lt.1;have hgw:=h.gw;have hwo:=h.wo;have hsz:=h.X.size;have hBg:=h.Bg;have hli:=oM B g s 13 1 V0 (by decide) (by decide) h.rf hl;clear hz h;go_wp2_with fail;refine hli.mono ?_;rintro e W1 ⟨a6,c6,xs,s1,rfl,hrd,hall,hfr,hln,⟨hsm,hofl⟩,hR,hg,T3⟩;have HOF:=hid hofl;clear hofl;have h1:=H.out.grown hg hR;have HT:=hid T3;have hM:V0.heap.size<=W1.heap.size:=hg.size;have hne6:∀a,a6=some a->a.block≠g/\a.block≠ob:=fun a ha=>by have:=hfr a ha;omega
 have HSh:Hid (s1.bad=false->(aK 1 (elB xs)).length<=4194304):=hid (fun hb=>(HT.out.yes hb).2.2);have q0:=h1.q;have hst0:LgLoop B W1.heap.size g ob o s1 W1 xs 0 W1:=⟨BelX.refl _ _ _,[],true,rfl,⟨⟨none,0,by
   have e:({ o with lo:=none,ln:=([]:List RP).length,lc:=0 }:MV)=o:=by
    obtain⟨z1,z2,z3⟩:=HZ.out;cases o;dsimp only at z1 z2 z3;subst z1 z2 z3;rfl
   rw[e];exact q0,yaC _ _ _ _⟩,fun p hp=>(by cases hp)⟩,(by
   have e:(⟨s1.l,s1.bad||!true⟩:RS)=s1:=by cases s1;simp
   rw[e];exact hR),fun _=>⟨fun p hp=>(by cases hp),rfl⟩,(fun e=>by cases e),fun e=>(by cases e)⟩
 have H1:=hid h1;have hBo:B<=ob:=by omega
 have hgo:g≠ob:=by omega
 have hzo:ob<W1.heap.size:=by omega
 have hzg:g<W1.heap.size:=by omega
 have hBM:B<=W1.heap.size:=by omega
 obtain⟨cg,hcg⟩:=hR.at_;clear hli hR hg T3 hfr h1 H;go_wp2_with fail;obtain⟨M,hMM⟩:∃M,W1.heap.size=M:=⟨_,rfl⟩
 rw[hMM] at hst0 hzo hzg hBM;have HM:=hid hMM;clear hMM hM;go_loopw [16] (fun p wk=>∃k:Nat,k<=xs.length/\p=.int .i64 (k:Int)/\LgLoop B M g ob o s1 W1 xs k wk) (fun p _=>xs.length-(intOf p).toNat)
 case atStart=>exact⟨0,yam _,rfl,hst0⟩
 case round=>
  obtain⟨k,hk,rfl,hL⟩:=hrel;clear hst0;obtain⟨l,okk,hlk,hS,hrf,ho1,ho2,ho3⟩:=hL.ex;have HO:=hid (yax ho1 ho2);have HO3:=hid ho3;have hX:=hL.X;obtain⟨⟨a,kc,qo,own⟩,hE⟩:=hS;subst hlk;clear hL ho1 ho2 ho3;have hMr:M<=wr.heap.size:=by have:=hX.size;have:=HM.out;omega
  have hkn:KeepN B W1 wr:=KeepN.of_belX' (HM.out▸hX) (fun j hj=>by
   simp only[yas,yal,or_false] at hj;rcases hj with rfl|rfl
   ·exact⟨hBg,_,_,_,hcg,nX⟩
   exact⟨hBo,_,_,_,q0,bJ⟩)
  have hrl:Rd wr 1 a6 xs.length c6 (lsV xs):=wW hrd hX (fun h0 y hy=>⟨HM.out▸hrd.lt h0 y hy,by simp only[yas,yal,or_false,not_or];exact hne6 y hy⟩);by_cases hlx:l.length<xs.length
  ·obtain⟨b1,o1,hao,hl1,hc1⟩:=hrl.some (by have:=hrl.le;omega);obtain⟨u,hue⟩:∃u,xs[l.length]?=some u:=⟨_,yac hlx⟩
   have hum:=yan hue;have c1:=hc1 _ _ (sO xs l.length u hue);have c2:wr.cell? ⟨b1,o1+l.length*1,none⟩=some (.slice u.ao u.it.2.length u.cap):=by rw[ycf];exact c1
   have hru:=ji (hall u hum).1 (hall u hum).2 hkn.kb;have htu:=TyB.kpb (hall u hum).2 hkn.kb;have hul:u.it.2.length<=4194304:=hsm u hum;have HU:=hid hue;have i0:(0:Int)<=(l.length:Int):=by omega
   have i1:(l.length:Int)<(xs.length:Int):=by omega
   have hBr:B<=wr.heap.size:=by omega
   have hn6:=hid hne6;have hal:=hid hall;have hsl:=hid hsm;subst hao;clear hc1 hue hum hne6 hall hsm hrl hl1 hkn;go_wp2_with fail;refine (su B u.it.2 u.ao _ u.cap wr hru hBr htu (by omega)).mono ?_;rintro e W2 hA;obtain⟨ok,r,x,rfl,oY,tY,uY,hb2,hnm,hans⟩:=Dn hA;have HNM:=hid hnm;clear hnm;have HA:=hid hans;clear hA hans hru htu c1 c2;unfold RV.val RV.cells;go_upto_region 29 with (refine zNr rfl ?_;go_simp);generalize hg:W2.alloc _=W3;have e3:W2.alloc r.box=W3:=hg;have hb3':Below W2.heap.size W2 W3:=bE e3
   have q3:W3.heap[W2.heap.size]?=some r.box:=aE e3
   have hb3:=hb2.trans (hb3'.mono hb2.size);obtain⟨bad,hbad⟩:∃bad,(s1.bad||!okk)=bad:=⟨_,rfl⟩
   rw[hbad] at hrf;have HB:=hid hbad;have s3:LgS B M g ob W2.heap.size o s1 W1 l a kc bad r x W3:=⟨hX.trans ((BelX.of_below hb3 [g,ob]).mono hMr (fun _ hk _=>hk)),af qo hb3,ag own hb3,fun p hp=>⟨(hE p hp).1.later hb3,(hE p hp).2.1.kpb (KeepB.of_below hb3),(hE p hp).2.2⟩,hrf.later hb3,q3,oY.later hb3',tY.kpb (KeepB.of_below hb3'),uY,⟨hzo,hzg,by have:=hb3.size;omega,hBM,hgo⟩,⟨by have:=hb2.size;omega,fun j hj=>by have:=(aU own hj).2.1;have:=hb2.size;omega⟩⟩
   clear hg e3 hb3' hb3 hb2 q3 hbad hrf qo own hE hX oY tY uY hMr hBr;generalize W2.heap.size=yb at *;refine dN (k:=15) (S:=fun W=>W.heap[yb]?=some r.box/\W.cell? ⟨ob,23,none⟩=some (.slice a l.length kc)/\W.cell? ⟨g,1,none⟩=some (.bool bad)) hmo ?_;change bV _ _ _ _ _ _ _ _ _ (World.drew W3);have hd:Below W3.heap.size W3 W3.drew:=(yaj _ _).drew;have s0:=s3.later hd;generalize World.drew W3=X0 at *;clear hd s3;have t0:=s0.cells;have zf0 (w0:World) (h:w0.heap[yb]?=some r.box/\w0.cell? ⟨ob,23,none⟩=some (.slice a l.length kc)/\w0.cell? ⟨g,1,none⟩=some (.bool bad)):=h.2.1;have zf1 (w0:World) (h:w0.heap[yb]?=some r.box/\w0.cell? ⟨ob,23,none⟩=some (.slice a l.length kc)/\w0.cell? ⟨g,1,none⟩=some (.bool bad)):=h.2.2;cases bad with
   | true=>
    refine iC (i:=0) (v:=.pointer (some ⟨g,0,none⟩)) rfl (by kernel_rfl) (by kernel_rfl) (by kernel_rfl) (by decide) (fun ch a1 w1 h=>hQP ch a1 _ _ w1 h) (Or.inl ⟨by kernel_rfl,by intro _ _;kernel_rfl⟩) (.inr t0) ?_;go_simp;refine ztp 1 (pp ob 23) rfl ?_;go_simp;refine ztv 2 (.slice a l.length kc) rfl ?_;go_simp;refine zTa (hQ:=fun a b c=>hQP a b _ _ c) 3 (.agg #[.int .u64 r.cl,.int .u64 r.nu,.int .i64 r.op.k,.string r.op.name,.string r.op.to,.slice r.op.ao r.op.an r.op.ac,.slice r.op.bo r.op.bn r.op.bc,.slice r.op.co r.op.cn r.op.cc,.int .i64 r.op.n]) rfl (by rintro w2 h2;have cc:=h2.2.1;have cd:=h2.2.2;exact gK (cs:=r.cells) h2.1 rfl rfl (by kernel_rfl) (by kernel_rfl)) t0 ?_;go_simp;refine ztp 6 (pp g 0) rfl (ztp 7 (pp g 0) rfl (ztp 8 (pp g 1) rfl ?_));go_simp;refine ztv 9 (.bool true) rfl ?_;go_simp;refine zT1 4 rfl (fun K hK=>?_);go_simp;obtain⟨V,hV⟩:∃V,X0.alloc (.cells (RV.cells r) 55)=V:=⟨_,rfl⟩
    have hbV:=bE hV
    have qV:V.heap[X0.heap.size]?=some (.cells (RV.cells r) 55):=aE hV
    have rV:Rd V 9 (some ⟨X0.heap.size,0,none⟩) 1 1 (RV.cells r).toList:=by rw[<-hV];exact Rd.new X0 (RV.cells r).toList 55 (0,0) 9 1 rfl (by unfold maxLen;omega)
    have sV:=s0.later hbV;have t1:=sV.cells;unfold RV.cells at hV;rw[hV];refine hK _ _ ⟨.inr t1,?_⟩;clear hK K hV hbV qV s0 t0;refine zT1 5 rfl (fun K hK=>?_);refine oh rfl (.tmp 125) (.tmp 127) 56 rfl M 55 bG.val 9 136 wE (.slice a l.length kc) l.length (rpV l) rfl sV.own (some ⟨X0.heap.size,0,none⟩) 1 1 (RV.cells r).toList rfl rV (Cb r) (by unfold maxLen;omega) (by omega) sV.hM.2.2.1 ?_;intro a4 k4 V4 own4 hg4 hb4 _;have s4:=sV.app hBo hBg own4 hg4 hb4;have t2:=s4.cells;refine hK _ _ ⟨.inr t2,?_⟩;clear hK K own4 hg4 hb4 rV sV t1;refine ztp 10 (.bool true) rfl ?_;go_simp;refine iC (i:=11) (v:=undef) rfl (by kernel_rfl) (by kernel_rfl) (by kernel_rfl) (by decide) (fun ch a1 w1 h=>hQP ch a1 _ _ w1 h) (Or.inr ⟨by kernel_rfl,rfl⟩) (.inr t2) ?_;go_simp;refine iC (i:=12) (v:=undef) rfl (by kernel_rfl) (by kernel_rfl) (by kernel_rfl) (by decide) (fun ch a1 w1 h=>hQP ch a1 _ _ w1 h) (Or.inr ⟨by kernel_rfl,rfl⟩) (.inr t2) ?_;go_simp;refine iC (i:=13) (v:=.bool true) rfl (by kernel_rfl) (by kernel_rfl) (by kernel_rfl) (by decide) (fun ch a1 w1 h=>hQP ch a1 _ _ w1 h) (Or.inl ⟨by kernel_rfl,by intro _ _;kernel_rfl⟩) (.inr t2) ?_;go_simp;refine ztp 14 (pp ob 23) rfl ?_;go_simp;obtain⟨p1,p2,p3,p4,p5⟩:=s4.put true;have cO:=(McAt.of s4.qo).c23;have zO:=dR s4.qo 23;refine nM (by kernel_rfl) (by kernel_rfl) ?_;refine zA1 15 rfl (fun K hK=>?_);go_simp;refine hK _ _ ?_;clear hK K cO zO t2;refine zA1 16 rfl (fun K hK=>?_);go_simp;refine hK _ _ ?_;clear hK K;refine zA1 17 rfl (fun K hK=>?_);go_simp;refine hK _ _ ?_;clear hK K;refine zA1 18 rfl (fun K hK=>?_);go_simp;refine hK _ _ ?_;clear hK K;refine yby (by kernel_rfl) ?_ _;have P:=hid (yax p1 (yax p2 p3));clear p1 p2 p3 p4 p5 s4;generalize World.setCell _ ⟨g,1,none⟩ _=X9 at *;go_wp2_with fail;go_roundw
    case rel=>
     refine⟨l.length+1,by omega,by go_num,P.out.2.2,l++[(r,x)],okk&&ok,by simp,P.out.1,?_,?_,?_,?_⟩
     ·have h1:=P.out.2.1;have e:true=(s1.bad||!(okk&&ok)):=by
       have hb:=HB.out
       revert hb
       cases s1.bad<;>cases okk<;>cases ok<;>decide
      rw[<-e];exact h1
     ·intro hh;rw[yaq] at hh;obtain⟨m1,m2⟩:=HO.out.1 hh.1;rcases HA.out with ⟨-,a2,a3⟩ | ⟨a1,-⟩
      ·refine⟨fun p hp=>?_,?_⟩
       ·rcases yaQ.1 hp with hp | hp
        ·exact m1 p hp
        rw[yah] at hp;subst hp;exact a2
       rw[yaE,HU.out,ybu,mf,<-m2,<-a3];simp[lJ]
      rw[a1] at hh;cases hh.2
     ·intro hh;rw[yaE,HU.out,ybu,mf];cases ho:okk with
      | false=>
       obtain⟨y,y1,y2⟩:=HO.out.2 ho;exact⟨y,yaN _ y1,y2⟩
      | true=>
       rcases HA.out with ⟨a1,-⟩ | ⟨-,a2⟩
       ·rw[ho,a1] at hh;cases hh
       exact⟨u.it.2,ybP _ (yah.2 rfl),a2⟩
     intro hh;cases ho:okk with
     | false=>
      obtain⟨p,p1,p2⟩:=HO3.out ho;exact⟨p,yaN _ p1,p2⟩
     | true=>
      refine⟨(r,x),ybP _ (yah.2 rfl),HNM.out ?_⟩;rw[ho,yaX] at hh;exact hh
    case measure=>simp[intOf];omega
   | false=>
    refine iC (i:=0) (v:=.pointer (some ⟨g,0,none⟩)) rfl (by kernel_rfl) (by kernel_rfl) (by kernel_rfl) (by decide) (fun ch a1 w1 h=>hQP ch a1 _ _ w1 h) (Or.inl ⟨by kernel_rfl,by intro _ _;kernel_rfl⟩) (.inr t0) ?_;go_simp;refine ztp 1 (pp ob 23) rfl ?_;go_simp;refine ztv 2 (.slice a l.length kc) rfl ?_;go_simp;refine zTa (hQ:=fun a b c=>hQP a b _ _ c) 3 (.agg #[.int .u64 r.cl,.int .u64 r.nu,.int .i64 r.op.k,.string r.op.name,.string r.op.to,.slice r.op.ao r.op.an r.op.ac,.slice r.op.bo r.op.bn r.op.bc,.slice r.op.co r.op.cn r.op.cc,.int .i64 r.op.n]) rfl (by rintro w2 h2;have cc:=h2.2.1;have cd:=h2.2.2;exact gK (cs:=r.cells) h2.1 rfl rfl (by kernel_rfl) (by kernel_rfl)) t0 ?_;go_simp;refine ztp 6 (pp g 0) rfl (ztp 7 (pp g 0) rfl (ztp 8 (pp g 1) rfl ?_));go_simp;refine ztv 9 (.bool false) rfl ?_;go_simp;refine zT1 4 rfl (fun K hK=>?_);go_simp;obtain⟨V,hV⟩:∃V,X0.alloc (.cells (RV.cells r) 55)=V:=⟨_,rfl⟩
    have hbV:=bE hV
    have qV:V.heap[X0.heap.size]?=some (.cells (RV.cells r) 55):=aE hV
    have rV:Rd V 9 (some ⟨X0.heap.size,0,none⟩) 1 1 (RV.cells r).toList:=by rw[<-hV];exact Rd.new X0 (RV.cells r).toList 55 (0,0) 9 1 rfl (by unfold maxLen;omega)
    have sV:=s0.later hbV;have t1:=sV.cells;unfold RV.cells at hV;rw[hV];refine hK _ _ ⟨.inr t1,?_⟩;clear hK K hV hbV qV s0 t0;refine zT1 5 rfl (fun K hK=>?_);refine oh rfl (.tmp 125) (.tmp 127) 56 rfl M 55 bG.val 9 136 wE (.slice a l.length kc) l.length (rpV l) rfl sV.own (some ⟨X0.heap.size,0,none⟩) 1 1 (RV.cells r).toList rfl rV (Cb r) (by unfold maxLen;omega) (by omega) sV.hM.2.2.1 ?_;intro a4 k4 V4 own4 hg4 hb4 _;have s4:=sV.app hBo hBg own4 hg4 hb4;have t2:=s4.cells;refine hK _ _ ⟨.inr t2,?_⟩;clear hK K own4 hg4 hb4 rV sV t1;refine ztp 10 (.bool false) rfl ?_;go_simp;refine iC (i:=11) (v:=.bool ok) rfl (by kernel_rfl) (by kernel_rfl) (by kernel_rfl) (by decide) (fun ch a1 w1 h=>hQP ch a1 _ _ w1 h) (Or.inl ⟨by kernel_rfl,by intro _ _;kernel_rfl⟩) (.inr t2) ?_;go_simp;refine iC (i:=12) (v:=.bool (!ok)) rfl (by kernel_rfl) (by kernel_rfl) (by kernel_rfl) (by decide) (fun ch a1 w1 h=>hQP ch a1 _ _ w1 h) (Or.inl ⟨by kernel_rfl,by intro _ _;kernel_rfl⟩) (.inr t2) ?_;go_simp;refine iC (i:=13) (v:=.bool (!ok)) rfl (by kernel_rfl) (by kernel_rfl) (by kernel_rfl) (by decide) (fun ch a1 w1 h=>hQP ch a1 _ _ w1 h) (Or.inl ⟨by kernel_rfl,by intro _ _;kernel_rfl⟩) (.inr t2) ?_;go_simp;refine ztp 14 (pp ob 23) rfl ?_;go_simp;obtain⟨p1,p2,p3,p4,p5⟩:=s4.put (!ok);have cO:=(McAt.of s4.qo).c23;have zO:=dR s4.qo 23;refine nM (by kernel_rfl) (by kernel_rfl) ?_;refine zA1 15 rfl (fun K hK=>?_);go_simp;refine hK _ _ ?_;clear hK K cO zO t2;refine zA1 16 rfl (fun K hK=>?_);go_simp;refine hK _ _ ?_;clear hK K;refine zA1 17 rfl (fun K hK=>?_);go_simp;refine hK _ _ ?_;clear hK K;refine zA1 18 rfl (fun K hK=>?_);go_simp;refine hK _ _ ?_;clear hK K;refine yby (by kernel_rfl) ?_ _;have P:=hid (yax p1 (yax p2 p3));clear p1 p2 p3 p4 p5 s4;generalize World.setCell _ ⟨g,1,none⟩ _=X9 at *;go_wp2_with fail;go_roundw
    case rel=>
     refine⟨l.length+1,by omega,by go_num,P.out.2.2,l++[(r,x)],okk&&ok,by simp,P.out.1,?_,?_,?_,?_⟩
     ·have h1:=P.out.2.1;have e:(!ok)=(s1.bad||!(okk&&ok)):=by
       have hb:=HB.out
       revert hb
       cases s1.bad<;>cases okk<;>cases ok<;>decide
      rw[<-e];exact h1
     ·intro hh;rw[yaq] at hh;obtain⟨m1,m2⟩:=HO.out.1 hh.1;rcases HA.out with ⟨-,a2,a3⟩ | ⟨a1,-⟩
      ·refine⟨fun p hp=>?_,?_⟩
       ·rcases yaQ.1 hp with hp | hp
        ·exact m1 p hp
        rw[yah] at hp;subst hp;exact a2
       rw[yaE,HU.out,ybu,mf,<-m2,<-a3];simp[lJ]
      rw[a1] at hh;cases hh.2
     ·intro hh;rw[yaE,HU.out,ybu,mf];cases ho:okk with
      | false=>
       obtain⟨y,y1,y2⟩:=HO.out.2 ho;exact⟨y,yaN _ y1,y2⟩
      | true=>
       rcases HA.out with ⟨a1,-⟩ | ⟨-,a2⟩
       ·rw[ho,a1] at hh;cases hh
       exact⟨u.it.2,ybP _ (yah.2 rfl),a2⟩
     intro hh;cases ho:okk with
     | false=>
      obtain⟨p,p1,p2⟩:=HO3.out ho;exact⟨p,yaN _ p1,p2⟩
     | true=>
      refine⟨(r,x),ybP _ (yah.2 rfl),HNM.out ?_⟩;rw[ho,yaX] at hh;exact hh
    case measure=>simp[intOf];omega
  have hke:l.length=xs.length:=by omega
  have HO1:Hid ((okk=true->(∀p∈l,aA p.1.op p.2=true)/\lJ l=elB xs)/\(okk=false->∃y∈elB xs,qW y)):=hid (by
   have h1:=HO.out;rw[hke,yak (yag _)] at h1;exact h1)
  have aX:=H1.out.at_.kpn H1.out.ty hkn;have yX:=H1.out.ty.kpn hkn;have hu:=H1.out.u;have HFT:Hid (FitK (aJ 108 o { o with lo:=a,ln:=l.length,lc:=kc }) (dA 108 c { c with log:=l })):=hid (by
   have h1:=H1.out.ft;refine⟨h1.rs,h1.rl,fun hm=>?_,h1.sn,h1.hn,?_⟩
   ·show (gq l).length<=4194304;cases ho:okk with
    | false=>
     obtain⟨p,p1,p2⟩:=HO3.out ho;have:=hm p p1;rw[p2] at this;cases this
    | true=>
     rw[<-qf,(HO1.out.1 ho).2];exact HOF.out
   show l.length<=1000000;have h2:=zk 1 (elB xs);have h3:=HOF.out;have h4:(elB xs).length=xs.length:=by unfold elB;rw[ybl]
   unfold elB at h2 h4;omega)
  have hT:TkM B g ob nb rb w T l8 tc (aJ 108 o { o with lo:=a,ln:=l.length,lc:=kc }) (dA 108 c { c with log:=l }) ⟨s1.l,s1.bad||!okk⟩ wr:=
   H1.out.turn hkn (HM.out▸hX) (fun j hj=>by simp only[yas,yal,or_false] at hj;rcases hj with rfl|rfl;exact .inr (.inl rfl);exact .inl rfl) hrf qo rfl rfl
    ⟨aX.rq,aX.rs,aX.sn,⟨Rd.of_own_slice own,fun p hp=>(hE p hp).1⟩,aX.se,aX.ls,aX.lh⟩ ⟨hu.vi,hu.no,hu.cl,hu.nu,hu.at_,hu.cm,hu.bs,hu.nc,hu.rq,fun p hp=>(hE p hp).2.2,hu.seen⟩ ⟨yX.rq,yX.rs,yX.sn,TyX.of_own own,fun p hp=>(hE p hp).2.1,yX.ho⟩ HFT.out
  have hS:StepX 108 s (aJ 108 o { o with lo:=a,ln:=l.length,lc:=kc }) (dA 108 c { c with log:=l }) ⟨s1.l,s1.bad||!okk⟩:=NJ HT.out (fun h=>HO1.out.1 h) (fun h=>HO1.out.2 h);have HTT:=hid hT;have HSS:=hid hS;clear hT hS aX yX hu hE own qo hrf hX hrl hkn HO HO3 HFT;go_wp2_with fail;refine Met.intro ?_;apply hJ;exact⟨_,_,_,HTT.out,HSS.out⟩
theorem KA(l m:List Nat):df (l++m)=df l++df m:=by simp[df]
theorem xJ:∀(l l':List Nat) (r:List UInt8),(∀n∈l,n<18446744073709551616)->(∀n∈l',n<18446744073709551616)->df l'=df l++r->∃m:List Nat,(∀n∈m,n<18446744073709551616)/\r=df m
 | [],l',r,_,hl',h=>⟨l',hl',by rw[h];rfl⟩
 | n::l,[],r,_,_,h=>by
  have:=congrArg List.length h;rw[iV,yab,yab,ae] at this;simp[df] at this;omega
 | n::l,n'::l',r,hl,hl',h=>by
  rw[iV,iV,yav] at h;obtain⟨-,h2⟩:=az (by decide) (by rw[ai];omega) (by rw[ai];omega) h;exact xJ l l' r (fun k hk=>hl k (by simp[hk])) (fun k hk=>hl' k (by simp[hk])) h2
structure SnR (y:List UInt8)(l:List Nat)(q:RS):Prop where
 u:∀n∈l,n<18446744073709551616
 yes:q.bad=false->y=df l++q.l
 no:q.bad=true->∀l':List Nat,(∀n∈l',n<18446744073709551616)->df l'≠y
 le:q.l.length<=y.length
 len:13*l.length<=y.length+13
theorem SnR.next{y:List UInt8}{l:List Nat}{q:RS}(h:SnR y l q)(T:Took (fun n:Nat=>val 1 (au n)) (fun n=>n<18446744073709551616) (fun n=>n<18446744073709551616) q n q')(hn:n<18446744073709551616)(hb:q.bad=false)(h0:0<q.l.length):SnR y (l++[n]) q' where
 u:=fun k hk=>by
  rcases yaQ.1 hk with hk | hk
  ·exact h.u k hk
  rw[yah] at hk;rw[hk];exact hn
 yes:=fun hq=>by
  obtain⟨-,e,-⟩:=T.yes hq;rw[KA,h.yes hb,e,yav];simp[df]
 no:=fun hq l' hl' e=>by
  rw[h.yes hb] at e;obtain⟨m,hm,em⟩:=xJ l l' q.l h.u hl' e;cases m with
  | nil=>rw[em] at h0;simp[df] at h0
  | cons k m=>
   rcases T.no hq with h1 | h1
   ·rw[hb] at h1;cases h1
   exact h1 k (df m) (hm k (by simp)) (by rw[em,iV])
 le:=yae T.le h.le
 len:=by
  have h2:=congrArg List.length (h.yes hb);rw[yab,jS] at h2;rw[yab,ybg];omega
theorem RI:SliceT Tryz.prog 57 22 (.int .u64 0) 1 8:=⟨Tryz.underlying57,by kernel_rfl,rfl,by decide⟩
structure SnL (B M ob sb:Nat)(o:MV)(W1:World)(y:List UInt8)(l:List Nat)(a:Option Addr)(kc:Nat)(q:RS)(W:World):Prop where
 X:BelX M [ob,sb] W1 W
 R:SnR y l q
 qo:W.heap[ob]?=some (kC { o with ho:=a,hn:=l.length,hc:=kc }).box
 own:W.ownsRow M 22 1 (.slice a l.length kc) l.length (je l)
 rf:RfS B sb q W
 hM:ob<M/\sb<M/\M<=W.heap.size/\B<=M/\sb≠ob/\B<=ob
section
variable {B M ob sb:Nat} {o:MV} {W1:World} {y:List UInt8} {l:List Nat} {a:Option Addr} {kc:Nat} {q:RS} {W W':World}
theorem SnL.later(h:SnL B M ob sb o W1 y l a kc q W)(hb:Below W.heap.size W W'):SnL B M ob sb o W1 y l a kc q W':=
 ⟨h.X.trans ((BelX.of_below hb [ob,sb]).mono h.hM.2.2.1 (fun _ hk _=>hk)),h.R,af h.qo hb,ag h.own hb,h.rf.later hb,h.hM.1,h.hM.2.1,yae h.hM.2.2.1 hb.size,h.hM.2.2.2⟩
structure SnN (B M ob sb:Nat)(o:MV)(W1:World)(l:List Nat)(a:Option Addr)(kc:Nat)(q:RS)(W:World):Prop where
 X:BelX M [ob,sb] W1 W
 qo:W.heap[ob]?=some (kC { o with ho:=a,hn:=l.length,hc:=kc }).box
 own:W.ownsRow M 22 1 (.slice a l.length kc) l.length (je l)
 rf:RfS B sb q W
 hM:ob<M/\sb<M/\M<=W.heap.size/\B<=M/\sb≠ob/\B<=ob
theorem SnN.later(h:SnN B M ob sb o W1 l a kc q W)(hb:Below W.heap.size W W'):SnN B M ob sb o W1 l a kc q W':=
 ⟨h.X.trans ((BelX.of_below hb [ob,sb]).mono h.hM.2.2.1 (fun _ hk _=>hk)),af h.qo hb,ag h.own hb,h.rf.later hb,h.hM.1,h.hM.2.1,yae h.hM.2.2.1 hb.size,h.hM.2.2.2⟩
theorem SnL.num(h:SnL B M ob sb o W1 y l a kc q W)(hg:W.grownBy W' (some sb))(hr:RfS B sb q' W'):SnN B M ob sb o W1 l a kc q' W':=by
 obtain⟨m1,m2,m3,m4,m5,m6⟩:=h.hM;have hX:BelX W.heap.size [sb] W W':=BelX.of_grown hg;exact⟨h.X.trans (hX.mono m3 (fun k hk _=>by simp only[yah] at hk;simp[hk])),hX.at_ h.qo (by omega) (by simpa using fun e=>m5 e.symm),dw h.own (fun k hk=>by
  have h1:=aU h.own hk;exact hX.block k h1.2.1 (by simp only[yah];omega)),hr,m1,m2,yae m3 hX.size,m4,m5,m6⟩
theorem SnN.c26(h:SnN B M ob sb o W1 l a kc q W):W.cell? ⟨ob,26,none⟩=some (.slice a l.length kc):=(McAt.of h.qo).c26
theorem SnN.app(h:SnN B M ob sb o W1 l a kc q W)(h4:W'.ownsRow M 22 1 (.slice a4 (l.length+1) k4) (l.length+1) (je l++[.int .u64 (n:Int)]))(hg:W.grownBy W' (Value.slice a l.length kc).ownBlock)(hb:Below M W W')(R:SnR y (l++[n]) q) :
  W'.cell? ⟨ob,26,none⟩=some (.slice a l.length kc)/\W'.frozen? ⟨ob,26,none⟩=false/\SnL B M ob sb o W1 y (l++[n]) a4 k4 q (W'.setCell ⟨ob,26,none⟩ (.slice a4 (l.length+1) k4)):=by
 obtain⟨m1,m2,m3,m4,m5,m6⟩:=h.hM;have q1:=(hb.block _ m1).trans h.qo;have rf1:RfS B sb q W':=RfS.grownRow h.rf hg (fun k hk=>by
  obtain⟨k1,k2,cur,k3⟩:=aU h.own hk;exact⟨by omega,by omega,cur,_,_,k3,by decide⟩)
 have eln:(l++[n]).length=l.length+1:=by simp
 have e8:je (l++[n])=je l++[.int .u64 (n:Int)]:=by simp[je]
 refine⟨(McAt.of q1).c26,dR q1 26,(h.X.trans (BelX.of_below hb [ob,sb])).set _ _ _ (.inl (by simp)),R,by rw[eln];exact (at_set q1).trans (by kernel_rfl),?_,rf1.grown (ak _ _ _ _) q1 (TkM.not_u8 bJ) m5 m6,m1,m2,by rw[ybv];exact yae m3 hg.size,m4,m5,m6⟩;rw[eln,e8];exact dw h4 (fun k hk=>yaA _ _ _ _ (by have:=(aU h4 hk).1;show k≠ob;omega))
end
theorem Qc:yg (.int .u8 16) 101 (fun o=>o.ho=none/\o.hn=0/\o.hc=0):=by
 intro K J Q' B g ob nb rb w T l8 tc o c s V0 hz h hl;intros;rename_i h2 hQP hJ;conv=>arg 2;whnf
 have hmo:=hmO
 have HZ:=hid hz;have T3:=bC s 16 (by decide);have hl3:=fU s 16;have hby:=gB B g s 16 V0 h.rf hl;unfold gJ at hby;generalize RS.bytes s 16=y at *;obtain⟨y,s3⟩:=y;dsimp only at T3 hby hl3;have HT:=hid T3;have HL3:=hid hl3;have H:=hid h;clear T3 h hz;go_wp2_with fail;refine hby.mono ?_;rintro e W1 ⟨hR1,hg1,a1,k1,rfl,hrd1,hty1⟩;have h1:=H.out.grown hg1 hR1;have hBo:B<=ob:=by have:=h1.Bg;have:=h1.gw;have:=h1.wo;omega
 have hlt:=h1.lt.1;have hBW:B<=W1.heap.size:=by omega
 have H1:=hid h1;clear hby hR1 hg1 H h1;go_upto_region 34 with fail;generalize hg:W1.alloc _=W2;have e2:W1.alloc (.cells #[.slice a1 y.length k1,.bool false] 119)=W2:=hg;have hb2:=bE e2
 have hrS:RfS B W1.heap.size ⟨y,false⟩ W2:=by rw[<-e2];exact oz hrd1 hBW hty1
 have h2':=H1.out.later hb2;have hz2:W2.heap.size=W1.heap.size+1:=by rw[<-e2];simp
 have hso:W1.heap.size≠ob:=by omega
 obtain⟨cs,hcs⟩:=hrS.at_;have q0:=h2'.q;obtain⟨M,hMM⟩:∃M,W2.heap.size=M:=⟨_,rfl⟩
 have hs0:SnL B M ob W1.heap.size o W2 y [] none 0 ⟨y,false⟩ W2:=⟨BelX.refl _ _ _,⟨fun n hn=>(by cases hn),fun _=>rfl,fun e=>(by cases e),yag _,yam _⟩,by
   have e:({ o with ho:=none,hn:=([]:List Nat).length,hc:=0 }:MV)=o:=by
    obtain⟨z1,z2,z3⟩:=HZ.out;cases o;dsimp only at z1 z2 z3;subst z1 z2 z3;rfl
   rw[e];exact q0,yaC _ _ _ _,hrS,by omega,by omega,by omega,by omega,hso,hBo⟩
 have hW2s:W1.heap.size≠nb/\W1.heap.size≠rb/\w.heap.size<=W1.heap.size:=by
  have l1:=H1.out.lt;have l2:=H1.out.X.size;omega
 have H2:=hid h2';have HM:=hid hMM;have hBs:B<=W1.heap.size:=hBW;have hgs:g<W1.heap.size:=by have:=h2'.gw;have:=H1.out.X.size;omega
 clear hg e2 hb2 hrS h2' hz2 hMM hrd1 hty1 hBW H1;generalize W1.heap.size=sb at *;go_loopw [] (fun wr=>∃(l:List Nat) (a:Option Addr) (kc:Nat) (q:RS),SnL B M ob sb o W2 y l a kc q wr) (fun wr=>match wr.cell? ⟨sb,0,none⟩,wr.cell? ⟨sb,1,none⟩ with | some (.slice _ n _),some (.bool b)=>if b=true then 0 else n+1 | _,_=>0)
 case atStart=>exact⟨[],none,0,⟨y,false⟩,hs0⟩
 case round=>
  obtain⟨l,a,kc,q,hL⟩:=hrel;clear hs0;obtain⟨ax,cx,hc0⟩:=hL.rf.cell0;have hc1:=hL.rf.cell1;have HL:=hid hL;have hql:q.l.length<=y.length:=hL.R.le;by_cases hgo:0<q.l.length/\q.bad=false
  ·have f0:decide ((0:Int)<(q.l.length:Int))=true:=yaa (by omega);have f0n:decide (0<q.l.length)=true:=yaa hgo.1;have f0p:=hgo.1;have HG:=hid hgo;have hc1':=hc1;rw[hgo.2] at hc1;have HC0:=hid hc0;have HC1:=hid hc1';clear hgo hL hc1';go_upto_region 35 with fail;refine dN (k:=7) (S:=fun W=>W.cell? ⟨ob,26,none⟩=some (.slice a l.length kc)) hmo ?_;change bV _ _ _ _ _ _ _ _ _ (World.drew wr);have hd:Below wr.heap.size wr wr.drew:=(yaj _ _).drew;have s0:=HL.out.later hd;generalize World.drew wr=X0 at *;have t0:X0.cell? ⟨ob,26,none⟩=some (.slice a l.length kc):=(McAt.of s0.qo).c26;have hnum:=jQ B sb q 1 X0 s0.rf (by omega);have TT:=iL q 1 (by decide);have hn:=JO q 1;generalize RS.num q 1=nm at *;obtain⟨n,q'⟩:=nm;dsimp only at hnum TT hn;have HR:=hid (s0.R.next TT hn HG.out.2 HG.out.1);have HTT:=hid TT;have HS0:=hid s0;have hll:l.length<=100000000:=by
    have h1:=s0.R.yes HG.out.2;have h2:=congrArg List.length h1;rw[yab] at h2;have h3:l.length<=(df l).length:=by
     rw[jS];omega
    omega
   clear hd s0 TT hc0 hc1 f0 f0n f0p;refine ztp 0 (pp ob 26) rfl ?_;go_simp;refine zTa (hQ:=fun a b c=>hQP a b _ _ c) 1 (.slice a l.length kc) rfl (by rintro w2 h2;go_simp) t0 ?_;go_simp;refine ztp 2 (pp sb 0) rfl ?_;go_simp;refine zT1 3 rfl (fun K hK=>?_);go_simp;refine hnum.mono ?_;rintro e X1 ⟨rfl,hR1,hg1⟩;have s1:=HS0.out.num hg1 hR1;have t1:=s1.c26;clear hnum hR1 hg1;go_simp;refine hK _ _ ⟨.inr t1,?_⟩;clear hK K t0;refine zT1 4 rfl (fun K hK=>?_);go_simp;obtain⟨V,hV⟩:∃V,X1.alloc (.cells #[.int .u64 (n:Int)] 22)=V:=⟨_,rfl⟩
   have hbV:=bE hV
   have rV:Rd V 1 (some ⟨X1.heap.size,0,none⟩) 1 1 [.int .u64 (n:Int)]:=by rw[<-hV];exact Rd.new X1 [.int .u64 (n:Int)] 22 (0,0) 1 1 rfl (by unfold maxLen;omega)
   have sV:=s1.later hbV;have t2:=sV.c26;rw[hV];refine hK _ _ ⟨.inr t2,?_⟩;clear hK K hV hbV s1 t1;refine zT1 5 rfl (fun K hK=>?_);refine oh rfl (.tmp 165) (.tmp 168) 57 rfl M 22 (.int .u64 0) 1 8 RI (.slice a l.length kc) l.length (je l) rfl sV.own (some ⟨X1.heap.size,0,none⟩) 1 1 [.int .u64 (n:Int)] rfl rV (fun v hv=>by rw[yah.1 hv];rfl) (by unfold maxLen;omega) (by omega) sV.hM.2.2.1 ?_;intro a4 k4 V4 own4 hg4 hb4 _;obtain⟨p1,p2,p3⟩:=sV.app own4 hg4 hb4 HR.out;refine hK _ _ ⟨.inr p1,?_⟩;clear hK K own4 hg4 hb4 rV sV t2;refine ztp 6 (pp ob 26) rfl ?_;go_simp;refine nM (by kernel_rfl) (by kernel_rfl) ?_;refine zA1 7 rfl (fun K hK=>?_);go_simp;refine hK _ _ ?_;clear hK K;refine yby (by kernel_rfl) ?_ _;have HP:=hid p3;clear p1 p2 p3;generalize World.setCell _ ⟨ob,26,none⟩ _=X9 at *;go_wp2_with fail;go_roundw
   case rel=>exact⟨l++[n],a4,k4,q',HP.out⟩
   case measure=>
    obtain⟨ax',cx',d0⟩:=HP.out.rf.cell0;have d1:=HP.out.rf.cell1;rw[HC0.out,HC1.out,d0,d1,HG.out.2];dsimp only;cases hqb:q'.bad with
    | true=>simp
    | false=>
     obtain⟨-,e,-⟩:=HTT.out.yes hqb;have h2:=congrArg List.length e;rw[yab,ae,ai] at h2;simp;omega
  have hkn:KeepN B W2 wr:=KeepN.of_belX' (HM.out▸hL.X) (fun j hj=>by
   simp only[yas,yal,or_false] at hj;rcases hj with rfl|rfl
   ·exact⟨hBo,_,_,_,q0,bJ⟩
   exact⟨hBs,_,_,_,hcs,nX⟩)
  have aX:=H2.out.at_.kpn H2.out.ty hkn;have yX:=H2.out.ty.kpn hkn;have hu:=H2.out.u;have hrg:RfS B g s3 wr:=H2.out.rf.belX (HM.out▸hL.X) (fun hm=>by
    simp only[yas,yal,or_false] at hm;have:=H2.out.gw;have:=H2.out.wo;omega) (fun j hj=>by
    simp only[yas,yal,or_false] at hj;rcases hj with rfl|rfl
    ·exact hBo
    ·exact hBs) (fun j hj=>by
    simp only[yas,yal,or_false] at hj;rcases hj with rfl|rfl
    ·exact⟨_,q0,TkM.not_u8 bJ⟩
    exact⟨_,hcs,TkM.not_u8 nX⟩)
  have lu:l.length<=1000000000:=by
   have:=hL.R.len;omega
  have hT:TkM B g ob nb rb w T l8 tc (aJ 101 o { o with ho:=a,hn:=l.length,hc:=kc }) (dA 101 c { c with seen:=l }) s3 wr:=
   H2.out.turn hkn (HM.out▸hL.X) (fun j hj=>by simp only[yas,yal,or_false] at hj;rcases hj with rfl|rfl;exact .inl rfl;exact .inr (.inr hW2s)) hrg hL.qo rfl rfl
    ⟨aX.rq,aX.rs,aX.sn,aX.lg,Rd.of_own_slice hL.own,aX.ls,lu⟩ ⟨hu.vi,hu.no,hu.cl,hu.nu,hu.at_,hu.cm,hu.bs,hu.nc,hu.rq,hu.log,hL.R.u⟩ ⟨yX.rq,yX.rs,yX.sn,yX.lo,yX.log,TyX.of_own hL.own⟩ (by
     have h1:=H2.out.ft;exact⟨h1.rs,h1.rl,h1.lg,h1.sn,(show l.length<=322639 by have:=hL.R.len;have:=HL3.out;omega),h1.ln⟩)
  have hS:StepX 101 s (aJ 101 o { o with ho:=a,hn:=l.length,hc:=kc }) (dA 101 c { c with seen:=l }) ⟨s3.l,s3.bad||!(!q.bad)⟩:=step_seen HT.out (fun h=>by
    have hb:q.bad=false:=by simpa using h
    have h0:q.l=[]:=yat (by
     by_cases e:0<q.l.length
     ·exact absurd ⟨e,hb⟩ hgo
     omega)
    have h1:=hL.R.yes hb;rw[h0,yaD] at h1;exact h1.symm) (fun h=>hL.R.no (by simpa using h))
  have d0:=hT.rf.cell1;have dz:=hT.rf.fz1;have HTM:=hid hT;have HSS:=hid hS;have HG:=hid hgo;clear hT hS aX yX hu hrg hkn hL hgo lu;obtain⟨l3,bad⟩:=s3;dsimp only at d0 HTM HSS;by_cases h0:0<q.l.length
  ·have hqb:q.bad=true:=by
    cases e:q.bad with
    | true=>rfl
    | false=>exact absurd ⟨h0,e⟩ HG.out
   have f0:decide ((0:Int)<(q.l.length:Int))=true:=yaa (by omega);have f0n:decide (0<q.l.length)=true:=yaa h0;rw[hqb] at hc1;have HQ:=hid hqb;clear hqb;cases bad with
   | true=>
    have h5:=hid (HTM.out.flag true);go_wp2_with fail;refine Met.intro ?_;apply hJ;exact⟨_,_,_,h5.out,HSS.out⟩
   | false=>
    have h5:=hid (HTM.out.flag true);have hs5:=HSS.out;rw[HQ.out] at hs5;have HS5:=hid hs5;clear hs5;go_wp2_with fail;refine Met.intro ?_;apply hJ;exact⟨_,_,_,h5.out,HS5.out⟩
  have f0:decide ((0:Int)<(q.l.length:Int))=false:=yad (by omega);have f0n:decide (0<q.l.length)=false:=yad h0;cases bad with
  | true=>
   have h5:=hid (HTM.out.flag true);go_wp2_with fail;refine Met.intro ?_;apply hJ;exact⟨_,_,_,h5.out,HSS.out⟩
  | false=>
   have h5:=hid (HTM.out.flag q.bad);have hs5:=HSS.out;rw[Bool.not_not] at hs5;have HS5:=hid hs5;clear hs5;obtain⟨qb,hqb⟩:∃qb,q.bad=qb:=⟨_,rfl⟩
   rw[hqb] at hc1 h5 HS5;clear hqb;go_wp2_with fail;refine Met.intro ?_;apply hJ;exact⟨_,_,_,h5.out,HS5.out⟩
structure StN (ob pb:Nat)(o:MV)(q:Nat)(l:List Nat)(W:World):Prop where
 ex:∃a k,W.heap[ob]?=some (MV.box { o with ho:=a,hn:=l.length,hc:=k })/\W.ownsRow q 22 1 (.slice a l.length k) l.length (je l)
 pb:W.heap[pb]?=some (fB ob)
 u:∀n∈l,n<18446744073709551616
theorem StN.set{ob pb g q:Nat}{o:MV}{l:List Nat}{W:World}{x:Value}(h:StN ob pb o q l W)(hg:W.heap[g]?=some (.cells cs 237)):StN ob pb o q l (W.setCell ⟨g,i,none⟩ x):=by
 obtain⟨⟨a,k,h1,h2⟩,h3,h4⟩:=h;refine⟨⟨a,k,ah h1 (fun e=>?_),dw h2 (fun j hj=>yaA _ _ _ _ (fun e=>?_))⟩,ah h3 (fun e=>?_),h4⟩
 ·rw[e,hg] at h1;cases h1
 ·obtain⟨-,-,cur,h5⟩:=aU h2 hj;have e:j=g:=e;rw[e,hg] at h5;cases h5
 rw[e,hg] at h3;cases h3
structure NpS (q ob pb:Nat)(o:MV)(s':RS)(wr:World)(l:List Nat)(a:Option Addr)(kc:Nat)(W:World):Prop where
 X:BelX q [ob] wr W
 qo:W.heap[ob]?=some (MV.box { o with ho:=a,hn:=l.length,hc:=kc })
 own:W.ownsRow q 22 1 (.slice a l.length kc) l.length (je l)
 u:∀n∈l,n<18446744073709551616
 rd:RdS q q s' W
 qp:W.heap[pb]?=some (fB ob)
 hM:ob<q/\pb<q/\q<=W.heap.size
section
variable {q ob pb:Nat} {o:MV} {s':RS} {wr:World} {l:List Nat} {a:Option Addr} {kc:Nat} {W W':World}
theorem NpS.later(h:NpS q ob pb o s' wr l a kc W)(hb:Below W.heap.size W W'):NpS q ob pb o s' wr l a kc W':=
 ⟨h.X.trans ((BelX.of_below hb [ob]).mono h.hM.2.2 (fun _ hk _=>hk)),af h.qo hb,ag h.own hb,h.u,h.rd.later hb,(hb.q h.qp),⟨h.hM.1,h.hM.2.1,yae h.hM.2.2 hb.size⟩⟩
theorem NpS.num{s2:RS}(h:NpS q ob pb o s' wr l a kc W)(hg:W.grownBy W' (some q))(hr:RdS q q s2 W'):NpS q ob pb o s2 wr l a kc W':=by
 obtain⟨m1,m2,m3⟩:=h.hM;refine⟨h.X.trans ((jo hg (M:=q) m3).mono (yag _) (fun k hk e=>by rw[yah.1 hk] at e;omega)),(hg.block _ (by omega) (fun e=>by have:=yaf e;omega)).trans h.qo,dw h.own (fun k hk=>hg.block k (aU h.own hk).2.1 (fun e=>?_)),h.u,hr,(hg.block _ (by omega) (fun e=>by have:=yaf e;omega)).trans h.qp,m1,m2,yae m3 hg.size⟩;obtain⟨_,_,cur,h3⟩:=aU h.own hk;obtain⟨_,_,h5⟩:=h.rd;have h4:=h5.at_;rw[<-yaf e,h3] at h4;cases h4
def NpC (pb ob:Nat)(v:Value)(W:World):Prop:=W.cell? ⟨pb,0,none⟩=some (.pointer (some ⟨ob,0,none⟩))/\W.cell? ⟨ob,26,none⟩=some v
theorem NpC.cell(h:NpC pb ob v W):W.cell? ⟨pb,0,none⟩=some (.pointer (some ⟨ob,0,none⟩))/\W.cell? ⟨ob,26,none⟩=some v:=h
theorem NpS.cells(h:NpS q ob pb o s' wr l a kc W):NpC pb ob (.slice a l.length kc) W:=⟨by have:=h.qp;simp[World.cell?,this,fB],(McAt.of h.qo).c26⟩
theorem NpS.app(h:NpS q ob pb o s' wr l a kc W)(h4:W'.ownsRow q 22 1 (.slice a4 (l.length+1) k4) (l.length+1) (je l++[.int .u64 (n:Int)]))(hg:W.grownBy W' (Value.slice a l.length kc).ownBlock)(hb:Below q W W') :
  NpC pb ob (.slice a l.length kc) W'/\W'.frozen? ⟨ob,26,none⟩=false/\(n<18446744073709551616->StN ob pb o q (l++[n]) (W'.setCell ⟨ob,26,none⟩ (.slice a4 (l.length+1) k4)))/\RdS q q s' (W'.setCell ⟨ob,26,none⟩ (.slice a4 (l.length+1) k4))/\BelX q [ob] wr (W'.setCell ⟨ob,26,none⟩ (.slice a4 (l.length+1) k4)) /\
  (W'.setCell ⟨ob,26,none⟩ (.slice a4 (l.length+1) k4)).cell? ⟨pb,0,none⟩=some (.pointer (some ⟨ob,0,none⟩))/\(W'.setCell ⟨ob,26,none⟩ (.slice a4 (l.length+1) k4)).cell? ⟨ob,26,none⟩=some (.slice a4 (l.length+1) k4):=by
 obtain⟨m1,m2,m3⟩:=h.hM;have q1:W'.heap[ob]?=some (MV.box { o with ho:=a,hn:=l.length,hc:=kc }):=(hb.block _ m1).trans h.qo;have p1:W'.heap[pb]?=some (fB ob):=(hb.block _ m2).trans h.qp;have r1:RdS q q s' W':=wS h.rd hg h.own (by decide) (by decide);have hpo:pb≠ob:=fun e=>by rw[e,q1] at p1;cases p1
 have q2:(W'.setCell ⟨ob,26,none⟩ (.slice a4 (l.length+1) k4)).heap[ob]?=some (MV.box { o with ho:=a4,hn:=l.length+1,hc:=k4 }):=(at_set q1).trans (by kernel_rfl);have p2:=ah (b:=ob) (i:=26) (x:=.slice a4 (l.length+1) k4) p1 hpo;have eln:(l++[n]).length=l.length+1:=by simp
 have e8:je (l++[n])=je l++[.int .u64 (n:Int)]:=by simp[je]
 refine⟨⟨by simp[World.cell?,p1,fB],(McAt.of q1).c26⟩,dR q1 26,fun hn=>⟨⟨a4,k4,by rw[eln];exact q2,?_⟩,p2,fun m hm=>?_⟩,r1.grown (ak _ _ _ _) q1 (RdM.not_u8 bJ) (by omega),(h.X.trans (BelX.of_below hb [ob])).set _ _ _ (.inl (by simp)),by simp[World.cell?,p2,fB],(McAt.of q2).c26⟩
 ·rw[eln,e8];exact dw h4 (fun j hj=>yaA _ _ _ _ (by have:=(aU h4 hj).1;show j≠ob;omega))
 rcases yaQ.1 hm with hm | hm
 ·exact h.u m hm
 rw[yah.1 hm];exact hn
end
theorem Jk(ob pb q:Nat)(o:MV)(l:List Nat)(b:List UInt8)(wr:World)(hob:ob<q)(hpb:pb<q)(hst:StN ob pb o q l wr)(hr:RdS q q ⟨b,false⟩ wr)(hb:b.length<=4194304)(hl:l.length<=4194304) :
  Calls Tryz.prog 217 #[.pointer (some ⟨q,0,none⟩),.pointer (some ⟨pb,0,none⟩)] wr (um q [ob] elN wu 7 (StN ob pb o) l b wr):=by
 have hmo:=hmO
 obtain⟨⟨a,k,ho,hown⟩,hp,hu⟩:=hst;have hqs:q<wr.heap.size:=by obtain⟨_,_,h⟩:=hr;exact h.lt
 have hd:Below wr.heap.size wr wr.drew:=(yaj _ _).drew;have s0:NpS q ob pb o ⟨b,false⟩ wr l a k wr.drew:=NpS.later (⟨BelX.refl _ _ _,ho,hown,hu,hr,hp,hob,hpb,by omega⟩:NpS q ob pb o ⟨b,false⟩ wr l a k wr) hd;clear ho hown hp hu hr hd;go_in;go_upto_region 1 with fail;refine dN (k:=11) (S:=NpC pb ob (.slice a l.length k)) hmo ?_;change bV _ _ _ _ _ _ _ _ _ (World.drew wr);generalize World.drew wr=X0 at *;have t0:=s0.cells;have hnum:=pW q q ⟨b,false⟩ 1 X0 s0.rd (by dsimp only;omega);unfold jm at hnum;have TT:=iL ⟨b,false⟩ 1 (by decide);have hn:=FN ⟨b,false⟩ 1;generalize RS.num ⟨b,false⟩ 1=nm at *;obtain⟨n,s'⟩:=nm;dsimp only at hnum TT hn;have HT:=hid TT;have HN:=hid hn;clear TT hn;have zf0 w0 (h:NpC pb ob (.slice a l.length k) w0):=h.cell;refine ztv 0 (pp ob 0) rfl ?_;go_simp;refine ztv 1 (pp ob 0) rfl ?_;go_simp;refine ztp 2 (pp ob 0) rfl (ztp 3 (pp ob 26) rfl ?_);go_simp;refine ztv 4 (.slice a l.length k) rfl ?_;go_simp;refine ztp 5 (pp q 0) rfl ?_;go_simp;refine zT1 6 rfl (fun K hK=>?_);go_simp;refine hnum.mono ?_;rintro e X1 ⟨rfl,hR1,hg1⟩;have s1:=s0.num hg1 hR1;have t1:=s1.cells;clear hnum hR1 hg1 s0;go_simp;refine hK _ _ ⟨.inr t1,?_⟩;clear hK K t0;refine zT1 7 rfl (fun K hK=>?_);go_simp;obtain⟨V,hV⟩:∃V,X1.alloc (.cells #[.int .u64 (n:Int)] 22)=V:=⟨_,rfl⟩
 have hbV:=bE hV
 have rV:Rd V 1 (some ⟨X1.heap.size,0,none⟩) 1 1 [.int .u64 (n:Int)]:=by rw[<-hV];exact Rd.new X1 [.int .u64 (n:Int)] 22 (0,0) 1 1 rfl (by unfold maxLen;omega)
 have sV:=s1.later hbV;have t2:=sV.cells;rw[hV];refine hK _ _ ⟨.inr t2,?_⟩;clear hK K hV hbV s1 t1;refine zT1 8 rfl (fun K hK=>?_);refine oh rfl (.tmp 8) (.tmp 11) 57 rfl q 22 (.int .u64 0) 1 8 RI (.slice a l.length k) l.length (je l) rfl sV.own (some ⟨X1.heap.size,0,none⟩) 1 1 [.int .u64 (n:Int)] rfl rV (fun v hv=>by rw[yah.1 hv];rfl) (by unfold maxLen;omega) (by omega) sV.hM.2.2 ?_;intro a4 k4 V4 own4 hg4 hb4 _;obtain⟨p1,p2,p3,p4,p5,c8,c9⟩:=sV.app own4 hg4 hb4;refine hK _ _ ⟨.inr p1,?_⟩;clear hK K own4 hg4 hb4 rV sV t2;refine ztp 9 (pp ob 0) rfl (ztp 10 (pp ob 26) rfl ?_);go_simp;have cO:=p1.cell.2;refine nM (by kernel_rfl) (by kernel_rfl) ?_;refine zA1 11 rfl (fun K hK=>?_);go_simp;refine hK _ _ ?_;clear hK K cO;refine yby (by kernel_rfl) ?_ _;have P:=hid (yax (p3 HN.out) (yax p4 p5));clear p1 p2 p3 p4 p5;generalize World.setCell _ ⟨ob,26,none⟩ _=W5 at *;have hG:Hid (∀bb:Bool,(bb=true->l.length<7)->(bb=false->7<=l.length)->um q [ob] elN wu 7 (StN ob pb o) l b wr (.returned (.bool bb)) W5):=hid (by
  intro bb h1 h2;refine⟨bb,s',n,rfl,P.out.2.1,P.out.1,P.out.2.2,HT.out.le,fun hb hs=>?_,fun h=>?_⟩
  ·obtain⟨-,k4,k5⟩:=HT.out.yes hs;exact⟨h1 hb,k4,k5⟩
  have hno:s'.bad=true->∀z rest,wu z->b≠elN z++rest:=fun hs z rest hz=>by
   rcases HT.out.no hs with h | h
   ·cases h
   exact h z rest hz
  rcases h with rfl | h
  ·exact .inl (h2 rfl)
  exact .inr (hno h))
 clear P HT HN;by_cases h8:l.length<7
 ·have f0:decide ((l.length:Int)+1<=7)=true:=yaa (by omega);go_wp2_with fail;go_ret;exact hG.out true (fun _=>h8) (fun h=>by cases h)
 have f0:decide ((l.length:Int)+1<=7)=false:=yad (by omega);go_wp2_with fail;go_ret;exact hG.out false (fun h=>by cases h) (fun _=>by omega)
theorem Qx(B g ob:Nat)(w:World)(o:MV)(c:MC)(s:RS)(W:World)(h:RdM B g ob w o c s W)(hl:s.l.length<=100000000)(hz:o.ho=none/\o.hn=0/\o.hc=0):Calls Tryz.prog 216 #[.pointer (some ⟨g,0,none⟩),.pointer (some ⟨ob,0,none⟩)] W (nH B g ob w 101 o c s W):=by
 have hb:=bN W (fB ob);have hp:=aN W (fB ob);have h1:=h.later hb;obtain⟨l1,l2⟩:=h.lt;have hgb:W.heap.size≠g:=by omega
 unfold fB at hb hp h1;go_in;go_upto_region 1 with fail;generalize hg:W.alloc _=W1 at *;have hp1:W1.heap[W.heap.size]?=some (fB ob):=hp;clear hg hp;have hno:∀q w1,W1.grownBy w1 (some g)->StN ob W.heap.size o q [] w1:=fun q w1 hgw=>by
  have q1:=(hgw.block _ h1.lt.2 (fun e=>h.ne (yaf e).symm)).trans h1.q;refine⟨⟨none,0,?_,yaC _ _ _ _⟩,(hgw.block _ (lA hp1) (fun e=>hgb (yaf e))).trans hp1,fun p hp=>by cases hp⟩;have e:({ o with ho:=none,hn:=([]:List Nat).length,hc:=0 }:MV)=o:=by
   obtain⟨z1,z2,z3⟩:=hz;cases o;dsimp only at z1 z2 z3;subst z1 z2 z3;rfl
  rw[e];exact q1
 have hli:=wM B g s 16 217 #[.pointer (some ⟨W.heap.size,0,none⟩)] W1 (by decide) h1.rd hl (enters_of Tryz.func217 (by kernel_rfl) rfl) [ob] (fun k hk=>by
  rw[yah.1 hk];exact⟨fun e=>h.ne e.symm,_,h1.q,RdM.not_u8 bJ⟩) elN wu 7 QW P7 (StN ob W.heap.size o) hno (fun q l wx cs v _ k1 k2=>k1.set k2) (fun q l b wr hq k1 k2 k3 k4 _=>Jk ob W.heap.size q o l b wr (yaz h1.lt.2 hq) (yaz (lA hp1) hq) k1 k2 k3 k4)
 have H1:=hid h1;clear h h1 hno hz hp1 hgb;go_wp2_with fail;refine hli.mono ?_;rintro e W2 ⟨⟨r9,rfl⟩,s',q,l,hr2,hq,hst,hX,hln,T⟩;have HH:Hid (nH B g ob w 101 o c s W (.returned (.tuple #[])) W2):=hid (by
  obtain⟨⟨a,k,qo,own⟩,-,hu⟩:=hst;have h1:=H1.out;have hk:KeepM W1 W2:=KeepM.of_belX hX (fun k hk=>by
   simp only[yas,yal,or_false] at hk;rcases hk with rfl|rfl
   ·obtain⟨_,_,hr⟩:=h1.rd;exact⟨_,hr.at_,fun c t fr ht e=>by cases e;exact pX ht⟩
   exact⟨_,h1.q,fun c t fr ht e=>by cases e;exact bJ ht⟩)
  have A:=h1.at_.kpm h1.ty hk;have Y:=h1.ty.kpm hk;have S:StepX 101 s (aJ 101 o { o with ho:=a,hn:=l.length,hc:=k }) (dA 101 c { c with seen:=l }) s':=J5 T rfl;refine⟨rfl,(BelX.of_below hb [g,ob]).trans (hX.mono hb.size (fun _ hk _=>hk)),{ o with ho:=a,hn:=l.length,hc:=k },{ c with seen:=l },s',h1.turn hX hr2 qo ⟨A.rq,A.rs,A.sn,A.lg,Rd.of_own_slice own,A.ls,by show l.length<=1000000000;omega⟩ ⟨h1.u.vi,h1.u.no,h1.u.cl,h1.u.nu,h1.u.at_,h1.u.cm,h1.u.bs,h1.u.nc,h1.u.rq,h1.u.log,hu⟩ ⟨Y.rq,Y.rs,Y.sn,Y.lo,Y.log,TyX.of_own own⟩ h1.fr (fun e=>⟨(h1.cnt (T.yes e).1).1,(T.yes e).2.2.2.1⟩),S⟩)
 clear hst hr2 hq hX hln T H1 hb hli;go_wp2_with fail;refine yaL (yaJ rfl _ _ _) rfl ?_;exact HH.out
theorem Oq{t0 t1 t2 t3 t4 t5 t6 t7:Nat}:∀f∈allL t0 t1 t2 t3 t4 t5 t6 t7,∃tf tc,TakeOk t0 t1 t2 t3 t4 t5 t6 t7 f tf tc:=by
 intro f hf;simp only[allL,yas,yal,or_false] at hf;rcases hf with rfl|rfl|rfl|rfl|rfl|rfl|rfl|rfl|rfl|rfl|rfl|rfl|rfl|rfl|rfl
 ·refine⟨220,#[.pointer (some ⟨t0,0,none⟩),.pointer (some ⟨t0+1,0,none⟩)],rfl,enters_of Tryz.func220 (by kernel_rfl) rfl,fun B g ob w o c s W ha h hl _ _=>takeN (x:=118) (ff:=164) (ix:=1) (t:=2) (fv:=fun n o=>{ o with vi:=n }) (fld:=MV.vi) (by decide) Ho.calls (enters_of Tryz.func164 (by kernel_rfl) rfl) (by decide) h hl ha.a0 ⟨_,rfl⟩ (fun _ _=>rfl) (fun m d u=>u.vi) (fun _=>rfl) (fun n=>by kernel_rfl) (fun n X a=>⟨a.rq,a.rs,a.sn,a.lg,a.se,a.ls,a.lh⟩) (fun n h0 h1=>⟨⟨h0,h1⟩,h.u.no,h.u.cl,h.u.nu,h.u.at_,h.u.cm,h.u.bs,h.u.nc,h.u.rq,h.u.log,h.u.seen⟩) (fun n X a=>⟨a.rq,a.rs,a.sn,a.lo,a.log,a.ho⟩) (fun n=>⟨rfl,rfl,rfl⟩)⟩
 ·refine⟨220,#[.pointer (some ⟨t1,0,none⟩),.pointer (some ⟨t1+1,0,none⟩)],rfl,enters_of Tryz.func220 (by kernel_rfl) rfl,fun B g ob w o c s W ha h hl _ _=>takeN (x:=110) (ff:=165) (ix:=2) (t:=3) (fv:=fun n o=>{ o with no:=n }) (fld:=MV.no) (by decide) Io.calls (enters_of Tryz.func165 (by kernel_rfl) rfl) (by decide) h hl ha.a1 ⟨_,rfl⟩ (fun _ _=>rfl) (fun m d u=>u.no) (fun _=>rfl) (fun n=>by kernel_rfl) (fun n X a=>⟨a.rq,a.rs,a.sn,a.lg,a.se,a.ls,a.lh⟩) (fun n h0 h1=>⟨h.u.vi,⟨h0,h1⟩,h.u.cl,h.u.nu,h.u.at_,h.u.cm,h.u.bs,h.u.nc,h.u.rq,h.u.log,h.u.seen⟩) (fun n X a=>⟨a.rq,a.rs,a.sn,a.lo,a.log,a.ho⟩) (fun n=>⟨rfl,rfl,rfl⟩)⟩
 ·exact⟨188,#[],rfl,enters_of Tryz.func188 (by kernel_rfl) rfl,fun B g ob w o c s W _ h hl _ _=>PD B g ob w o c s W h hl⟩
 ·refine⟨220,#[.pointer (some ⟨t2,0,none⟩),.pointer (some ⟨t2+1,0,none⟩)],rfl,enters_of Tryz.func220 (by kernel_rfl) rfl,fun B g ob w o c s W ha h hl _ _=>takeN (x:=99) (ff:=166) (ix:=4) (t:=5) (fv:=fun n o=>{ o with cl:=n }) (fld:=MV.cl) (by decide) IY.calls (enters_of Tryz.func166 (by kernel_rfl) rfl) (by decide) h hl ha.a2 ⟨_,rfl⟩ (fun _ _=>rfl) (fun m d u=>u.cl) (fun _=>rfl) (fun n=>by kernel_rfl) (fun n X a=>⟨a.rq,a.rs,a.sn,a.lg,a.se,a.ls,a.lh⟩) (fun n h0 h1=>⟨h.u.vi,h.u.no,⟨h0,h1⟩,h.u.nu,h.u.at_,h.u.cm,h.u.bs,h.u.nc,h.u.rq,h.u.log,h.u.seen⟩) (fun n X a=>⟨a.rq,a.rs,a.sn,a.lo,a.log,a.ho⟩) (fun n=>⟨rfl,rfl,rfl⟩)⟩
 ·refine⟨220,#[.pointer (some ⟨t3,0,none⟩),.pointer (some ⟨t3+1,0,none⟩)],rfl,enters_of Tryz.func220 (by kernel_rfl) rfl,fun B g ob w o c s W ha h hl _ _=>takeN (x:=117) (ff:=167) (ix:=5) (t:=6) (fv:=fun n o=>{ o with nu:=n }) (fld:=MV.nu) (by decide) Ie.calls (enters_of Tryz.func167 (by kernel_rfl) rfl) (by decide) h hl ha.a3 ⟨_,rfl⟩ (fun _ _=>rfl) (fun m d u=>u.nu) (fun _=>rfl) (fun n=>by kernel_rfl) (fun n X a=>⟨a.rq,a.rs,a.sn,a.lg,a.se,a.ls,a.lh⟩) (fun n h0 h1=>⟨h.u.vi,h.u.no,h.u.cl,⟨h0,h1⟩,h.u.at_,h.u.cm,h.u.bs,h.u.nc,h.u.rq,h.u.log,h.u.seen⟩) (fun n X a=>⟨a.rq,a.rs,a.sn,a.lo,a.log,a.ho⟩) (fun n=>⟨rfl,rfl,rfl⟩)⟩
 ·exact⟨192,#[],rfl,enters_of Tryz.func192 (by kernel_rfl) rfl,fun B g ob w o c s W _ h hl _ _=>PY B g ob w o c s W h hl⟩
 ·exact⟨198,#[],rfl,enters_of Tryz.func198 (by kernel_rfl) rfl,fun B g ob w o c s W _ h hl _ _=>Qi B g ob w o c s W h hl⟩
 ·refine⟨220,#[.pointer (some ⟨t4,0,none⟩),.pointer (some ⟨t4+1,0,none⟩)],rfl,enters_of Tryz.func220 (by kernel_rfl) rfl,fun B g ob w o c s W ha h hl _ _=>takeN (x:=97) (ff:=168) (ix:=19) (t:=9) (fv:=fun n o=>{ o with at_:=n }) (fld:=MV.at_) (by decide) GK.calls (enters_of Tryz.func168 (by kernel_rfl) rfl) (by decide) h hl ha.a4 ⟨_,rfl⟩ (fun _ _=>rfl) (fun m d u=>u.at_) (fun _=>rfl) (fun n=>by kernel_rfl) (fun n X a=>⟨a.rq,a.rs,a.sn,a.lg,a.se,a.ls,a.lh⟩) (fun n h0 h1=>⟨h.u.vi,h.u.no,h.u.cl,h.u.nu,⟨h0,h1⟩,h.u.cm,h.u.bs,h.u.nc,h.u.rq,h.u.log,h.u.seen⟩) (fun n X a=>⟨a.rq,a.rs,a.sn,a.lo,a.log,a.ho⟩) (fun n=>⟨rfl,rfl,rfl⟩)⟩
 ·refine⟨220,#[.pointer (some ⟨t5,0,none⟩),.pointer (some ⟨t5+1,0,none⟩)],rfl,enters_of Tryz.func220 (by kernel_rfl) rfl,fun B g ob w o c s W ha h hl _ _=>takeN (x:=109) (ff:=169) (ix:=20) (t:=10) (fv:=fun n o=>{ o with cm:=n }) (fld:=MV.cm) (by decide) Gz.calls (enters_of Tryz.func169 (by kernel_rfl) rfl) (by decide) h hl ha.a5 ⟨_,rfl⟩ (fun _ _=>rfl) (fun m d u=>u.cm) (fun _=>rfl) (fun n=>by kernel_rfl) (fun n X a=>⟨a.rq,a.rs,a.sn,a.lg,a.se,a.ls,a.lh⟩) (fun n h0 h1=>⟨h.u.vi,h.u.no,h.u.cl,h.u.nu,h.u.at_,⟨h0,h1⟩,h.u.bs,h.u.nc,h.u.rq,h.u.log,h.u.seen⟩) (fun n X a=>⟨a.rq,a.rs,a.sn,a.lo,a.log,a.ho⟩) (fun n=>⟨rfl,rfl,rfl⟩)⟩
 ·refine⟨220,#[.pointer (some ⟨t6,0,none⟩),.pointer (some ⟨t6+1,0,none⟩)],rfl,enters_of Tryz.func220 (by kernel_rfl) rfl,fun B g ob w o c s W ha h hl _ _=>takeN (x:=98) (ff:=170) (ix:=21) (t:=11) (fv:=fun n o=>{ o with bs:=n }) (fld:=MV.bs) (by decide) Gg.calls (enters_of Tryz.func170 (by kernel_rfl) rfl) (by decide) h hl ha.a6 ⟨_,rfl⟩ (fun _ _=>rfl) (fun m d u=>u.bs) (fun _=>rfl) (fun n=>by kernel_rfl) (fun n X a=>⟨a.rq,a.rs,a.sn,a.lg,a.se,a.ls,a.lh⟩) (fun n h0 h1=>⟨h.u.vi,h.u.no,h.u.cl,h.u.nu,h.u.at_,h.u.cm,⟨h0,h1⟩,h.u.nc,h.u.rq,h.u.log,h.u.seen⟩) (fun n X a=>⟨a.rq,a.rs,a.sn,a.lo,a.log,a.ho⟩) (fun n=>⟨rfl,rfl,rfl⟩)⟩
 ·exact⟨202,#[],rfl,enters_of Tryz.func202 (by kernel_rfl) rfl,fun B g ob w o c s W _ h hl _ _=>PP B g ob w o c s W h hl⟩
 ·exact⟨206,#[],rfl,enters_of Tryz.func206 (by kernel_rfl) rfl,fun B g ob w o c s W _ h hl hz _=>PN B g ob w o c s W h hl (hz rfl)⟩
 ·refine⟨220,#[.pointer (some ⟨t7,0,none⟩),.pointer (some ⟨t7+1,0,none⟩)],rfl,enters_of Tryz.func220 (by kernel_rfl) rfl,fun B g ob w o c s W ha h hl _ _=>takeN (x:=111) (ff:=171) (ix:=24) (t:=14) (fv:=fun n o=>{ o with nc:=n }) (fld:=MV.nc) (by decide) GZ.calls (enters_of Tryz.func171 (by kernel_rfl) rfl) (by decide) h hl ha.a7 ⟨_,rfl⟩ (fun _ _=>rfl) (fun m d u=>u.nc) (fun _=>rfl) (fun n=>by kernel_rfl) (fun n X a=>⟨a.rq,a.rs,a.sn,a.lg,a.se,a.ls,a.lh⟩) (fun n h0 h1=>⟨h.u.vi,h.u.no,h.u.cl,h.u.nu,h.u.at_,h.u.cm,h.u.bs,⟨h0,h1⟩,h.u.rq,h.u.log,h.u.seen⟩) (fun n X a=>⟨a.rq,a.rs,a.sn,a.lo,a.log,a.ho⟩) (fun n=>⟨rfl,rfl,rfl⟩)⟩
 ·exact⟨211,#[],rfl,enters_of Tryz.func211 (by kernel_rfl) rfl,fun B g ob w o c s W _ h hl _ _=>QA B g ob w o c s W h hl⟩
 exact⟨216,#[],rfl,enters_of Tryz.func216 (by kernel_rfl) rfl,fun B g ob w o c s W _ h hl _ hz=>Qx B g ob w o c s W h hl (hz rfl)⟩
