/-
  A part of the proof.
-/
import Derived.Deep.CutRange
import Derived.Test.YtfmmandlmbcncaaGreatDoorKcbm
set_option maxHeartbeats 40000000
set_option maxRecDepth 100000
namespace Go.Proofs.YtfmmandlmbcncaaGreatDoor.Msg
open Go.RowKit Go.Lib Mem Tlv
theorem Ib (s:RS)(t:UInt8):(s.num t).1<18446744073709551616:=by
 rw[zh];split
 ·show 0<18446744073709551616;decide
 exact oD _ 8
theorem Nj {B g ob nb rb:Nat}{w:World}{T:Option Addr}{l8:List UInt8}{tc:Nat}{x:Int}{o:MV}{c:MC}{s s':RS}{W:World}{n:Nat}(hx:x∈[118,110,102,99,117,97,109,98,111])(h1:TkM B g ob nb rb w T l8 tc o c s' W)
  (TT:Took (fun n:Nat=>val (jK x) (aA n)) (fun n=>n<18446744073709551616) (fun n=>n<18446744073709551616) s n s') (hn:n<18446744073709551616):SwM B g ob nb rb w T l8 tc x o c s (W.setCell ⟨nb,(jK x).toNat,none⟩ (.int .u64 (n:Int))):=by
 have hN:(0:Int)<=(n:Int)/\(n:Int)<18446744073709551616:=by omega
 have hX:BelX W.heap.size [nb] W (W.setCell ⟨nb,(jK x).toNat,none⟩ (.int .u64 (n:Int))):=(BelX.refl _ _ _).set _ _ _ (.inl (by simp));simp only[List.mem_cons,List.not_mem_nil,or_false] at hx;rcases hx with rfl|rfl|rfl|rfl|rfl|rfl|rfl|rfl|rfl
 ·exact⟨{ o with vi:=(n:Int),no:=(n:Int),fr:=(n:Int),cl:=(n:Int),nu:=(n:Int),at_:=(n:Int),cm:=(n:Int),bs:=(n:Int),nc:=(n:Int) },c,s',h1.nums hX ((at_set h1.na).trans (by kernel_rfl)) rfl ⟨hN,h1.u.no,h1.u.cl,h1.u.nu,h1.u.at_,h1.u.cm,h1.u.bs,h1.u.nc,h1.u.rq,h1.u.log,h1.u.seen⟩ h1.fr,jm (f:=MV.vi) (by decide) (fun _ _=>rfl) (fun _ _ _ _ u _=>u.vi) TT rfl (fun _=>⟨fun e=>absurd e (by decide),fun e=>absurd e (by decide),fun e=>absurd e (by decide),fun e=>absurd e (by decide),fun e=>absurd e (by decide),fun e=>absurd e (by decide)⟩)⟩
 ·exact⟨{ o with vi:=(n:Int),no:=(n:Int),fr:=(n:Int),cl:=(n:Int),nu:=(n:Int),at_:=(n:Int),cm:=(n:Int),bs:=(n:Int),nc:=(n:Int) },c,s',h1.nums hX ((at_set h1.na).trans (by kernel_rfl)) rfl ⟨h1.u.vi,hN,h1.u.cl,h1.u.nu,h1.u.at_,h1.u.cm,h1.u.bs,h1.u.nc,h1.u.rq,h1.u.log,h1.u.seen⟩ h1.fr,jm (f:=MV.no) (by decide) (fun _ _=>rfl) (fun _ _ _ _ u _=>u.no) TT rfl (fun _=>⟨fun e=>absurd e (by decide),fun e=>absurd e (by decide),fun e=>absurd e (by decide),fun e=>absurd e (by decide),fun e=>absurd e (by decide),fun e=>absurd e (by decide)⟩)⟩
 ·exact⟨{ o with vi:=(n:Int),no:=(n:Int),fr:=(n:Int),cl:=(n:Int),nu:=(n:Int),at_:=(n:Int),cm:=(n:Int),bs:=(n:Int),nc:=(n:Int) },c,s',h1.nums hX ((at_set h1.na).trans (by kernel_rfl)) rfl ⟨h1.u.vi,h1.u.no,h1.u.cl,h1.u.nu,h1.u.at_,h1.u.cm,h1.u.bs,h1.u.nc,h1.u.rq,h1.u.log,h1.u.seen⟩ hN,jm (f:=MV.fr) (by decide) (fun _ _=>rfl) (fun _ _ _ _ _ k=>(by have:=k.fr rfl;omega)) TT rfl (fun _=>⟨fun _=>hN,fun e=>absurd e (by decide),fun e=>absurd e (by decide),fun e=>absurd e (by decide),fun e=>absurd e (by decide),fun e=>absurd e (by decide)⟩)⟩
 ·exact⟨{ o with vi:=(n:Int),no:=(n:Int),fr:=(n:Int),cl:=(n:Int),nu:=(n:Int),at_:=(n:Int),cm:=(n:Int),bs:=(n:Int),nc:=(n:Int) },c,s',h1.nums hX ((at_set h1.na).trans (by kernel_rfl)) rfl ⟨h1.u.vi,h1.u.no,hN,h1.u.nu,h1.u.at_,h1.u.cm,h1.u.bs,h1.u.nc,h1.u.rq,h1.u.log,h1.u.seen⟩ h1.fr,jm (f:=MV.cl) (by decide) (fun _ _=>rfl) (fun _ _ _ _ u _=>u.cl) TT rfl (fun _=>⟨fun e=>absurd e (by decide),fun e=>absurd e (by decide),fun e=>absurd e (by decide),fun e=>absurd e (by decide),fun e=>absurd e (by decide),fun e=>absurd e (by decide)⟩)⟩
 ·exact⟨{ o with vi:=(n:Int),no:=(n:Int),fr:=(n:Int),cl:=(n:Int),nu:=(n:Int),at_:=(n:Int),cm:=(n:Int),bs:=(n:Int),nc:=(n:Int) },c,s',h1.nums hX ((at_set h1.na).trans (by kernel_rfl)) rfl ⟨h1.u.vi,h1.u.no,h1.u.cl,hN,h1.u.at_,h1.u.cm,h1.u.bs,h1.u.nc,h1.u.rq,h1.u.log,h1.u.seen⟩ h1.fr,jm (f:=MV.nu) (by decide) (fun _ _=>rfl) (fun _ _ _ _ u _=>u.nu) TT rfl (fun _=>⟨fun e=>absurd e (by decide),fun e=>absurd e (by decide),fun e=>absurd e (by decide),fun e=>absurd e (by decide),fun e=>absurd e (by decide),fun e=>absurd e (by decide)⟩)⟩
 ·exact⟨{ o with vi:=(n:Int),no:=(n:Int),fr:=(n:Int),cl:=(n:Int),nu:=(n:Int),at_:=(n:Int),cm:=(n:Int),bs:=(n:Int),nc:=(n:Int) },c,s',h1.nums hX ((at_set h1.na).trans (by kernel_rfl)) rfl ⟨h1.u.vi,h1.u.no,h1.u.cl,h1.u.nu,hN,h1.u.cm,h1.u.bs,h1.u.nc,h1.u.rq,h1.u.log,h1.u.seen⟩ h1.fr,jm (f:=MV.at_) (by decide) (fun _ _=>rfl) (fun _ _ _ _ u _=>u.at_) TT rfl (fun _=>⟨fun e=>absurd e (by decide),fun e=>absurd e (by decide),fun e=>absurd e (by decide),fun e=>absurd e (by decide),fun e=>absurd e (by decide),fun e=>absurd e (by decide)⟩)⟩
 ·exact⟨{ o with vi:=(n:Int),no:=(n:Int),fr:=(n:Int),cl:=(n:Int),nu:=(n:Int),at_:=(n:Int),cm:=(n:Int),bs:=(n:Int),nc:=(n:Int) },c,s',h1.nums hX ((at_set h1.na).trans (by kernel_rfl)) rfl ⟨h1.u.vi,h1.u.no,h1.u.cl,h1.u.nu,h1.u.at_,hN,h1.u.bs,h1.u.nc,h1.u.rq,h1.u.log,h1.u.seen⟩ h1.fr,jm (f:=MV.cm) (by decide) (fun _ _=>rfl) (fun _ _ _ _ u _=>u.cm) TT rfl (fun _=>⟨fun e=>absurd e (by decide),fun e=>absurd e (by decide),fun e=>absurd e (by decide),fun e=>absurd e (by decide),fun e=>absurd e (by decide),fun e=>absurd e (by decide)⟩)⟩
 ·exact⟨{ o with vi:=(n:Int),no:=(n:Int),fr:=(n:Int),cl:=(n:Int),nu:=(n:Int),at_:=(n:Int),cm:=(n:Int),bs:=(n:Int),nc:=(n:Int) },c,s',h1.nums hX ((at_set h1.na).trans (by kernel_rfl)) rfl ⟨h1.u.vi,h1.u.no,h1.u.cl,h1.u.nu,h1.u.at_,h1.u.cm,hN,h1.u.nc,h1.u.rq,h1.u.log,h1.u.seen⟩ h1.fr,jm (f:=MV.bs) (by decide) (fun _ _=>rfl) (fun _ _ _ _ u _=>u.bs) TT rfl (fun _=>⟨fun e=>absurd e (by decide),fun e=>absurd e (by decide),fun e=>absurd e (by decide),fun e=>absurd e (by decide),fun e=>absurd e (by decide),fun e=>absurd e (by decide)⟩)⟩
 exact⟨{ o with vi:=(n:Int),no:=(n:Int),fr:=(n:Int),cl:=(n:Int),nu:=(n:Int),at_:=(n:Int),cm:=(n:Int),bs:=(n:Int),nc:=(n:Int) },c,s',h1.nums hX ((at_set h1.na).trans (by kernel_rfl)) rfl ⟨h1.u.vi,h1.u.no,h1.u.cl,h1.u.nu,h1.u.at_,h1.u.cm,h1.u.bs,hN,h1.u.rq,h1.u.log,h1.u.seen⟩ h1.fr,jm (f:=MV.nc) (by decide) (fun _ _=>rfl) (fun _ _ _ _ u _=>u.nc) TT rfl (fun _=>⟨fun e=>absurd e (by decide),fun e=>absurd e (by decide),fun e=>absurd e (by decide),fun e=>absurd e (by decide),fun e=>absurd e (by decide),fun e=>absurd e (by decide)⟩)⟩
def jF (n:Nat):Code->Option Code
 | .block m c=>if m=n then some (.block m c) else jF n c
 | .seq a b=>match jF n a with
  | some c=>some c
  | none=>jF n b
 | .scope c=>jF n c
 | .loop c=>jF n c
 | .cond _ a b=>match jF n a with
  | some c=>some c
  | none=>jF n b
 | _=>none
noncomputable def takeSw:Code:=(Tryz.f54.body.bind (jF 2)).getD .skip
def wJ (t:Value)(x:Int)(pre:MV->Prop):Prop:=∀(K J:Act->World->Prop) (Q':Exit->Act->World->Prop) (B g ob nb rb:Nat) (w:World) (T:Option Addr) (l8:List UInt8) (tc:Nat) (o:MV) (c:MC) (s:RS) (V0:World),pre o->TkM B g ob nb rb w T l8 tc o c s V0->s.l.length<=100000000 ->
  ∀(c1 c2 c3 c5 c7 c8 c9 c11 c12 c13 c14 c15 c16 c17 c18 c19 c20 c21 c22 c23 c24 c25 c26 c27 c28 c29 c30 c31 c32 c33 c34 c35 c36 c37 c38 c39 c40 c41 c42 c43 c44 c45 c46 c47 c48 c49 c50 c51 c53 c54 c55 c56 c57 c58 c59 c60 c61 c62 c63 c64 c65 c66 c67 c68 c69 c70 c71 c72 c73 c74 c75 c76 c77 c78 c79 c80 c81 c82 c83 c84 c85 c86 c87 c88 c89 c90 c91 c92 c93 c94 c95 c96 c97 c98 c99 c100 c101 c102 c103 c104 c105 c106 c107 c108 c109 c110 c111 c112 c113 c114 c115 c116 c117 c118 c119 c120 c121 c122 c123 c124 c125 c126 c127 c128 c129 c130 c131 c132 c133 c134 c135 c136 c137 c138 c139 c140 c141 c142 c143 c144 c145 c146 c147 c148 c149 c150 c151 c152 c153 c154 c155 c156 c157 c158 c159 c160 c161 c162 c163 c164 c165 c166 c167 c168 c169 c170 c171 c172 c173 c174 c175 c176 c177 c178 c179 c180 c181 c182 c183 c184 c185 c186 c187 c188 c189 c190 c191 c192 c193 c194 c195 c196 c197 c198 c199 c200 c201 c202 c203 c204 c205 c206 c207 c208 c209 c210 c211 c212 c213 c214 c215 c216 c217 c218 c219 c220 c221 c222 c223 c224 c225 c226 c227 c228 c229 c230 c231 c232 c233 c234 c235 c236 c237 c238 c239 c240:Value),(∀a' w',Met J a' w'->K a' w')->(∀(ch:_) (a:Act) (d:Nat) (v:Value) (W:World),Q' (.panic ch) (a.put (some d) v) W->Q' (.panic ch) a W) ->
  (∀(u11 u12 u13 u14 u15 u16 u17 u18 u19 u53 u54 u55 u56 u57 u58 u59 u60 u61 u62 u63 u64 u65 u66 u67 u68 u69 u70 u71 u72 u73 u74 u75 u76 u77 u78 u79 u80 u81 u82 u83 u84 u85 u86 u87 u88 u89 u90 u91 u92 u93 u94 u95 u96 u97 u98 u99 u100 u101 u102 u103 u104 u105 u106 u107 u108 u109 u110 u111 u112 u113 u114 u115 u116 u117 u118 u119 u120 u121 u122 u123 u124 u125 u126 u127 u128 u129 u130 u131 u132 u133 u134 u135 u136 u137 u138 u139 u140 u141 u142 u143 u144 u145 u146 u147 u148 u149 u150 u151 u152 u153 u154 u155 u156 u157 u158 u159 u160 u161 u162 u163 u164 u165 u166 u167 u168 u169 u170 u171 u172 u173 u174 u175 u176 u177 u178 u179 u180 u181 u182 u183:Value) (W':World),SwM B g ob nb rb w T l8 tc x o c s W'->J ⟨#[.pointer (some ⟨g,0,none⟩),c1,c2,c3,.pointer (some ⟨ob,0,none⟩),c5,.pointer (some ⟨nb,0,none⟩),c7,c8,c9,t,u11,u12,u13,u14,u15,u16,u17,u18,u19,c20,c21,c22,c23,c24,c25,c26,c27,c28,c29,c30,c31,c32,c33,c34,c35,c36,c37,c38,c39,c40,c41,c42,c43,c44,c45,c46,c47,c48,c49,c50,c51,t,u53,u54,u55,u56,u57,u58,u59,u60,u61,u62,u63,u64,u65,u66,u67,u68,u69,u70,u71,u72,u73,u74,u75,u76,u77,u78,u79,u80,u81,u82,u83,u84,u85,u86,u87,u88,u89,u90,u91,u92,u93,u94,u95,u96,u97,u98,u99,u100,u101,u102,u103,u104,u105,u106,u107,u108,u109,u110,u111,u112,u113,u114,u115,u116,u117,u118,u119,u120,u121,u122,u123,u124,u125,u126,u127,u128,u129,u130,u131,u132,u133,u134,u135,u136,u137,u138,u139,u140,u141,u142,u143,u144,u145,u146,u147,u148,u149,u150,u151,u152,u153,u154,u155,u156,u157,u158,u159,u160,u161,u162,u163,u164,u165,u166,u167,u168,u169,u170,u171,u172,u173,u174,u175,u176,u177,u178,u179,u180,u181,u182,u183,c184,c185,c186,c187,c188,c189,c190,c191,c192,c193,c194,c195,c196,c197,c198,c199,c200,c201,c202,c203,c204,c205,c206,c207,c208,c209,c210,c211,c212,c213,c214,c215,c216,c217,c218,c219,c220,c221,c222,c223,c224,c225,c226,c227,c228,c229,c230,c231,c232,c233,c234,c235,c236,c237,c238,c239,c240],[]⟩ W')->Code.wp Tryz.prog takeSw (Exit.then K Q') ⟨#[.pointer (some ⟨g,0,none⟩),c1,c2,c3,.pointer (some ⟨ob,0,none⟩),c5,.pointer (some ⟨nb,0,none⟩),c7,c8,c9,t,c11,c12,c13,c14,c15,c16,c17,c18,c19,c20,c21,c22,c23,c24,c25,c26,c27,c28,c29,c30,c31,c32,c33,c34,c35,c36,c37,c38,c39,c40,c41,c42,c43,c44,c45,c46,c47,c48,c49,c50,c51,t,c53,c54,c55,c56,c57,c58,c59,c60,c61,c62,c63,c64,c65,c66,c67,c68,c69,c70,c71,c72,c73,c74,c75,c76,c77,c78,c79,c80,c81,c82,c83,c84,c85,c86,c87,c88,c89,c90,c91,c92,c93,c94,c95,c96,c97,c98,c99,c100,c101,c102,c103,c104,c105,c106,c107,c108,c109,c110,c111,c112,c113,c114,c115,c116,c117,c118,c119,c120,c121,c122,c123,c124,c125,c126,c127,c128,c129,c130,c131,c132,c133,c134,c135,c136,c137,c138,c139,c140,c141,c142,c143,c144,c145,c146,c147,c148,c149,c150,c151,c152,c153,c154,c155,c156,c157,c158,c159,c160,c161,c162,c163,c164,c165,c166,c167,c168,c169,c170,c171,c172,c173,c174,c175,c176,c177,c178,c179,c180,c181,c182,c183,c184,c185,c186,c187,c188,c189,c190,c191,c192,c193,c194,c195,c196,c197,c198,c199,c200,c201,c202,c203,c204,c205,c206,c207,c208,c209,c210,c211,c212,c213,c214,c215,c216,c217,c218,c219,c220,c221,c222,c223,c224,c225,c226,c227,c228,c229,c230,c231,c232,c233,c234,c235,c236,c237,c238,c239,c240],[]⟩ V0
theorem O5 (x:Int)(t:Nat)(hx:x∈[118,110,102,99,117,97,109,98,111])(ht:t=(jK x).toNat):wJ (.int .u8 (t:Int)) x (fun _=>True):=by
 intro K J Q' B g ob nb rb w T l8 tc o c s V0 _ h hl;intros;rename_i h2 hQP hJ;conv=>arg 2;whnf
 have t1:2<=t/\t<17/\t≠7/\t≠8/\t≠12/\t≠13/\t≠15/\t≠16:=by
  subst ht;simp only[List.mem_cons,List.not_mem_nil,or_false] at hx;rcases hx with rfl|rfl|rfl|rfl|rfl|rfl|rfl|rfl|rfl<;>decide
 have f7:((t:Int)==7)=false:=by rw[beq_eq_false_iff_ne];omega
 have f8:((t:Int)==8)=false:=by rw[beq_eq_false_iff_ne];omega
 have f12:((t:Int)==12)=false:=by rw[beq_eq_false_iff_ne];omega
 have f13:((t:Int)==13)=false:=by rw[beq_eq_false_iff_ne];omega
 have f15:((t:Int)==15)=false:=by rw[beq_eq_false_iff_ne];omega
 have f16:((t:Int)==16)=false:=by rw[beq_eq_false_iff_ne];omega
 have i0:(0:Int)<=(t:Int):=by omega
 have i1:(t:Int)<17:=by omega
 have hnum:=jD B g s (jK x) V0 h.rf hl;have TT:=iC s (jK x) (by rw[<-ht];omega);have hn:=Ib s (jK x);rw[<-ht] at hnum;have HT:=hid ht;have HX:=hid hx;have T1:=hid t1;generalize RS.num s (jK x)=nm at *;obtain⟨n,s'⟩:=nm;dsimp only at hnum TT hn;have HTT:=hid TT;clear TT ht hx t1;go_wp2_with fail;refine hnum.mono ?_;rintro e W1 ⟨rfl,hR,hg⟩;have h1:=h.grown hg hR;have HN:=h1.na;unfold jM bT at HN;obtain⟨v,hv⟩:∃v:Value,(jM o)[t]?=some v:=⟨_,Array.getElem?_eq_getElem (show t<(jM o).size by have:=T1.out;show t<17;omega)⟩
 have cc:W1.cell? ⟨nb,t,none⟩=some v:=iJ h1.na t v hv;have fz:=kN h1.na t;have H1:=hid h1;clear hnum hR hg h1 HN hv;go_wp2_with fail;refine Met.intro ?_;apply hJ;have ht:=HT.out;subst ht;exact Nj HX.out H1.out HTT.out hn
theorem xE (o:UInt8):∀L:List (List UInt8),5*L.length<=(aJ o L).length
 | []=>Nat.zero_le _
 | x::L=>by
  have h:=xE o L;rw[nT,List.length_append,af,List.length_cons];omega
theorem RfS.grownRow {B g:Nat}{s:RS}{W W':World}{row:Option Nat}(h:RfS B g s W)(hg:W.grownBy W' row)(hr:∀k,row=some k->g≠k/\B<=k/\∃c t fr,W.heap[k]?=some (.cells c t fr)/\t≠5):RfS B g s W':=by
 cases row with
 | none=>exact h.later ⟨hg.os,hg.tape,hg.output,hg.size,fun k hk=>hg.block k hk (by simp)⟩
 | some k=>
  obtain⟨h1,h2,c,t,fr,h3,h4⟩:=hr k rfl;exact h.grown hg h3 (fun c' fr' e=>by cases e;exact h4 rfl) h1 h2
theorem KeepB.grownRow {B M n size:Nat}{W W':World}{e:TypeId}{v:Value}{xs:List Value}(hg:W.grownBy W' v.ownBlock)(ho:W.ownsRow M e size v n xs)(hM:B<=M)(he:∀t:TypeId,(t=5\/t=9\/t=106)->e≠t):KeepB B W W':=
 ⟨oh hg ho he,fun k h1 h2=>hg.block k h2 (fun e2=>by have:=(aY ho e2.symm).1;omega)⟩
theorem KeepB.set {B b i:Nat}{W:World}{cs:Array Value}{t:TypeId}{fr:Nat×Nat}{x:Value}(h:W.heap[b]?=some (.cells cs t fr))(hb:B<=b)(ht:∀t':TypeId,(t'=5\/t'=9\/t'=106)->t≠t'):KeepB B W (W.setCell ⟨b,i,none⟩ x):=
 ⟨nZ h ht,fun k h1 _=>Below.heap_setCell _ _ _ _ (by show k≠b;omega)⟩
theorem KeepN.of_belX' {B:Nat}{ys:List Nat}{a b:World}(hX:BelX a.heap.size ys a b)(hy:∀k∈ys,B<=k/\∃cs t fr,a.heap[k]?=some (.cells cs t fr)/\¬iH t):KeepN B a b:=by
 refine⟨KeepM.of_belX hX (fun k hk=>?_),fun k h1 h2=>hX.block k h2 (fun hm=>?_)⟩
 ·obtain⟨-,cs,t,fr,h1,h2⟩:=hy k hk;exact⟨_,h1,fun c t' fr' ht' e=>by cases e;exact h2 ht'⟩
 have:=(hy k hm).1;omega
structure StL (B M ob:Nat)(o:MV)(l:List RP)(W:World):Prop where
 ex:∃a k,W.heap[ob]?=some (gz { o with lo:=a,ln:=l.length,lc:=k }).box/\W.ownsRow M 55 9 (.slice a l.length k) l.length (rpV l)
 each:∀p∈l,OpAt W p.1.op p.2/\OpTyB B W p.1.op/\U64R p.1
structure LgLoop (B M g ob:Nat)(o:MV)(s1:RS)(W1:World)(xs:List El)(k:Nat)(wr:World):Prop where
 X:BelX M [g,ob] W1 wr
 ex:∃(l:List RP) (okk:Bool),l.length=k/\StL B M ob o l wr/\RfS B g ⟨s1.l,s1.bad||!okk⟩ wr/\(okk=true->(∀p∈l,aF p.1.op p.2=true)/\kU l=elB (xs.take k))/\(okk=false->∃y∈elB (xs.take k),qm y)/\(okk=false->∃p∈l,aF p.1.op p.2=false)
structure LgS (B M g ob yb:Nat)(o:MV)(s1:RS)(W1:World)(l:List RP)(a:Option Addr)(kc:Nat)(bad:Bool)(r:RV)(x:OC)(W:World):Prop where
 X:BelX M [g,ob] W1 W
 qo:W.heap[ob]?=some (gz { o with lo:=a,ln:=l.length,lc:=kc }).box
 own:W.ownsRow M 55 9 (.slice a l.length kc) l.length (rpV l)
 each:∀p∈l,OpAt W p.1.op p.2/\OpTyB B W p.1.op/\U64R p.1
 rf:RfS B g ⟨s1.l,bad⟩ W
 qy:W.heap[yb]?=some r.box
 oy:OpAt W r.op x
 ty:OpTyB B W r.op
 uy:U64R r
 hM:ob<M/\g<M/\M<=W.heap.size/\B<=M/\g≠ob
 hyb:M<=yb/\∀j,(Value.slice a l.length kc).ownBlock=some j->j<yb
section
variable {B M g ob yb:Nat} {o:MV} {s1:RS} {W1:World} {l:List RP} {a:Option Addr} {kc:Nat} {bad:Bool} {r:RV} {x:OC} {W W':World}
theorem LgS.cells (h:LgS B M g ob yb o s1 W1 l a kc bad r x W):W.heap[yb]?=some r.box/\W.cell? ⟨ob,23,none⟩=some (.slice a l.length kc)/\W.cell? ⟨g,1,none⟩=some (.bool bad):=⟨h.qy,(McAt.of h.qo).c23,h.rf.cell1⟩
theorem LgS.later (h:LgS B M g ob yb o s1 W1 l a kc bad r x W)(hb:Below W.heap.size W W'):LgS B M g ob yb o s1 W1 l a kc bad r x W':=
 ⟨h.X.trans ((BelX.of_below hb [g,ob]).mono h.hM.2.2.1 (fun _ hk _=>hk)),ae h.qo hb,ag h.own hb,fun p hp=>⟨(h.each p hp).1.later hb,(h.each p hp).2.1.kpb (KeepB.of_below hb),(h.each p hp).2.2⟩,h.rf.later hb,(hb.block _ (Array.getElem?_eq_some_iff.1 h.qy).1).trans h.qy,h.oy.later hb,h.ty.kpb (KeepB.of_below hb),h.uy,⟨h.hM.1,h.hM.2.1,Nat.le_trans h.hM.2.2.1 hb.size,h.hM.2.2.2⟩,h.hyb⟩
structure LgA (B M g ob yb:Nat)(o:MV)(s1:RS)(W1:World)(l:List RP)(a:Option Addr)(kc:Nat)(a4:Option Addr)(k4:Nat)(bad:Bool)(r:RV)(x:OC)(W:World):Prop where
 X:BelX M [g,ob] W1 W
 qo:W.heap[ob]?=some (gz { o with lo:=a,ln:=l.length,lc:=kc }).box
 own:W.ownsRow M 55 9 (.slice a4 (l.length+1) k4) (l.length+1) (rpV (l++[(r,x)]))
 each:∀p∈l++[(r,x)],OpAt W p.1.op p.2/\OpTyB B W p.1.op/\U64R p.1
 rf:RfS B g ⟨s1.l,bad⟩ W
 qy:W.heap[yb]?=some r.box
 hM:ob<M/\g<M/\M<=W.heap.size/\B<=M/\g≠ob/\B<=ob/\B<=g
theorem LgA.cells {a4:Option Addr}{k4:Nat}(h:LgA B M g ob yb o s1 W1 l a kc a4 k4 bad r x W):W.heap[yb]?=some r.box/\W.cell? ⟨ob,23,none⟩=some (.slice a l.length kc)/\W.cell? ⟨g,1,none⟩=some (.bool bad):=⟨h.qy,(McAt.of h.qo).c23,h.rf.cell1⟩
theorem Le:∀t:TypeId,(t=5\/t=9\/t=106)->55≠t:=fun t ht e=>by rcases ht with rfl|rfl|rfl<;>exact absurd e (by decide)
theorem Ns:∀t:TypeId,(t=5\/t=9\/t=106)->59≠t:=fun t ht e=>by rcases ht with rfl|rfl|rfl<;>exact absurd e (by decide)
theorem MN:∀t:TypeId,(t=5\/t=9\/t=106)->119≠t:=fun t ht e=>by rcases ht with rfl|rfl|rfl<;>exact absurd e (by decide)
theorem LgS.app {a4:Option Addr}{k4:Nat}(h:LgS B M g ob yb o s1 W1 l a kc bad r x W)(hBo:B<=ob)(hBg:B<=g)(h4:W'.ownsRow M 55 9 (.slice a4 (l.length+1) k4) (l.length+1) (rpV l++(RV.cells r).toList))(hg:W.grownBy W' (Value.slice a l.length kc).ownBlock)(hb:Below M W W'):LgA B M g ob yb o s1 W1 l a kc a4 k4 bad r x W':=by
 have hk:=KeepB.grownRow (B:=B) hg h.own h.hM.2.2.2.1 Le;have hey:∀j,(Value.slice a l.length kc).ownBlock=some j->j≠yb:=fun j hj=>by have:=h.hyb.2 j hj;omega
 refine⟨h.X.trans (BelX.of_below hb [g,ob]),(hb.block _ h.hM.1).trans h.qo,by rw[A7];exact h4,fun p hp=>?_,RfS.grownRow h.rf hg (fun k hk=>?_),(hg.block _ (Array.getElem?_eq_some_iff.1 h.qy).1 (fun e=>hey _ e.symm rfl)).trans h.qy,h.hM.1,h.hM.2.1,Nat.le_trans h.hM.2.2.1 hg.size,h.hM.2.2.2.1,h.hM.2.2.2.2,hBo,hBg⟩
 ·rcases List.mem_append.1 hp with hp | hp
  ·obtain⟨e1,e2,e3⟩:=h.each p hp;exact⟨e1.kpb e2 hk,e2.kpb hk,e3⟩
  rw[List.mem_singleton] at hp;subst hp;exact⟨h.oy.kpb h.ty hk,h.ty.kpb hk,h.uy⟩
 obtain⟨k1,k2,cur,k3⟩:=aY h.own hk;have h1:=h.hM.2.1;have h2:=h.hM.2.2.2.1;exact⟨by omega,by omega,cur,_,_,k3,by decide⟩
theorem LgA.put {a4:Option Addr}{k4:Nat}(h:LgA B M g ob yb o s1 W1 l a kc a4 k4 bad r x W)(b':Bool):StL B M ob o (l++[(r,x)]) ((W.setCell ⟨ob,23,none⟩ (.slice a4 (l.length+1) k4)).setCell ⟨g,1,none⟩ (.bool b'))/\RfS B g ⟨s1.l,b'⟩ ((W.setCell ⟨ob,23,none⟩ (.slice a4 (l.length+1) k4)).setCell ⟨g,1,none⟩ (.bool b'))/\BelX M [g,ob] W1 ((W.setCell ⟨ob,23,none⟩ (.slice a4 (l.length+1) k4)).setCell ⟨g,1,none⟩ (.bool b')) /\
  (W.setCell ⟨ob,23,none⟩ (.slice a4 (l.length+1) k4)).cell? ⟨g,1,none⟩=some (.bool bad)/\(W.setCell ⟨ob,23,none⟩ (.slice a4 (l.length+1) k4)).frozen? ⟨g,1,none⟩=false:=by
 obtain⟨m1,m2,m3,m4,m5,m6,m7⟩:=h.hM;have eln:(l++[(r,x)]).length=l.length+1:=by simp
 have q1:(W.setCell ⟨ob,23,none⟩ (.slice a4 (l.length+1) k4)).heap[ob]?=some (gz { o with lo:=a4,ln:=(l++[(r,x)]).length,lc:=k4 }).box:=by rw[eln];exact (at_set h.qo).trans (by kernel_rfl)
 have rf1:RfS B g ⟨s1.l,bad⟩ (W.setCell ⟨ob,23,none⟩ (.slice a4 (l.length+1) k4)):=h.rf.grown (ak _ _ _ _) h.qo (TkM.not_u8 bD) m5 m6;have hk1:KeepB B W (W.setCell ⟨ob,23,none⟩ (.slice a4 (l.length+1) k4)):=KeepB.set h.qo m6 Ns;obtain⟨cs,hcs⟩:=rf1.at_;have hk2:KeepB B (W.setCell ⟨ob,23,none⟩ (.slice a4 (l.length+1) k4)) ((W.setCell ⟨ob,23,none⟩ (.slice a4 (l.length+1) k4)).setCell ⟨g,1,none⟩ (.bool b')):=KeepB.set hcs m7 MN;refine⟨⟨⟨a4,k4,ai q1 (fun e=>m5 e.symm),?_⟩,fun p hp=>?_⟩,rf1.flag b',(h.X.set _ _ _ (.inl (by simp))).set _ _ _ (.inl (by simp)),rf1.cell1,rf1.fz1⟩
 ·rw[eln];exact dE (dE h.own (fun k hk=>Below.heap_setCell _ _ _ _ (by have:=(aY h.own hk).1;show k≠ob;omega))) (fun k hk=>Below.heap_setCell _ _ _ _ (by have:=(aY h.own hk).1;show k≠g;omega))
 obtain⟨e1,e2,e3⟩:=h.each p hp;have e1':=e1.kpb e2 hk1;have e2':=e2.kpb hk1;exact⟨e1'.kpb e2' hk2,e2'.kpb hk2,e3⟩
end
theorem OE:wJ (.int .u8 13) 108 (fun o=>o.lo=none/\o.ln=0/\o.lc=0):=by
 intro K J Q' B g ob nb rb w T l8 tc o c s V0 hz h hl;intros;rename_i h2 hQP hJ;conv=>arg 2;whnf
 have hmo:Tryz.prog.follows .mixedOrders=true:=by kernel_rfl
 have HZ:=hid hz;have H:=hid h;have hlt:=h.lt.1;have hgw:=h.gw;have hwo:=h.wo;have hsz:=h.X.size;have hBg:=h.Bg;have hli:=nR B g s 13 1 V0 (by decide) (by decide) h.rf hl;clear hz h;go_wp2_with fail;refine hli.mono ?_;rintro e W1 ⟨a6,c6,xs,s1,rfl,hrd,hall,hfr,hln,⟨hsm,hofl⟩,hR,hg,T3⟩;have HOF:=hid hofl;clear hofl;have h1:=H.out.grown hg hR;have HT:=hid T3;have hM:V0.heap.size<=W1.heap.size:=hg.size;have hne6:∀a,a6=some a->a.block≠g/\a.block≠ob:=fun a ha=>by have:=hfr a ha;omega
 have HSh:Hid (s1.bad=false->(aJ 1 (elB xs)).length<=4194304):=hid (fun hb=>(HT.out.yes hb).2.2);have q0:=h1.q;have hst0:LgLoop B W1.heap.size g ob o s1 W1 xs 0 W1:=⟨BelX.refl _ _ _,[],true,rfl,⟨⟨none,0,by
   have e:({ o with lo:=none,ln:=([]:List RP).length,lc:=0 }:MV)=o:=by
    obtain⟨z1,z2,z3⟩:=HZ.out;cases o;dsimp only at z1 z2 z3;subst z1 z2 z3;rfl
   rw[e];exact q0,World.ownsRow_nil _ _ _ _⟩,fun p hp=>(by cases hp)⟩,(by
   have e:(⟨s1.l,s1.bad||!true⟩:RS)=s1:=by cases s1;simp
   rw[e];exact hR),fun _=>⟨fun p hp=>(by cases hp),rfl⟩,(fun e=>by cases e),fun e=>(by cases e)⟩
 have H1:=hid h1;have hBo:B<=ob:=by omega
 have hgo:g≠ob:=by omega
 have hzo:ob<W1.heap.size:=by omega
 have hzg:g<W1.heap.size:=by omega
 have hBM:B<=W1.heap.size:=by omega
 obtain⟨cg,hcg⟩:=hR.at_;clear hli hR hg T3 hfr h1 H;go_wp2_with fail;obtain⟨M,hMM⟩:∃M,W1.heap.size=M:=⟨_,rfl⟩
 rw[hMM] at hst0 hzo hzg hBM;have HM:=hid hMM;clear hMM hM;go_loopw [16] (fun p wk=>∃k:Nat,k<=xs.length/\p=.int .i64 (k:Int)/\LgLoop B M g ob o s1 W1 xs k wk) (fun p _=>xs.length-(intOf p).toNat)
 case atStart=>exact⟨0,Nat.zero_le _,rfl,hst0⟩
 case round=>
  obtain⟨k,hk,rfl,hL⟩:=hrel;clear hst0;obtain⟨l,okk,hlk,hS,hrf,ho1,ho2,ho3⟩:=hL.ex;have HO:=hid (And.intro ho1 ho2);have HO3:=hid ho3;have hX:=hL.X;obtain⟨⟨a,kc,qo,own⟩,hE⟩:=hS;subst hlk;clear hL ho1 ho2 ho3;have hMr:M<=wr.heap.size:=by have:=hX.size;have:=HM.out;omega
  have hkn:KeepN B W1 wr:=KeepN.of_belX' (HM.out▸hX) (fun j hj=>by
   simp only[List.mem_cons,List.not_mem_nil,or_false] at hj;rcases hj with rfl|rfl
   ·exact⟨hBg,_,_,_,hcg,mZ⟩
   exact⟨hBo,_,_,_,q0,bD⟩)
  have hrl:Rd wr 1 a6 xs.length c6 (lsV xs):=yH hrd hX (fun h0 y hy=>⟨HM.out▸hrd.lt h0 y hy,by simp only[List.mem_cons,List.not_mem_nil,or_false,not_or];exact hne6 y hy⟩);by_cases hlx:l.length<xs.length
  ·obtain⟨b1,o1,hao,hl1,hc1⟩:=hrl.some (by have:=hrl.le;omega);obtain⟨u,hue⟩:∃u,xs[l.length]?=some u:=⟨_,List.getElem?_eq_getElem hlx⟩
   have hum:=List.mem_of_getElem? hue;have c1:=hc1 _ _ (qU xs l.length u hue);have c2:wr.cell? ⟨b1,o1+l.length*1,none⟩=some (.slice u.ao u.it.2.length u.cap):=by rw[Nat.mul_one];exact c1
   have hru:=jw (hall u hum).1 (hall u hum).2 hkn.kb;have htu:=TyB.kpb (hall u hum).2 hkn.kb;have hul:u.it.2.length<=4194304:=hsm u hum;have HU:=hid hue;have i0:(0:Int)<=(l.length:Int):=by omega
   have i1:(l.length:Int)<(xs.length:Int):=by omega
   have hBr:B<=wr.heap.size:=by omega
   have hn6:=hid hne6;have hal:=hid hall;have hsl:=hid hsm;subst hao;clear hc1 hue hum hne6 hall hsm hrl hl1 hkn;go_wp2_with fail;refine (qQ B u.it.2 u.ao _ u.cap wr hru hBr htu (by omega)).mono ?_;rintro e W2 hA;obtain⟨ok,r,x,rfl,oY,tY,uY,hb2,hnm,hans⟩:=zX hA;have HNM:=hid hnm;clear hnm;have HA:=hid hans;clear hA hans hru htu c1 c2;unfold RV.val RV.cells;go_upto_region 29 with (refine zNr rfl ?_;go_simp);generalize hg:W2.alloc _=W3;have e3:W2.alloc r.box=W3:=hg;have hb3':Below W2.heap.size W2 W3:=by rw[<-e3];exact (Below.refl _ _).alloc (Nat.le_refl _) _
   have q3:W3.heap[W2.heap.size]?=some r.box:=by rw[<-e3];exact at_new _ _
   have hb3:=hb2.trans (hb3'.mono hb2.size);obtain⟨bad,hbad⟩:∃bad,(s1.bad||!okk)=bad:=⟨_,rfl⟩
   rw[hbad] at hrf;have HB:=hid hbad;have s3:LgS B M g ob W2.heap.size o s1 W1 l a kc bad r x W3:=⟨hX.trans ((BelX.of_below hb3 [g,ob]).mono hMr (fun _ hk _=>hk)),ae qo hb3,ag own hb3,fun p hp=>⟨(hE p hp).1.later hb3,(hE p hp).2.1.kpb (KeepB.of_below hb3),(hE p hp).2.2⟩,hrf.later hb3,q3,oY.later hb3',tY.kpb (KeepB.of_below hb3'),uY,⟨hzo,hzg,by have:=hb3.size;omega,hBM,hgo⟩,⟨by have:=hb2.size;omega,fun j hj=>by have:=(aY own hj).2.1;have:=hb2.size;omega⟩⟩
   clear hg e3 hb3' hb3 hb2 q3 hbad hrf qo own hE hX oY tY uY hMr hBr;generalize W2.heap.size=yb at *;refine fB (k:=15) (S:=fun W=>W.heap[yb]?=some r.box/\W.cell? ⟨ob,23,none⟩=some (.slice a l.length kc)/\W.cell? ⟨g,1,none⟩=some (.bool bad)) hmo ?_;change dm _ _ _ _ _ _ _ _ _ (World.drew W3);have hd:Below W3.heap.size W3 W3.drew:=(Below.refl _ _).drew;have s0:=s3.later hd;generalize World.drew W3=X0 at *;clear hd s3;have t0:=s0.cells;cases bad with
   | true=>
    refine gX (i:=0) (v:=.pointer (some ⟨g,0,none⟩)) rfl (by kernel_rfl) (by kernel_rfl) (by kernel_rfl) (by decide) (fun ch a1 w1 h=>hQP ch a1 _ _ w1 h) (Or.inl ⟨by kernel_rfl,by intro _ _;kernel_rfl⟩) (.inr t0) ?_;go_simp;refine zTq 1 (.pointer (some ⟨ob,23,none⟩)) rfl (fun a b c h=>hQP a b _ _ c h) t0 ?_;go_simp;refine bH (i:=2) (v:=.slice a l.length kc) rfl (by kernel_rfl) (by kernel_rfl) (by kernel_rfl) (by kernel_rfl) (by decide) (by kernel_rfl) (by kernel_rfl) (fun ch a1 w1 h=>hQP ch a1 _ _ w1 h) (Or.inl ⟨by kernel_rfl,by rintro w2 h2;have cc:=h2.2.1;have cd:=h2.2.2;go_simp⟩) t0 ?_;go_simp;refine bH (i:=3) (v:=.agg #[.int .u64 r.cl,.int .u64 r.nu,.int .i64 r.op.k,.string r.op.name,.string r.op.to,.slice r.op.ao r.op.an r.op.ac,.slice r.op.bo r.op.bn r.op.bc,.slice r.op.co r.op.cn r.op.cc,.int .i64 r.op.n]) rfl (by kernel_rfl) (by kernel_rfl) (by kernel_rfl) (by kernel_rfl) (by decide) (by kernel_rfl) (by kernel_rfl) (fun ch a1 w1 h=>hQP ch a1 _ _ w1 h) (Or.inl ⟨by kernel_rfl,by rintro w2 h2;have cc:=h2.2.1;have cd:=h2.2.2;exact gq (cs:=r.cells) h2.1 rfl rfl (by kernel_rfl) (by kernel_rfl)⟩) t0 ?_;go_simp;refine zTq 6 (.pointer (some ⟨g,0,none⟩)) rfl (fun a b c h=>hQP a b _ _ c h) t0 ?_;go_simp;refine zTq 7 (.pointer (some ⟨g,0,none⟩)) rfl (fun a b c h=>hQP a b _ _ c h) t0 ?_;go_simp;refine zTq 8 (.pointer (some ⟨g,1,none⟩)) rfl (fun a b c h=>hQP a b _ _ c h) t0 ?_;go_simp;refine bH (i:=9) (v:=.bool true) rfl (by kernel_rfl) (by kernel_rfl) (by kernel_rfl) (by kernel_rfl) (by decide) (by kernel_rfl) (by kernel_rfl) (fun ch a1 w1 h=>hQP ch a1 _ _ w1 h) (Or.inl ⟨by kernel_rfl,by rintro w2 h2;have cc:=h2.2.1;have cd:=h2.2.2;go_simp⟩) t0 ?_;go_simp;refine zT1 4 rfl (fun K hK=>?_);go_simp;obtain⟨V,hV⟩:∃V,X0.alloc (.cells (RV.cells r) 55)=V:=⟨_,rfl⟩
    have hbV:Below X0.heap.size X0 V:=by rw[<-hV];exact (Below.refl _ _).alloc (Nat.le_refl _) _
    have qV:V.heap[X0.heap.size]?=some (.cells (RV.cells r) 55):=by rw[<-hV];exact at_new _ _
    have rV:Rd V 9 (some ⟨X0.heap.size,0,none⟩) 1 1 (RV.cells r).toList:=by rw[<-hV];exact Rd.new X0 (RV.cells r).toList 55 (0,0) 9 1 rfl (by unfold maxLen;omega)
    have sV:=s0.later hbV;have t1:=sV.cells;unfold RV.cells at hV;rw[hV];refine hK _ _ ⟨.inr t1,?_⟩;clear hK K hV hbV qV s0 t0;refine zT1 5 rfl (fun K hK=>?_);refine nC rfl (.tmp 125) (.tmp 127) 56 rfl M 55 bM.val 9 136 ug (.slice a l.length kc) l.length (rpV l) rfl sV.own (some ⟨X0.heap.size,0,none⟩) 1 1 (RV.cells r).toList rfl rV (AP r) (by unfold maxLen;omega) (by omega) sV.hM.2.2.1 ?_;intro a4 k4 V4 own4 hg4 hb4 _;have s4:=sV.app hBo hBg own4 hg4 hb4;have t2:=s4.cells;refine hK _ _ ⟨.inr t2,?_⟩;clear hK K own4 hg4 hb4 rV sV t1;refine zTq 10 (.bool true) rfl (fun a b c h=>hQP a b _ _ c h) t2 ?_;go_simp;refine gX (i:=11) (v:=undef) rfl (by kernel_rfl) (by kernel_rfl) (by kernel_rfl) (by decide) (fun ch a1 w1 h=>hQP ch a1 _ _ w1 h) (Or.inr ⟨by kernel_rfl,rfl⟩) (.inr t2) ?_;go_simp;refine gX (i:=12) (v:=undef) rfl (by kernel_rfl) (by kernel_rfl) (by kernel_rfl) (by decide) (fun ch a1 w1 h=>hQP ch a1 _ _ w1 h) (Or.inr ⟨by kernel_rfl,rfl⟩) (.inr t2) ?_;go_simp;refine gX (i:=13) (v:=.bool true) rfl (by kernel_rfl) (by kernel_rfl) (by kernel_rfl) (by decide) (fun ch a1 w1 h=>hQP ch a1 _ _ w1 h) (Or.inl ⟨by kernel_rfl,by intro _ _;kernel_rfl⟩) (.inr t2) ?_;go_simp;refine zTq 14 (.pointer (some ⟨ob,23,none⟩)) rfl (fun a b c h=>hQP a b _ _ c h) t2 ?_;go_simp;obtain⟨p1,p2,p3,p4,p5⟩:=s4.put true;have cO:=(McAt.of s4.qo).c23;have zO:=bV s4.qo 23;refine dQ (by kernel_rfl) (by kernel_rfl) ?_;refine zA1 15 rfl (fun K hK=>?_);go_simp;refine hK _ _ ?_;clear hK K cO zO t2;refine zA1 16 rfl (fun K hK=>?_);go_simp;refine hK _ _ ?_;clear hK K;refine zA1 17 rfl (fun K hK=>?_);go_simp;refine hK _ _ ?_;clear hK K;refine zA1 18 rfl (fun K hK=>?_);go_simp;refine hK _ _ ?_;clear hK K;refine wpAny_done (by kernel_rfl) ?_ _;have P:=hid (And.intro p1 (And.intro p2 p3));clear p1 p2 p3 p4 p5 s4;generalize World.setCell _ ⟨g,1,none⟩ _=X9 at *;go_wp2_with fail;go_roundw
    case rel=>
     refine⟨l.length+1,by omega,by go_num,P.out.2.2,l++[(r,x)],okk&&ok,by simp,P.out.1,?_,?_,?_,?_⟩
     ·have h1:=P.out.2.1;have e:true=(s1.bad||!(okk&&ok)):=by
       have hb:=HB.out
       revert hb
       cases s1.bad<;>cases okk<;>cases ok<;>decide
      rw[<-e];exact h1
     ·intro hh;rw[Bool.and_eq_true] at hh;obtain⟨m1,m2⟩:=HO.out.1 hh.1;rcases HA.out with ⟨-,a2,a3⟩ | ⟨a1,-⟩
      ·refine⟨fun p hp=>?_,?_⟩
       ·rcases List.mem_append.1 hp with hp | hp
        ·exact m1 p hp
        rw[List.mem_singleton] at hp;subst hp;exact a2
       rw[List.take_add_one,HU.out,Option.toList_some,kY,<-m2,<-a3];simp[kU]
      rw[a1] at hh;cases hh.2
     ·intro hh;rw[List.take_add_one,HU.out,Option.toList_some,kY];cases ho:okk with
      | false=>
       obtain⟨y,y1,y2⟩:=HO.out.2 ho;exact⟨y,List.mem_append_left _ y1,y2⟩
      | true=>
       rcases HA.out with ⟨a1,-⟩ | ⟨-,a2⟩
       ·rw[ho,a1] at hh;cases hh
       exact⟨u.it.2,List.mem_append_right _ (List.mem_singleton.2 rfl),a2⟩
     intro hh;cases ho:okk with
     | false=>
      obtain⟨p,p1,p2⟩:=HO3.out ho;exact⟨p,List.mem_append_left _ p1,p2⟩
     | true=>
      refine⟨(r,x),List.mem_append_right _ (List.mem_singleton.2 rfl),HNM.out ?_⟩;rw[ho,Bool.true_and] at hh;exact hh
    case measure=>simp[intOf];omega
   | false=>
    refine gX (i:=0) (v:=.pointer (some ⟨g,0,none⟩)) rfl (by kernel_rfl) (by kernel_rfl) (by kernel_rfl) (by decide) (fun ch a1 w1 h=>hQP ch a1 _ _ w1 h) (Or.inl ⟨by kernel_rfl,by intro _ _;kernel_rfl⟩) (.inr t0) ?_;go_simp;refine zTq 1 (.pointer (some ⟨ob,23,none⟩)) rfl (fun a b c h=>hQP a b _ _ c h) t0 ?_;go_simp;refine bH (i:=2) (v:=.slice a l.length kc) rfl (by kernel_rfl) (by kernel_rfl) (by kernel_rfl) (by kernel_rfl) (by decide) (by kernel_rfl) (by kernel_rfl) (fun ch a1 w1 h=>hQP ch a1 _ _ w1 h) (Or.inl ⟨by kernel_rfl,by rintro w2 h2;have cc:=h2.2.1;have cd:=h2.2.2;go_simp⟩) t0 ?_;go_simp;refine bH (i:=3) (v:=.agg #[.int .u64 r.cl,.int .u64 r.nu,.int .i64 r.op.k,.string r.op.name,.string r.op.to,.slice r.op.ao r.op.an r.op.ac,.slice r.op.bo r.op.bn r.op.bc,.slice r.op.co r.op.cn r.op.cc,.int .i64 r.op.n]) rfl (by kernel_rfl) (by kernel_rfl) (by kernel_rfl) (by kernel_rfl) (by decide) (by kernel_rfl) (by kernel_rfl) (fun ch a1 w1 h=>hQP ch a1 _ _ w1 h) (Or.inl ⟨by kernel_rfl,by rintro w2 h2;have cc:=h2.2.1;have cd:=h2.2.2;exact gq (cs:=r.cells) h2.1 rfl rfl (by kernel_rfl) (by kernel_rfl)⟩) t0 ?_;go_simp;refine zTq 6 (.pointer (some ⟨g,0,none⟩)) rfl (fun a b c h=>hQP a b _ _ c h) t0 ?_;go_simp;refine zTq 7 (.pointer (some ⟨g,0,none⟩)) rfl (fun a b c h=>hQP a b _ _ c h) t0 ?_;go_simp;refine zTq 8 (.pointer (some ⟨g,1,none⟩)) rfl (fun a b c h=>hQP a b _ _ c h) t0 ?_;go_simp;refine bH (i:=9) (v:=.bool false) rfl (by kernel_rfl) (by kernel_rfl) (by kernel_rfl) (by kernel_rfl) (by decide) (by kernel_rfl) (by kernel_rfl) (fun ch a1 w1 h=>hQP ch a1 _ _ w1 h) (Or.inl ⟨by kernel_rfl,by rintro w2 h2;have cc:=h2.2.1;have cd:=h2.2.2;go_simp⟩) t0 ?_;go_simp;refine zT1 4 rfl (fun K hK=>?_);go_simp;obtain⟨V,hV⟩:∃V,X0.alloc (.cells (RV.cells r) 55)=V:=⟨_,rfl⟩
    have hbV:Below X0.heap.size X0 V:=by rw[<-hV];exact (Below.refl _ _).alloc (Nat.le_refl _) _
    have qV:V.heap[X0.heap.size]?=some (.cells (RV.cells r) 55):=by rw[<-hV];exact at_new _ _
    have rV:Rd V 9 (some ⟨X0.heap.size,0,none⟩) 1 1 (RV.cells r).toList:=by rw[<-hV];exact Rd.new X0 (RV.cells r).toList 55 (0,0) 9 1 rfl (by unfold maxLen;omega)
    have sV:=s0.later hbV;have t1:=sV.cells;unfold RV.cells at hV;rw[hV];refine hK _ _ ⟨.inr t1,?_⟩;clear hK K hV hbV qV s0 t0;refine zT1 5 rfl (fun K hK=>?_);refine nC rfl (.tmp 125) (.tmp 127) 56 rfl M 55 bM.val 9 136 ug (.slice a l.length kc) l.length (rpV l) rfl sV.own (some ⟨X0.heap.size,0,none⟩) 1 1 (RV.cells r).toList rfl rV (AP r) (by unfold maxLen;omega) (by omega) sV.hM.2.2.1 ?_;intro a4 k4 V4 own4 hg4 hb4 _;have s4:=sV.app hBo hBg own4 hg4 hb4;have t2:=s4.cells;refine hK _ _ ⟨.inr t2,?_⟩;clear hK K own4 hg4 hb4 rV sV t1;refine zTq 10 (.bool false) rfl (fun a b c h=>hQP a b _ _ c h) t2 ?_;go_simp;refine gX (i:=11) (v:=.bool ok) rfl (by kernel_rfl) (by kernel_rfl) (by kernel_rfl) (by decide) (fun ch a1 w1 h=>hQP ch a1 _ _ w1 h) (Or.inl ⟨by kernel_rfl,by intro _ _;kernel_rfl⟩) (.inr t2) ?_;go_simp;refine gX (i:=12) (v:=.bool (!ok)) rfl (by kernel_rfl) (by kernel_rfl) (by kernel_rfl) (by decide) (fun ch a1 w1 h=>hQP ch a1 _ _ w1 h) (Or.inl ⟨by kernel_rfl,by intro _ _;kernel_rfl⟩) (.inr t2) ?_;go_simp;refine gX (i:=13) (v:=.bool (!ok)) rfl (by kernel_rfl) (by kernel_rfl) (by kernel_rfl) (by decide) (fun ch a1 w1 h=>hQP ch a1 _ _ w1 h) (Or.inl ⟨by kernel_rfl,by intro _ _;kernel_rfl⟩) (.inr t2) ?_;go_simp;refine zTq 14 (.pointer (some ⟨ob,23,none⟩)) rfl (fun a b c h=>hQP a b _ _ c h) t2 ?_;go_simp;obtain⟨p1,p2,p3,p4,p5⟩:=s4.put (!ok);have cO:=(McAt.of s4.qo).c23;have zO:=bV s4.qo 23;refine dQ (by kernel_rfl) (by kernel_rfl) ?_;refine zA1 15 rfl (fun K hK=>?_);go_simp;refine hK _ _ ?_;clear hK K cO zO t2;refine zA1 16 rfl (fun K hK=>?_);go_simp;refine hK _ _ ?_;clear hK K;refine zA1 17 rfl (fun K hK=>?_);go_simp;refine hK _ _ ?_;clear hK K;refine zA1 18 rfl (fun K hK=>?_);go_simp;refine hK _ _ ?_;clear hK K;refine wpAny_done (by kernel_rfl) ?_ _;have P:=hid (And.intro p1 (And.intro p2 p3));clear p1 p2 p3 p4 p5 s4;generalize World.setCell _ ⟨g,1,none⟩ _=X9 at *;go_wp2_with fail;go_roundw
    case rel=>
     refine⟨l.length+1,by omega,by go_num,P.out.2.2,l++[(r,x)],okk&&ok,by simp,P.out.1,?_,?_,?_,?_⟩
     ·have h1:=P.out.2.1;have e:(!ok)=(s1.bad||!(okk&&ok)):=by
       have hb:=HB.out
       revert hb
       cases s1.bad<;>cases okk<;>cases ok<;>decide
      rw[<-e];exact h1
     ·intro hh;rw[Bool.and_eq_true] at hh;obtain⟨m1,m2⟩:=HO.out.1 hh.1;rcases HA.out with ⟨-,a2,a3⟩ | ⟨a1,-⟩
      ·refine⟨fun p hp=>?_,?_⟩
       ·rcases List.mem_append.1 hp with hp | hp
        ·exact m1 p hp
        rw[List.mem_singleton] at hp;subst hp;exact a2
       rw[List.take_add_one,HU.out,Option.toList_some,kY,<-m2,<-a3];simp[kU]
      rw[a1] at hh;cases hh.2
     ·intro hh;rw[List.take_add_one,HU.out,Option.toList_some,kY];cases ho:okk with
      | false=>
       obtain⟨y,y1,y2⟩:=HO.out.2 ho;exact⟨y,List.mem_append_left _ y1,y2⟩
      | true=>
       rcases HA.out with ⟨a1,-⟩ | ⟨-,a2⟩
       ·rw[ho,a1] at hh;cases hh
       exact⟨u.it.2,List.mem_append_right _ (List.mem_singleton.2 rfl),a2⟩
     intro hh;cases ho:okk with
     | false=>
      obtain⟨p,p1,p2⟩:=HO3.out ho;exact⟨p,List.mem_append_left _ p1,p2⟩
     | true=>
      refine⟨(r,x),List.mem_append_right _ (List.mem_singleton.2 rfl),HNM.out ?_⟩;rw[ho,Bool.true_and] at hh;exact hh
    case measure=>simp[intOf];omega
  have hke:l.length=xs.length:=by omega
  have HO1:Hid ((okk=true->(∀p∈l,aF p.1.op p.2=true)/\kU l=elB xs)/\(okk=false->∃y∈elB xs,qm y)):=hid (by
   have h1:=HO.out;rw[hke,List.take_of_length_le (Nat.le_refl _)] at h1;exact h1)
  have aX:=H1.out.at_.kpn H1.out.ty hkn;have yX:=H1.out.ty.kpn hkn;have hu:=H1.out.u;have HFT:Hid (FitK (aI 108 o { o with lo:=a,ln:=l.length,lc:=kc }) (dh 108 c { c with log:=l })):=hid (by
   have h1:=H1.out.ft;refine⟨h1.rs,h1.rl,fun hm=>?_,h1.sn,h1.hn,?_⟩
   ·show (ig l).length<=4194304;cases ho:okk with
    | false=>
     obtain⟨p,p1,p2⟩:=HO3.out ho;have:=hm p p1;rw[p2] at this;cases this
    | true=>
     rw[<-oL,(HO1.out.1 ho).2];exact HOF.out
   show l.length<=1000000;have h2:=xE 1 (elB xs);have h3:=HOF.out;have h4:(elB xs).length=xs.length:=by unfold elB;rw[List.length_map]
   unfold elB at h2 h4;omega)
  have hT:TkM B g ob nb rb w T l8 tc (aI 108 o { o with lo:=a,ln:=l.length,lc:=kc }) (dh 108 c { c with log:=l }) ⟨s1.l,s1.bad||!okk⟩ wr:=
   H1.out.turn hkn (HM.out▸hX) (fun j hj=>by simp only[List.mem_cons,List.not_mem_nil,or_false] at hj;rcases hj with rfl|rfl;exact .inr (.inl rfl);exact .inl rfl) hrf qo rfl rfl
    ⟨aX.rq,aX.rs,aX.sn,⟨Rd.of_own_slice own,fun p hp=>(hE p hp).1⟩,aX.se,aX.ls,aX.lh⟩ ⟨hu.vi,hu.no,hu.cl,hu.nu,hu.at_,hu.cm,hu.bs,hu.nc,hu.rq,fun p hp=>(hE p hp).2.2,hu.seen⟩ ⟨yX.rq,yX.rs,yX.sn,TyX.of_own own,fun p hp=>(hE p hp).2.1,yX.ho⟩ HFT.out
  have hS:StepX 108 s (aI 108 o { o with lo:=a,ln:=l.length,lc:=kc }) (dh 108 c { c with log:=l }) ⟨s1.l,s1.bad||!okk⟩:=Jo HT.out (fun h=>HO1.out.1 h) (fun h=>HO1.out.2 h);have HTT:=hid hT;have HSS:=hid hS;clear hT hS aX yX hu hE own qo hrf hX hrl hkn HO HO3 HFT;go_wp2_with fail;refine Met.intro ?_;apply hJ;exact⟨_,_,_,HTT.out,HSS.out⟩
end Go.Proofs.YtfmmandlmbcncaaGreatDoor.Msg
