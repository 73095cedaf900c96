/-
  A part of the proof.
-/
import Derived.Deep.CutBlock
import Derived.Deep.CutRange
import Derived.Test.YtgeafnggodkpaaaGreatKabo
import Derived.Test.YtgeafnggodkpaaaGreatKaab
set_option maxHeartbeats 40000000
namespace Go.Proofs.YtgeafnggodkpaaaGreat.Msg
open Go.RowKit Go.Lib Go.Proofs.YtgeafnggodkpaaaGreat.Mem Go.Proofs.YtgeafnggodkpaaaGreat.Tlv
theorem num_lt (s:RS)(t:UInt8):(s.num t).1<18446744073709551616:=by
 rw[num_bytes]
 split
 ·show 0<18446744073709551616;decide
 exact numK_lt _ 8
theorem swm_num {B g ob nb rb:Nat}{w:World}{T:Option Addr}{l8:List UInt8}{tc:Nat}{x:Int}{o:MV}{c:MC}{s s':RS}{W:World}{n:Nat}(hx:x∈[118,110,102,99,117,97,109,98,111])(h1:TkM B g ob nb rb w T l8 tc o c s' W)
  (TT:Took (fun n:Nat=>val (tag8 x) (num8 n)) (fun n=>n<18446744073709551616) (fun n=>n<18446744073709551616) s n s') (hn:n<18446744073709551616):SwM B g ob nb rb w T l8 tc x o c s (W.setCell ⟨nb,(tag8 x).toNat,none⟩ (.int .u64 (n:Int))):=by
 have hN:(0:Int)≤(n:Int)∧(n:Int)<18446744073709551616:=by omega
 have hX:BelX W.heap.size [nb] W (W.setCell ⟨nb,(tag8 x).toNat,none⟩ (.int .u64 (n:Int))):=(BelX.refl _ _ _).set _ _ _ (.inl (by simp))
 simp only[List.mem_cons,List.not_mem_nil,or_false] at hx
 rcases hx with rfl|rfl|rfl|rfl|rfl|rfl|rfl|rfl|rfl
 ·exact⟨{ o with vi:=(n:Int),no:=(n:Int),fr:=(n:Int),cl:=(n:Int),nu:=(n:Int),at_:=(n:Int),cm:=(n:Int),bs:=(n:Int),nc:=(n:Int) },c,s',h1.nums hX ((at_set h1.na).trans (by kernel_rfl)) rfl ⟨hN,h1.u.no,h1.u.cl,h1.u.nu,h1.u.at_,h1.u.cm,h1.u.bs,h1.u.nc,h1.u.rq,h1.u.log,h1.u.seen⟩ h1.fr,step_num (f:=MV.vi) (by decide) (fun _ _=>rfl) (fun _ _ _ _ u _=>u.vi) TT rfl (fun _=>⟨fun e=>absurd e (by decide),fun e=>absurd e (by decide),fun e=>absurd e (by decide),fun e=>absurd e (by decide),fun e=>absurd e (by decide),fun e=>absurd e (by decide)⟩)⟩
 ·exact⟨{ o with vi:=(n:Int),no:=(n:Int),fr:=(n:Int),cl:=(n:Int),nu:=(n:Int),at_:=(n:Int),cm:=(n:Int),bs:=(n:Int),nc:=(n:Int) },c,s',h1.nums hX ((at_set h1.na).trans (by kernel_rfl)) rfl ⟨h1.u.vi,hN,h1.u.cl,h1.u.nu,h1.u.at_,h1.u.cm,h1.u.bs,h1.u.nc,h1.u.rq,h1.u.log,h1.u.seen⟩ h1.fr,step_num (f:=MV.no) (by decide) (fun _ _=>rfl) (fun _ _ _ _ u _=>u.no) TT rfl (fun _=>⟨fun e=>absurd e (by decide),fun e=>absurd e (by decide),fun e=>absurd e (by decide),fun e=>absurd e (by decide),fun e=>absurd e (by decide),fun e=>absurd e (by decide)⟩)⟩
 ·exact⟨{ o with vi:=(n:Int),no:=(n:Int),fr:=(n:Int),cl:=(n:Int),nu:=(n:Int),at_:=(n:Int),cm:=(n:Int),bs:=(n:Int),nc:=(n:Int) },c,s',h1.nums hX ((at_set h1.na).trans (by kernel_rfl)) rfl ⟨h1.u.vi,h1.u.no,h1.u.cl,h1.u.nu,h1.u.at_,h1.u.cm,h1.u.bs,h1.u.nc,h1.u.rq,h1.u.log,h1.u.seen⟩ hN,step_num (f:=MV.fr) (by decide) (fun _ _=>rfl) (fun _ _ _ _ _ k=>(by have:=k.fr rfl;omega)) TT rfl (fun _=>⟨fun _=>hN,fun e=>absurd e (by decide),fun e=>absurd e (by decide),fun e=>absurd e (by decide),fun e=>absurd e (by decide),fun e=>absurd e (by decide)⟩)⟩
 ·exact⟨{ o with vi:=(n:Int),no:=(n:Int),fr:=(n:Int),cl:=(n:Int),nu:=(n:Int),at_:=(n:Int),cm:=(n:Int),bs:=(n:Int),nc:=(n:Int) },c,s',h1.nums hX ((at_set h1.na).trans (by kernel_rfl)) rfl ⟨h1.u.vi,h1.u.no,hN,h1.u.nu,h1.u.at_,h1.u.cm,h1.u.bs,h1.u.nc,h1.u.rq,h1.u.log,h1.u.seen⟩ h1.fr,step_num (f:=MV.cl) (by decide) (fun _ _=>rfl) (fun _ _ _ _ u _=>u.cl) TT rfl (fun _=>⟨fun e=>absurd e (by decide),fun e=>absurd e (by decide),fun e=>absurd e (by decide),fun e=>absurd e (by decide),fun e=>absurd e (by decide),fun e=>absurd e (by decide)⟩)⟩
 ·exact⟨{ o with vi:=(n:Int),no:=(n:Int),fr:=(n:Int),cl:=(n:Int),nu:=(n:Int),at_:=(n:Int),cm:=(n:Int),bs:=(n:Int),nc:=(n:Int) },c,s',h1.nums hX ((at_set h1.na).trans (by kernel_rfl)) rfl ⟨h1.u.vi,h1.u.no,h1.u.cl,hN,h1.u.at_,h1.u.cm,h1.u.bs,h1.u.nc,h1.u.rq,h1.u.log,h1.u.seen⟩ h1.fr,step_num (f:=MV.nu) (by decide) (fun _ _=>rfl) (fun _ _ _ _ u _=>u.nu) TT rfl (fun _=>⟨fun e=>absurd e (by decide),fun e=>absurd e (by decide),fun e=>absurd e (by decide),fun e=>absurd e (by decide),fun e=>absurd e (by decide),fun e=>absurd e (by decide)⟩)⟩
 ·exact⟨{ o with vi:=(n:Int),no:=(n:Int),fr:=(n:Int),cl:=(n:Int),nu:=(n:Int),at_:=(n:Int),cm:=(n:Int),bs:=(n:Int),nc:=(n:Int) },c,s',h1.nums hX ((at_set h1.na).trans (by kernel_rfl)) rfl ⟨h1.u.vi,h1.u.no,h1.u.cl,h1.u.nu,hN,h1.u.cm,h1.u.bs,h1.u.nc,h1.u.rq,h1.u.log,h1.u.seen⟩ h1.fr,step_num (f:=MV.at_) (by decide) (fun _ _=>rfl) (fun _ _ _ _ u _=>u.at_) TT rfl (fun _=>⟨fun e=>absurd e (by decide),fun e=>absurd e (by decide),fun e=>absurd e (by decide),fun e=>absurd e (by decide),fun e=>absurd e (by decide),fun e=>absurd e (by decide)⟩)⟩
 ·exact⟨{ o with vi:=(n:Int),no:=(n:Int),fr:=(n:Int),cl:=(n:Int),nu:=(n:Int),at_:=(n:Int),cm:=(n:Int),bs:=(n:Int),nc:=(n:Int) },c,s',h1.nums hX ((at_set h1.na).trans (by kernel_rfl)) rfl ⟨h1.u.vi,h1.u.no,h1.u.cl,h1.u.nu,h1.u.at_,hN,h1.u.bs,h1.u.nc,h1.u.rq,h1.u.log,h1.u.seen⟩ h1.fr,step_num (f:=MV.cm) (by decide) (fun _ _=>rfl) (fun _ _ _ _ u _=>u.cm) TT rfl (fun _=>⟨fun e=>absurd e (by decide),fun e=>absurd e (by decide),fun e=>absurd e (by decide),fun e=>absurd e (by decide),fun e=>absurd e (by decide),fun e=>absurd e (by decide)⟩)⟩
 ·exact⟨{ o with vi:=(n:Int),no:=(n:Int),fr:=(n:Int),cl:=(n:Int),nu:=(n:Int),at_:=(n:Int),cm:=(n:Int),bs:=(n:Int),nc:=(n:Int) },c,s',h1.nums hX ((at_set h1.na).trans (by kernel_rfl)) rfl ⟨h1.u.vi,h1.u.no,h1.u.cl,h1.u.nu,h1.u.at_,h1.u.cm,hN,h1.u.nc,h1.u.rq,h1.u.log,h1.u.seen⟩ h1.fr,step_num (f:=MV.bs) (by decide) (fun _ _=>rfl) (fun _ _ _ _ u _=>u.bs) TT rfl (fun _=>⟨fun e=>absurd e (by decide),fun e=>absurd e (by decide),fun e=>absurd e (by decide),fun e=>absurd e (by decide),fun e=>absurd e (by decide),fun e=>absurd e (by decide)⟩)⟩
 exact⟨{ o with vi:=(n:Int),no:=(n:Int),fr:=(n:Int),cl:=(n:Int),nu:=(n:Int),at_:=(n:Int),cm:=(n:Int),bs:=(n:Int),nc:=(n:Int) },c,s',h1.nums hX ((at_set h1.na).trans (by kernel_rfl)) rfl ⟨h1.u.vi,h1.u.no,h1.u.cl,h1.u.nu,h1.u.at_,h1.u.cm,h1.u.bs,hN,h1.u.rq,h1.u.log,h1.u.seen⟩ h1.fr,step_num (f:=MV.nc) (by decide) (fun _ _=>rfl) (fun _ _ _ _ u _=>u.nc) TT rfl (fun _=>⟨fun e=>absurd e (by decide),fun e=>absurd e (by decide),fun e=>absurd e (by decide),fun e=>absurd e (by decide),fun e=>absurd e (by decide),fun e=>absurd e (by decide)⟩)⟩
def findBlock (n:Nat):Code→Option Code
 | .block m c=>if m=n then some (.block m c) else findBlock n c
 | .seq a b=>match findBlock n a with
  | some c=>some c
  | none=>findBlock n b
 | .scope c=>findBlock n c
 | .loop c=>findBlock n c
 | .cond _ a b=>match findBlock n a with
  | some c=>some c
  | none=>findBlock n b
 | _=>none
noncomputable def takeSw:Code:=(Tryz.f107.body.bind (findBlock 2)).getD .skip
def SwSt (t:Value)(x:Int)(pre:MV→Prop):Prop:=∀(K J:Act→World→Prop) (Q':Exit→Act→World→Prop) (B g ob nb rb:Nat) (w:World) (T:Option Addr) (l8:List UInt8) (tc:Nat) (o:MV) (c:MC) (s:RS) (V0:World),pre o→TkM B g ob nb rb w T l8 tc o c s V0→s.l.length≤100000000 →
  ∀(c1 c2 c3 c5 c7 c8 c9 c11 c12 c13 c14 c15 c16 c17 c18 c19 c20 c21 c22 c23 c24 c25 c26 c27 c28 c29 c30 c31 c32 c33 c34 c35 c36 c37 c38 c39 c40 c41 c42 c43 c44 c45 c46 c47 c48 c49 c50 c51 c53 c54 c55 c56 c57 c58 c59 c60 c61 c62 c63 c64 c65 c66 c67 c68 c69 c70 c71 c72 c73 c74 c75 c76 c77 c78 c79 c80 c81 c82 c83 c84 c85 c86 c87 c88 c89 c90 c91 c92 c93 c94 c95 c96 c97 c98 c99 c100 c101 c102 c103 c104 c105 c106 c107 c108 c109 c110 c111 c112 c113 c114 c115 c116 c117 c118 c119 c120 c121 c122 c123 c124 c125 c126 c127 c128 c129 c130 c131 c132 c133 c134 c135 c136 c137 c138 c139 c140 c141 c142 c143 c144 c145 c146 c147 c148 c149 c150 c151 c152 c153 c154 c155 c156 c157 c158 c159 c160 c161 c162 c163 c164 c165 c166 c167 c168 c169 c170 c171 c172 c173 c174 c175 c176 c177 c178 c179 c180 c181 c182 c183 c184 c185 c186 c187 c188 c189 c190 c191 c192 c193 c194 c195 c196 c197 c198 c199 c200 c201 c202 c203 c204 c205 c206 c207 c208 c209 c210 c211 c212 c213 c214 c215 c216 c217 c218 c219 c220 c221 c222 c223 c224 c225 c226 c227 c228 c229 c230 c231 c232 c233 c234 c235 c236 c237 c238 c239 c240:Value),(∀a' w',Met J a' w'→K a' w')→(∀(ch:_) (a:Act) (d:Nat) (v:Value) (W:World),Q' (.panic ch) (a.put (some d) v) W→Q' (.panic ch) a W) →
  (∀(u11 u12 u13 u14 u15 u16 u17 u18 u19 u53 u54 u55 u56 u57 u58 u59 u60 u61 u62 u63 u64 u65 u66 u67 u68 u69 u70 u71 u72 u73 u74 u75 u76 u77 u78 u79 u80 u81 u82 u83 u84 u85 u86 u87 u88 u89 u90 u91 u92 u93 u94 u95 u96 u97 u98 u99 u100 u101 u102 u103 u104 u105 u106 u107 u108 u109 u110 u111 u112 u113 u114 u115 u116 u117 u118 u119 u120 u121 u122 u123 u124 u125 u126 u127 u128 u129 u130 u131 u132 u133 u134 u135 u136 u137 u138 u139 u140 u141 u142 u143 u144 u145 u146 u147 u148 u149 u150 u151 u152 u153 u154 u155 u156 u157 u158 u159 u160 u161 u162 u163 u164 u165 u166 u167 u168 u169 u170 u171 u172 u173 u174 u175 u176 u177 u178 u179 u180 u181 u182 u183:Value) (W':World),SwM B g ob nb rb w T l8 tc x o c s W'→J ⟨#[.pointer (some ⟨g,0,none⟩),c1,c2,c3,.pointer (some ⟨ob,0,none⟩),c5,.pointer (some ⟨nb,0,none⟩),c7,c8,c9,t,u11,u12,u13,u14,u15,u16,u17,u18,u19,c20,c21,c22,c23,c24,c25,c26,c27,c28,c29,c30,c31,c32,c33,c34,c35,c36,c37,c38,c39,c40,c41,c42,c43,c44,c45,c46,c47,c48,c49,c50,c51,t,u53,u54,u55,u56,u57,u58,u59,u60,u61,u62,u63,u64,u65,u66,u67,u68,u69,u70,u71,u72,u73,u74,u75,u76,u77,u78,u79,u80,u81,u82,u83,u84,u85,u86,u87,u88,u89,u90,u91,u92,u93,u94,u95,u96,u97,u98,u99,u100,u101,u102,u103,u104,u105,u106,u107,u108,u109,u110,u111,u112,u113,u114,u115,u116,u117,u118,u119,u120,u121,u122,u123,u124,u125,u126,u127,u128,u129,u130,u131,u132,u133,u134,u135,u136,u137,u138,u139,u140,u141,u142,u143,u144,u145,u146,u147,u148,u149,u150,u151,u152,u153,u154,u155,u156,u157,u158,u159,u160,u161,u162,u163,u164,u165,u166,u167,u168,u169,u170,u171,u172,u173,u174,u175,u176,u177,u178,u179,u180,u181,u182,u183,c184,c185,c186,c187,c188,c189,c190,c191,c192,c193,c194,c195,c196,c197,c198,c199,c200,c201,c202,c203,c204,c205,c206,c207,c208,c209,c210,c211,c212,c213,c214,c215,c216,c217,c218,c219,c220,c221,c222,c223,c224,c225,c226,c227,c228,c229,c230,c231,c232,c233,c234,c235,c236,c237,c238,c239,c240],[]⟩ W')→Code.wp Tryz.prog takeSw (Exit.then K Q') ⟨#[.pointer (some ⟨g,0,none⟩),c1,c2,c3,.pointer (some ⟨ob,0,none⟩),c5,.pointer (some ⟨nb,0,none⟩),c7,c8,c9,t,c11,c12,c13,c14,c15,c16,c17,c18,c19,c20,c21,c22,c23,c24,c25,c26,c27,c28,c29,c30,c31,c32,c33,c34,c35,c36,c37,c38,c39,c40,c41,c42,c43,c44,c45,c46,c47,c48,c49,c50,c51,t,c53,c54,c55,c56,c57,c58,c59,c60,c61,c62,c63,c64,c65,c66,c67,c68,c69,c70,c71,c72,c73,c74,c75,c76,c77,c78,c79,c80,c81,c82,c83,c84,c85,c86,c87,c88,c89,c90,c91,c92,c93,c94,c95,c96,c97,c98,c99,c100,c101,c102,c103,c104,c105,c106,c107,c108,c109,c110,c111,c112,c113,c114,c115,c116,c117,c118,c119,c120,c121,c122,c123,c124,c125,c126,c127,c128,c129,c130,c131,c132,c133,c134,c135,c136,c137,c138,c139,c140,c141,c142,c143,c144,c145,c146,c147,c148,c149,c150,c151,c152,c153,c154,c155,c156,c157,c158,c159,c160,c161,c162,c163,c164,c165,c166,c167,c168,c169,c170,c171,c172,c173,c174,c175,c176,c177,c178,c179,c180,c181,c182,c183,c184,c185,c186,c187,c188,c189,c190,c191,c192,c193,c194,c195,c196,c197,c198,c199,c200,c201,c202,c203,c204,c205,c206,c207,c208,c209,c210,c211,c212,c213,c214,c215,c216,c217,c218,c219,c220,c221,c222,c223,c224,c225,c226,c227,c228,c229,c230,c231,c232,c233,c234,c235,c236,c237,c238,c239,c240],[]⟩ V0
set_option maxRecDepth 100000 in
theorem sw_num (x:Int)(t:Nat)(hx:x∈[118,110,102,99,117,97,109,98,111])(ht:t=(tag8 x).toNat):SwSt (.int .u8 (t:Int)) x (fun _=>True):=by
 intro K J Q' B g ob nb rb w T l8 tc o c s V0 _ h hl
 intros
 rename_i h2 hQP hJ
 conv=>arg 2;whnf
 have t1:2≤t∧t<17∧t≠7∧t≠8∧t≠12∧t≠13∧t≠15∧t≠16:=by
  subst ht
  simp only[List.mem_cons,List.not_mem_nil,or_false] at hx
  rcases hx with rfl|rfl|rfl|rfl|rfl|rfl|rfl|rfl|rfl<;>decide
 have f7:((t:Int)==7)=false:=by rw[beq_eq_false_iff_ne];omega
 have f8:((t:Int)==8)=false:=by rw[beq_eq_false_iff_ne];omega
 have f12:((t:Int)==12)=false:=by rw[beq_eq_false_iff_ne];omega
 have f13:((t:Int)==13)=false:=by rw[beq_eq_false_iff_ne];omega
 have f15:((t:Int)==15)=false:=by rw[beq_eq_false_iff_ne];omega
 have f16:((t:Int)==16)=false:=by rw[beq_eq_false_iff_ne];omega
 have i0:(0:Int)≤(t:Int):=by omega
 have i1:(t:Int)<17:=by omega
 have hnum:=rfnum_any B g s (tag8 x) V0 h.rf hl
 have TT:=took_num s (tag8 x) (by rw[←ht];omega)
 have hn:=num_lt s (tag8 x)
 rw[←ht] at hnum
 have HT:=hid ht
 have HX:=hid hx
 have T1:=hid t1
 generalize RS.num s (tag8 x)=nm at *
 obtain⟨n,s'⟩:=nm
 dsimp only at hnum TT hn
 have HTT:=hid TT
 clear TT ht hx t1
 go_wp2_with fail
 refine hnum.mono ?_
 rintro e W1 ⟨rfl,hR,hg⟩
 have h1:=h.grown hg hR
 have HN:=h1.na
 unfold numA nums17 at HN
 obtain⟨v,hv⟩:∃v:Value,(numA o)[t]?=some v:=⟨_,Array.getElem?_eq_getElem (show t<(numA o).size by have:=T1.out;show t<17;omega)⟩
 have cc:W1.cell? ⟨nb,t,none⟩=some v:=ncell h1.na t v hv
 have fz:=nfrozen h1.na t
 have H1:=hid h1
 clear hnum hR hg h1 HN hv
 go_wp2_with fail
 refine Met.intro ?_
 apply hJ
 have ht:=HT.out
 subst ht
 exact swm_num HX.out H1.out HTT.out hn
set_option maxRecDepth 100000 in
theorem sw_rq:SwSt (.int .u8 7) 113 (fun _=>True):=by
 intro K J Q' B g ob nb rb w T l8 tc o c s V0 _ h hl
 intros
 rename_i h2 hQP hJ
 conv=>arg 2;whnf
 have hmo:Tryz.prog.follows .mixedOrders=true:=by kernel_rfl
 have T3:=took_bytes s 7 (by decide)
 have hl3:=bytes_le s 7
 have hby:=rftake_any B g s 7 V0 h.rf hl
 unfold GivesTf at hby
 generalize RS.bytes s 7=y at *
 obtain⟨y,l3,bad⟩:=y
 dsimp only at T3 hby hl3
 have HT:=hid T3
 have H:=hid h
 clear T3 h
 go_wp2_with fail
 refine hby.mono ?_
 rintro e W1 ⟨hR1,hg1,a1,k1,rfl,hrd1,hty1⟩
 have h1:=H.out.grown hg1 hR1
 have hBW:B≤W1.heap.size:=by have:=h1.lt.1;have:=h1.wo;have:=h1.Bg;have:=h1.gw;omega
 clear hby hR1 hg1 H
 have H:=hid h1
 clear h1
 go_wp2_with fail
 refine (rRequestOf_any B y a1 y.length k1 W1 hrd1 hBW hty1 (by omega)).mono ?_
 rintro e W2 hA
 obtain⟨ok,r,cr,rfl,oY,tY,uY,hb2,hans⟩:=req_ansR hA
 have HA:=hid hans
 have h2':=H.out.later hb2
 clear hA hans hb2 hrd1 hty1 hBW H
 have H:=hid h2'
 clear h2'
 unfold RV.val RV.cells
 go_upto_region 17 with (refine wpList_store_new rfl rfl rfl rfl (by kernel_rfl) rfl (by kernel_rfl) ?_;go_simp)
 generalize hg:W2.alloc _=W3
 have e3:W2.alloc r.box=W3:=hg
 have hb3:Below W2.heap.size W2 W3:=by rw[←e3];exact (Below.refl _ _).alloc (Nat.le_refl _) _
 have q3:W3.heap[W2.heap.size]?=some r.box:=by rw[←e3];exact at_new _ _
 have h3:=H.out.later hb3
 have hyo:W2.heap.size≠ob:=by have:=H.out.lt.1;omega
 have o3:=oY.later hb3
 have t3:=tY.kpb (KeepB.of_below hb3)
 clear hg e3 H oY tY hb3
 generalize W2.heap.size=yb at *
 refine wp_region_T (k:=14) (S:=fun W=>W.heap[yb]?=some r.box∧W.cell? ⟨g,1,none⟩=some (.bool bad)) hmo ?_
 change wpAnyT _ _ _ _ _ _ _ _ _ (World.drew W3)
 have hd:Below W3.heap.size W3 W3.drew:=(Below.refl _ _).drew
 have h0:=h3.later hd
 have q0:=(hd.block _ (Array.getElem?_eq_some_iff.1 q3).1).trans q3
 have o0:=o3.later hd
 have ty0:=t3.kpb (KeepB.of_below hd)
 generalize World.drew W3=X0 at *
 clear hd h3 q3 o3 t3
 have t0:X0.heap[yb]?=some r.box∧X0.cell? ⟨g,1,none⟩=some (.bool bad):=⟨q0,h0.rf.cell1⟩
 have hX:BelX X0.heap.size [ob] X0 (setRq X0 ob r):=setRq_belX (.inl (by simp))
 have hk:=h0.keep hX
 have hq1:(setRq X0 ob r).heap[ob]?=some (rawM (setF 113 o { o with rq:=r })).box:=(setRq_at h0.q).trans (by kernel_rfl)
 have oX:=o0.kpb ty0 hk.kb
 have tX:=ty0.kpb hk.kb
 have aX:=h0.at_.kpn h0.ty hk
 have yX:=h0.ty.kpn hk
 have h1:TkM B g ob nb rb w T l8 tc (setF 113 o { o with rq:=r }) (setC 113 c { c with rq:=cr }) ⟨l3,bad⟩ (setRq X0 ob r):=
  h0.box hX hq1 rfl rfl ⟨oX,aX.rs,aX.sn,aX.lg,aX.se,aX.ls,aX.lh⟩ ⟨h0.u.vi,h0.u.no,h0.u.cl,h0.u.nu,h0.u.at_,h0.u.cm,h0.u.bs,h0.u.nc,uY,h0.u.log,h0.u.seen⟩ ⟨tX,yX.rs,yX.sn,yX.lo,yX.log,yX.ho⟩
 have t1:(setRq X0 ob r).heap[yb]?=some r.box∧(setRq X0 ob r).cell? ⟨g,1,none⟩=some (.bool bad):=⟨setRq_other q0 hyo,h1.rf.cell1⟩
 have hS:StepX 113 s (setF 113 o { o with rq:=r }) (setC 113 c { c with rq:=cr }) ⟨l3,bad||!ok⟩:=step_req (s1:=⟨l3,bad⟩) HT.out (fun hh=>by
   rcases HA.out with ⟨-,a2,a3⟩ | ⟨a1,-⟩
   ·exact⟨a2,a3⟩
   ·rw[a1] at hh;cases hh) (fun hh=>by
   rcases HA.out with ⟨a1,-⟩ | ⟨-,a2⟩
   ·rw[a1] at hh;cases hh
   exact a2)
 have HS:=hid hS
 clear hX hk hq1 oX tX aX yX q0 o0 ty0 hyo HA HT hS
 cases bad with
 | true=>
  refine zTq 0 (.pointer (some ⟨g,0,none⟩)) rfl (fun a b c h=>hQP a b _ _ c h) t0 ?_
  go_simp
  refine wpAnyT_take (i:=1) (v:=.agg #[.int .u64 r.cl,.int .u64 r.nu,.int .i64 r.op.k,.string r.op.name,.string r.op.to,.slice r.op.ao r.op.an r.op.ac,.slice r.op.bo r.op.bn r.op.bc,.slice r.op.co r.op.cn r.op.cc,.int .i64 r.op.n]) rfl (by kernel_rfl) (by kernel_rfl) (by kernel_rfl) (by kernel_rfl) (by decide) (by kernel_rfl) (by kernel_rfl) (fun ch a1 w1 h=>hQP ch a1 _ _ w1 h) (Or.inl ⟨by kernel_rfl,by rintro w2 h2;have cc:=h2.2;exact exec_load_row (cs:=r.cells) h2.1 rfl rfl (by kernel_rfl) (by kernel_rfl)⟩) t0 ?_
  go_simp
  refine zTq 2 (.pointer (some ⟨g,0,none⟩)) rfl (fun a b c h=>hQP a b _ _ c h) t0 ?_
  go_simp
  refine zTq 3 (.pointer (some ⟨g,0,none⟩)) rfl (fun a b c h=>hQP a b _ _ c h) t0 ?_
  go_simp
  refine zTq 4 (.pointer (some ⟨g,1,none⟩)) rfl (fun a b c h=>hQP a b _ _ c h) t0 ?_
  go_simp
  refine wpAnyT_take (i:=5) (v:=.bool true) rfl (by kernel_rfl) (by kernel_rfl) (by kernel_rfl) (by kernel_rfl) (by decide) (by kernel_rfl) (by kernel_rfl) (fun ch a1 w1 h=>hQP ch a1 _ _ w1 h) (Or.inl ⟨by kernel_rfl,by rintro w2 h2;have cc:=h2.2;go_simp⟩) t0 ?_
  go_simp
  refine zTq 6 (.bool true) rfl (fun a b c h=>hQP a b _ _ c h) t0 ?_
  go_simp
  refine wpAnyT_take (i:=7) (v:=undef) rfl (by kernel_rfl) (by kernel_rfl) (by kernel_rfl) (by kernel_rfl) (by decide) (by kernel_rfl) (by kernel_rfl) (fun ch a1 w1 h=>hQP ch a1 _ _ w1 h) (Or.inr ⟨by kernel_rfl,rfl⟩) t0 ?_
  go_simp
  refine wpAnyT_take (i:=8) (v:=undef) rfl (by kernel_rfl) (by kernel_rfl) (by kernel_rfl) (by kernel_rfl) (by decide) (by kernel_rfl) (by kernel_rfl) (fun ch a1 w1 h=>hQP ch a1 _ _ w1 h) (Or.inr ⟨by kernel_rfl,rfl⟩) t0 ?_
  go_simp
  refine zTq 9 (.bool true) rfl (fun a b c h=>hQP a b _ _ c h) t0 ?_
  go_simp
  refine zTq 10 (.pointer (some ⟨ob,6,none⟩)) rfl (fun a b c h=>hQP a b _ _ c h) t0 ?_
  go_simp
  refine zT1 11 rfl (fun K hK=>?_)
  have c6:=(McAt.of h0.q).c6
  have c7:=(McAt.of h0.q).c7
  have c8:=(McAt.of h0.q).c8
  have c9:=(McAt.of h0.q).c9
  have c10:=(McAt.of h0.q).c10
  have c11:=(McAt.of h0.q).c11
  have c12:=(McAt.of h0.q).c12
  have c13:=(McAt.of h0.q).c13
  have c14:=(McAt.of h0.q).c14
  have zf:=mfrozen h0.q
  go_simp
  clear c6 c7 c8 c9 c10 c11 c12 c13 c14 zf
  refine hK _ (setRq X0 ob r) ⟨.inr t1,?_⟩
  clear hK K
  generalize setRq X0 ob r=X1 at *
  clear h0 t0
  refine zTq 12 (.pointer (some ⟨g,0,none⟩)) rfl (fun a b c h=>hQP a b _ _ c h) t1 ?_
  go_simp
  refine zTq 13 (.pointer (some ⟨g,1,none⟩)) rfl (fun a b c h=>hQP a b _ _ c h) t1 ?_
  go_simp
  have cB:=h1.rf.cell1
  have zB:=h1.rf.fz1
  refine wpAnyT_last (by kernel_rfl) (by kernel_rfl) ?_
  refine zA1 14 rfl (fun K hK=>?_)
  go_simp
  refine hK _ _ ?_
  clear hK K
  refine wpAny_done (by kernel_rfl) ?_ _
  have h5:=h1.flag true
  go_wp2_with fail
  refine Met.intro ?_
  apply hJ
  exact⟨_,_,_,h5,HS.out⟩
 | false=>
  refine zTq 0 (.pointer (some ⟨g,0,none⟩)) rfl (fun a b c h=>hQP a b _ _ c h) t0 ?_
  go_simp
  refine wpAnyT_take (i:=1) (v:=.agg #[.int .u64 r.cl,.int .u64 r.nu,.int .i64 r.op.k,.string r.op.name,.string r.op.to,.slice r.op.ao r.op.an r.op.ac,.slice r.op.bo r.op.bn r.op.bc,.slice r.op.co r.op.cn r.op.cc,.int .i64 r.op.n]) rfl (by kernel_rfl) (by kernel_rfl) (by kernel_rfl) (by kernel_rfl) (by decide) (by kernel_rfl) (by kernel_rfl) (fun ch a1 w1 h=>hQP ch a1 _ _ w1 h) (Or.inl ⟨by kernel_rfl,by rintro w2 h2;have cc:=h2.2;exact exec_load_row (cs:=r.cells) h2.1 rfl rfl (by kernel_rfl) (by kernel_rfl)⟩) t0 ?_
  go_simp
  refine zTq 2 (.pointer (some ⟨g,0,none⟩)) rfl (fun a b c h=>hQP a b _ _ c h) t0 ?_
  go_simp
  refine zTq 3 (.pointer (some ⟨g,0,none⟩)) rfl (fun a b c h=>hQP a b _ _ c h) t0 ?_
  go_simp
  refine zTq 4 (.pointer (some ⟨g,1,none⟩)) rfl (fun a b c h=>hQP a b _ _ c h) t0 ?_
  go_simp
  refine wpAnyT_take (i:=5) (v:=.bool false) rfl (by kernel_rfl) (by kernel_rfl) (by kernel_rfl) (by kernel_rfl) (by decide) (by kernel_rfl) (by kernel_rfl) (fun ch a1 w1 h=>hQP ch a1 _ _ w1 h) (Or.inl ⟨by kernel_rfl,by rintro w2 h2;have cc:=h2.2;go_simp⟩) t0 ?_
  go_simp
  refine zTq 6 (.bool false) rfl (fun a b c h=>hQP a b _ _ c h) t0 ?_
  go_simp
  refine zTq 7 (.bool ok) rfl (fun a b c h=>hQP a b _ _ c h) t0 ?_
  go_simp
  refine wpAnyT_take (i:=8) (v:=.bool (!ok)) rfl (by kernel_rfl) (by kernel_rfl) (by kernel_rfl) (by kernel_rfl) (by decide) (by kernel_rfl) (by kernel_rfl) (fun ch a1 w1 h=>hQP ch a1 _ _ w1 h) (Or.inl ⟨by kernel_rfl,by rintro w2 h2;have cc:=h2.2;go_simp⟩) t0 ?_
  go_simp
  refine zTq 9 (.bool (!ok)) rfl (fun a b c h=>hQP a b _ _ c h) t0 ?_
  go_simp
  refine zTq 10 (.pointer (some ⟨ob,6,none⟩)) rfl (fun a b c h=>hQP a b _ _ c h) t0 ?_
  go_simp
  refine zT1 11 rfl (fun K hK=>?_)
  have c6:=(McAt.of h0.q).c6
  have c7:=(McAt.of h0.q).c7
  have c8:=(McAt.of h0.q).c8
  have c9:=(McAt.of h0.q).c9
  have c10:=(McAt.of h0.q).c10
  have c11:=(McAt.of h0.q).c11
  have c12:=(McAt.of h0.q).c12
  have c13:=(McAt.of h0.q).c13
  have c14:=(McAt.of h0.q).c14
  have zf:=mfrozen h0.q
  go_simp
  clear c6 c7 c8 c9 c10 c11 c12 c13 c14 zf
  refine hK _ (setRq X0 ob r) ⟨.inr t1,?_⟩
  clear hK K
  generalize setRq X0 ob r=X1 at *
  clear h0 t0
  refine zTq 12 (.pointer (some ⟨g,0,none⟩)) rfl (fun a b c h=>hQP a b _ _ c h) t1 ?_
  go_simp
  refine zTq 13 (.pointer (some ⟨g,1,none⟩)) rfl (fun a b c h=>hQP a b _ _ c h) t1 ?_
  go_simp
  have cB:=h1.rf.cell1
  have zB:=h1.rf.fz1
  refine wpAnyT_last (by kernel_rfl) (by kernel_rfl) ?_
  refine zA1 14 rfl (fun K hK=>?_)
  go_simp
  refine hK _ _ ?_
  clear hK K
  refine wpAny_done (by kernel_rfl) ?_ _
  have h5:=h1.flag (!ok)
  go_wp2_with fail
  refine Met.intro ?_
  apply hJ
  exact⟨_,_,_,h5,HS.out⟩
set_option maxRecDepth 100000 in
theorem sw_rs:SwSt (.int .u8 8) 114 (fun _=>True):=by
 intro K J Q' B g ob nb rb w T l8 tc o c s V0 _ h hl
 intros
 rename_i h2 hQP hJ
 conv=>arg 2;whnf
 have hmo:Tryz.prog.follows .mixedOrders=true:=by kernel_rfl
 have T3:=took_bytes s 8 (by decide)
 have hl3:=bytes_le s 8
 have hby:=rftake_any B g s 8 V0 h.rf hl
 unfold GivesTf at hby
 generalize RS.bytes s 8=y at *
 obtain⟨y,l3,bad⟩:=y
 dsimp only at T3 hby hl3
 have HT:=hid T3
 have H:=hid h
 clear T3 h
 go_wp2_with fail
 refine hby.mono ?_
 rintro e W1 ⟨hR1,hg1,a1,k1,rfl,hrd1,hty1⟩
 have h1:=H.out.grown hg1 hR1
 have hBW:B≤W1.heap.size:=by have:=h1.lt.1;have:=h1.wo;have:=h1.Bg;have:=h1.gw;omega
 clear hby hR1 hg1 H
 have H:=hid h1
 clear h1
 go_wp2_with fail
 refine (rResultOf_any B y a1 y.length k1 W1 hrd1 hBW hty1 (by omega)).mono ?_
 rintro e W2 hA
 obtain⟨ok,r,cr,rfl,oY,tY,hb2,hans⟩:=res_ansR hA
 have HA:=hid hans
 have h2':=H.out.later hb2
 clear hA hans hb2 hrd1 hty1 hBW H
 have H:=hid h2'
 clear h2'
 unfold QV.val QV.cells
 go_upto_region 20 with (refine wpList_store_new rfl rfl rfl rfl (by kernel_rfl) rfl (by kernel_rfl) ?_;go_simp)
 generalize hg:W2.alloc _=W3
 have e3:W2.alloc r.box=W3:=hg
 have hb3:Below W2.heap.size W2 W3:=by rw[←e3];exact (Below.refl _ _).alloc (Nat.le_refl _) _
 have q3:W3.heap[W2.heap.size]?=some r.box:=by rw[←e3];exact at_new _ _
 have h3:=H.out.later hb3
 have hyo:W2.heap.size≠ob:=by have:=H.out.lt.1;omega
 have o3:=oY.later hb3
 have t3:=tY.kpn (KeepN.of_below hb3)
 clear hg e3 H oY tY hb3
 generalize W2.heap.size=yb at *
 refine wp_region_T (k:=14) (S:=fun W=>W.heap[yb]?=some r.box∧W.cell? ⟨g,1,none⟩=some (.bool bad)) hmo ?_
 change wpAnyT _ _ _ _ _ _ _ _ _ (World.drew W3)
 have hd:Below W3.heap.size W3 W3.drew:=(Below.refl _ _).drew
 have h0:=h3.later hd
 have q0:=(hd.block _ (Array.getElem?_eq_some_iff.1 q3).1).trans q3
 have o0:=o3.later hd
 have ty0:=t3.kpn (KeepN.of_below hd)
 generalize World.drew W3=X0 at *
 clear hd h3 q3 o3 t3
 have t0:X0.heap[yb]?=some r.box∧X0.cell? ⟨g,1,none⟩=some (.bool bad):=⟨q0,h0.rf.cell1⟩
 have hX:BelX X0.heap.size [ob] X0 (setRs X0 ob r):=setRs_belX (.inl (by simp))
 have hk:=h0.keep hX
 have hq1:(setRs X0 ob r).heap[ob]?=some (rawM (setF 114 o { o with rs:=r })).box:=(setRs_at h0.q).trans (by kernel_rfl)
 have oX:=o0.kpn ty0 hk
 have tX:=ty0.kpn hk
 have aX:=h0.at_.kpn h0.ty hk
 have yX:=h0.ty.kpn hk
 have h1:TkM B g ob nb rb w T l8 tc (setF 114 o { o with rs:=r }) (setC 114 c { c with rs:=cr }) ⟨l3,bad⟩ (setRs X0 ob r):=
  h0.box hX hq1 rfl rfl ⟨aX.rq,oX,aX.sn,aX.lg,aX.se,aX.ls,aX.lh⟩ ⟨h0.u.vi,h0.u.no,h0.u.cl,h0.u.nu,h0.u.at_,h0.u.cm,h0.u.bs,h0.u.nc,h0.u.rq,h0.u.log,h0.u.seen⟩ ⟨yX.rq,tX,yX.sn,yX.lo,yX.log,yX.ho⟩
 have t1:(setRs X0 ob r).heap[yb]?=some r.box∧(setRs X0 ob r).cell? ⟨g,1,none⟩=some (.bool bad):=⟨setRs_other q0 hyo,h1.rf.cell1⟩
 have hS:StepX 114 s (setF 114 o { o with rs:=r }) (setC 114 c { c with rs:=cr }) ⟨l3,bad||!ok⟩:=step_res (s1:=⟨l3,bad⟩) HT.out (fun hh=>by
   rcases HA.out with ⟨-,a2,a3⟩ | ⟨a1,-⟩
   ·exact⟨a2,a3⟩
   ·rw[a1] at hh;cases hh) (fun hh=>by
   rcases HA.out with ⟨a1,-⟩ | ⟨-,a2⟩
   ·rw[a1] at hh;cases hh
   exact a2)
 have HS:=hid hS
 clear hX hk hq1 oX tX aX yX q0 o0 ty0 hyo HA HT hS
 cases bad with
 | true=>
  refine zTq 0 (.pointer (some ⟨g,0,none⟩)) rfl (fun a b c h=>hQP a b _ _ c h) t0 ?_
  go_simp
  refine wpAnyT_take (i:=1) (v:=.agg #[.int .i64 r.code,.bool r.yes,.slice r.eo r.en r.ec,.slice r.co r.cn r.cc]) rfl (by kernel_rfl) (by kernel_rfl) (by kernel_rfl) (by kernel_rfl) (by decide) (by kernel_rfl) (by kernel_rfl) (fun ch a1 w1 h=>hQP ch a1 _ _ w1 h) (Or.inl ⟨by kernel_rfl,by rintro w2 h2;have cc:=h2.2;exact exec_load_row (cs:=r.cells) h2.1 rfl rfl (by kernel_rfl) (by kernel_rfl)⟩) t0 ?_
  go_simp
  refine zTq 2 (.pointer (some ⟨g,0,none⟩)) rfl (fun a b c h=>hQP a b _ _ c h) t0 ?_
  go_simp
  refine zTq 3 (.pointer (some ⟨g,0,none⟩)) rfl (fun a b c h=>hQP a b _ _ c h) t0 ?_
  go_simp
  refine zTq 4 (.pointer (some ⟨g,1,none⟩)) rfl (fun a b c h=>hQP a b _ _ c h) t0 ?_
  go_simp
  refine wpAnyT_take (i:=5) (v:=.bool true) rfl (by kernel_rfl) (by kernel_rfl) (by kernel_rfl) (by kernel_rfl) (by decide) (by kernel_rfl) (by kernel_rfl) (fun ch a1 w1 h=>hQP ch a1 _ _ w1 h) (Or.inl ⟨by kernel_rfl,by rintro w2 h2;have cc:=h2.2;go_simp⟩) t0 ?_
  go_simp
  refine zTq 6 (.bool true) rfl (fun a b c h=>hQP a b _ _ c h) t0 ?_
  go_simp
  refine wpAnyT_take (i:=7) (v:=undef) rfl (by kernel_rfl) (by kernel_rfl) (by kernel_rfl) (by kernel_rfl) (by decide) (by kernel_rfl) (by kernel_rfl) (fun ch a1 w1 h=>hQP ch a1 _ _ w1 h) (Or.inr ⟨by kernel_rfl,rfl⟩) t0 ?_
  go_simp
  refine wpAnyT_take (i:=8) (v:=undef) rfl (by kernel_rfl) (by kernel_rfl) (by kernel_rfl) (by kernel_rfl) (by decide) (by kernel_rfl) (by kernel_rfl) (fun ch a1 w1 h=>hQP ch a1 _ _ w1 h) (Or.inr ⟨by kernel_rfl,rfl⟩) t0 ?_
  go_simp
  refine zTq 9 (.bool true) rfl (fun a b c h=>hQP a b _ _ c h) t0 ?_
  go_simp
  refine zTq 10 (.pointer (some ⟨ob,15,none⟩)) rfl (fun a b c h=>hQP a b _ _ c h) t0 ?_
  go_simp
  refine zT1 11 rfl (fun K hK=>?_)
  have c15:=(McAt.of h0.q).c15
  have c16:=(McAt.of h0.q).c16
  have c17:=(McAt.of h0.q).c17
  have c18:=(McAt.of h0.q).c18
  have zf:=mfrozen h0.q
  go_simp
  clear c15 c16 c17 c18 zf
  refine hK _ (setRs X0 ob r) ⟨.inr t1,?_⟩
  clear hK K
  generalize setRs X0 ob r=X1 at *
  clear h0 t0
  refine zTq 12 (.pointer (some ⟨g,0,none⟩)) rfl (fun a b c h=>hQP a b _ _ c h) t1 ?_
  go_simp
  refine zTq 13 (.pointer (some ⟨g,1,none⟩)) rfl (fun a b c h=>hQP a b _ _ c h) t1 ?_
  go_simp
  have cB:=h1.rf.cell1
  have zB:=h1.rf.fz1
  refine wpAnyT_last (by kernel_rfl) (by kernel_rfl) ?_
  refine zA1 14 rfl (fun K hK=>?_)
  go_simp
  refine hK _ _ ?_
  clear hK K
  refine wpAny_done (by kernel_rfl) ?_ _
  have h5:=h1.flag true
  go_wp2_with fail
  refine Met.intro ?_
  apply hJ
  exact⟨_,_,_,h5,HS.out⟩
 | false=>
  refine zTq 0 (.pointer (some ⟨g,0,none⟩)) rfl (fun a b c h=>hQP a b _ _ c h) t0 ?_
  go_simp
  refine wpAnyT_take (i:=1) (v:=.agg #[.int .i64 r.code,.bool r.yes,.slice r.eo r.en r.ec,.slice r.co r.cn r.cc]) rfl (by kernel_rfl) (by kernel_rfl) (by kernel_rfl) (by kernel_rfl) (by decide) (by kernel_rfl) (by kernel_rfl) (fun ch a1 w1 h=>hQP ch a1 _ _ w1 h) (Or.inl ⟨by kernel_rfl,by rintro w2 h2;have cc:=h2.2;exact exec_load_row (cs:=r.cells) h2.1 rfl rfl (by kernel_rfl) (by kernel_rfl)⟩) t0 ?_
  go_simp
  refine zTq 2 (.pointer (some ⟨g,0,none⟩)) rfl (fun a b c h=>hQP a b _ _ c h) t0 ?_
  go_simp
  refine zTq 3 (.pointer (some ⟨g,0,none⟩)) rfl (fun a b c h=>hQP a b _ _ c h) t0 ?_
  go_simp
  refine zTq 4 (.pointer (some ⟨g,1,none⟩)) rfl (fun a b c h=>hQP a b _ _ c h) t0 ?_
  go_simp
  refine wpAnyT_take (i:=5) (v:=.bool false) rfl (by kernel_rfl) (by kernel_rfl) (by kernel_rfl) (by kernel_rfl) (by decide) (by kernel_rfl) (by kernel_rfl) (fun ch a1 w1 h=>hQP ch a1 _ _ w1 h) (Or.inl ⟨by kernel_rfl,by rintro w2 h2;have cc:=h2.2;go_simp⟩) t0 ?_
  go_simp
  refine zTq 6 (.bool false) rfl (fun a b c h=>hQP a b _ _ c h) t0 ?_
  go_simp
  refine zTq 7 (.bool ok) rfl (fun a b c h=>hQP a b _ _ c h) t0 ?_
  go_simp
  refine wpAnyT_take (i:=8) (v:=.bool (!ok)) rfl (by kernel_rfl) (by kernel_rfl) (by kernel_rfl) (by kernel_rfl) (by decide) (by kernel_rfl) (by kernel_rfl) (fun ch a1 w1 h=>hQP ch a1 _ _ w1 h) (Or.inl ⟨by kernel_rfl,by rintro w2 h2;have cc:=h2.2;go_simp⟩) t0 ?_
  go_simp
  refine zTq 9 (.bool (!ok)) rfl (fun a b c h=>hQP a b _ _ c h) t0 ?_
  go_simp
  refine zTq 10 (.pointer (some ⟨ob,15,none⟩)) rfl (fun a b c h=>hQP a b _ _ c h) t0 ?_
  go_simp
  refine zT1 11 rfl (fun K hK=>?_)
  have c15:=(McAt.of h0.q).c15
  have c16:=(McAt.of h0.q).c16
  have c17:=(McAt.of h0.q).c17
  have c18:=(McAt.of h0.q).c18
  have zf:=mfrozen h0.q
  go_simp
  clear c15 c16 c17 c18 zf
  refine hK _ (setRs X0 ob r) ⟨.inr t1,?_⟩
  clear hK K
  generalize setRs X0 ob r=X1 at *
  clear h0 t0
  refine zTq 12 (.pointer (some ⟨g,0,none⟩)) rfl (fun a b c h=>hQP a b _ _ c h) t1 ?_
  go_simp
  refine zTq 13 (.pointer (some ⟨g,1,none⟩)) rfl (fun a b c h=>hQP a b _ _ c h) t1 ?_
  go_simp
  have cB:=h1.rf.cell1
  have zB:=h1.rf.fz1
  refine wpAnyT_last (by kernel_rfl) (by kernel_rfl) ?_
  refine zA1 14 rfl (fun K hK=>?_)
  go_simp
  refine hK _ _ ?_
  clear hK K
  refine wpAny_done (by kernel_rfl) ?_ _
  have h5:=h1.flag (!ok)
  go_wp2_with fail
  refine Met.intro ?_
  apply hJ
  exact⟨_,_,_,h5,HS.out⟩
set_option maxRecDepth 100000 in
theorem sw_sn:SwSt (.int .u8 12) 115 (fun _=>True):=by
 intro K J Q' B g ob nb rb w T l8 tc o c s V0 _ h hl
 intros
 rename_i h2 hQP hJ
 conv=>arg 2;whnf
 have T3:=took_bytes s 12 (by decide)
 have hl3:=bytes_le s 12
 have hby:=rftake_any B g s 12 V0 h.rf hl
 unfold GivesTf at hby
 generalize RS.bytes s 12=y at *
 obtain⟨y,s3⟩:=y
 dsimp only at T3 hby hl3
 have HT:=hid T3
 have H:=hid h
 clear T3 h
 go_wp2_with fail
 refine hby.mono ?_
 rintro e W1 ⟨hR1,hg1,a1,k1,rfl,hrd1,hty1⟩
 have h1:=H.out.grown hg1 hR1
 clear hby hR1 hg1 H
 have hX:BelX W1.heap.size [ob] W1 (W1.setCell ⟨ob,22,none⟩ (.slice a1 y.length k1)):=(BelX.refl _ _ _).set _ _ _ (.inl (by simp))
 have hk:=h1.keep hX
 have hq1:(W1.setCell ⟨ob,22,none⟩ (.slice a1 y.length k1)).heap[ob]?=some (rawM (setF 115 o { o with so:=a1,sn:=y.length,sc:=k1 })).box:=(at_set h1.q).trans (by kernel_rfl)
 have aX:=h1.at_.kpn h1.ty hk
 have yX:=h1.ty.kpn hk
 have rX:=rd_kpb hrd1 hty1 hk.kb
 have tX:=TyB.kpb hty1 hk.kb
 have h2':TkM B g ob nb rb w T l8 tc (setF 115 o { o with so:=a1,sn:=y.length,sc:=k1 }) (setC 115 c { c with snap:=y }) s3 (W1.setCell ⟨ob,22,none⟩ (.slice a1 y.length k1)):=
  h1.box hX hq1 rfl rfl ⟨aX.rq,aX.rs,rX,aX.lg,aX.se,(show y.length≤1000000000 by omega),aX.lh⟩ ⟨h1.u.vi,h1.u.no,h1.u.cl,h1.u.nu,h1.u.at_,h1.u.cm,h1.u.bs,h1.u.nc,h1.u.rq,h1.u.log,h1.u.seen⟩ ⟨yX.rq,yX.rs,tX,yX.lo,yX.log,yX.ho⟩
 have hS:StepX 115 s (setF 115 o { o with so:=a1,sn:=y.length,sc:=k1 }) (setC 115 c { c with snap:=y }) s3:=step_snap HT.out rfl
 have HS:=hid hS
 have H2:=hid h2'
 have cB:=(McAt.of h1.q).c22
 have zf:=mfrozen h1.q 22
 clear hX hk hq1 aX yX rX tX hrd1 hty1 HT hS h2' h1
 go_wp2_with fail
 refine Met.intro ?_
 apply hJ
 exact⟨_,_,_,H2.out,HS.out⟩
set_option maxRecDepth 100000 in
theorem sw_wh:SwSt (.int .u8 15) 119 (fun _=>True):=by
 intro K J Q' B g ob nb rb w T l8 tc o c s V0 _ h hl
 intros
 rename_i h2 hQP hJ
 conv=>arg 2;whnf
 have T3:=took_flag s 15 (by decide)
 have hby:=rfflag_any B g s 15 V0 h.rf hl
 generalize RS.flag s 15=y at *
 obtain⟨y,s3⟩:=y
 dsimp only at T3 hby
 have HT:=hid T3
 have H:=hid h
 clear T3 h
 go_wp2_with fail
 refine hby.mono ?_
 rintro e W1 ⟨rfl,hR1,hg1⟩
 have h1:=H.out.grown hg1 hR1
 clear hby hR1 hg1 H
 have hX:BelX W1.heap.size [ob] W1 (W1.setCell ⟨ob,25,none⟩ (.bool y)):=(BelX.refl _ _ _).set _ _ _ (.inl (by simp))
 have hk:=h1.keep hX
 have hq1:(W1.setCell ⟨ob,25,none⟩ (.bool y)).heap[ob]?=some (rawM (setF 119 o { o with wh:=y })).box:=(at_set h1.q).trans (by kernel_rfl)
 have aX:=h1.at_.kpn h1.ty hk
 have yX:=h1.ty.kpn hk
 have h2':TkM B g ob nb rb w T l8 tc (setF 119 o { o with wh:=y }) (setC 119 c c) s3 (W1.setCell ⟨ob,25,none⟩ (.bool y)):=
  h1.box hX hq1 rfl rfl ⟨aX.rq,aX.rs,aX.sn,aX.lg,aX.se,aX.ls,aX.lh⟩ ⟨h1.u.vi,h1.u.no,h1.u.cl,h1.u.nu,h1.u.at_,h1.u.cm,h1.u.bs,h1.u.nc,h1.u.rq,h1.u.log,h1.u.seen⟩ ⟨yX.rq,yX.rs,yX.sn,yX.lo,yX.log,yX.ho⟩
 have hS:StepX 119 s (setF 119 o { o with wh:=y }) (setC 119 c c) s3:=step_whole HT.out rfl
 have HS:=hid hS
 have H2:=hid h2'
 have cB:=(McAt.of h1.q).c25
 have zf:=mfrozen h1.q 25
 clear hX hk hq1 aX yX HT hS h2' h1
 go_wp2_with fail
 refine Met.intro ?_
 apply hJ
 exact⟨_,_,_,H2.out,HS.out⟩
end Go.Proofs.YtgeafnggodkpaaaGreat.Msg
