/-A part of the proof.-/
import Derived.Test.YtfmmandlmbcncaaGreatDoorKfbk
set_option maxHeartbeats 40000000
set_option maxRecDepth 100000
set_option linter.all false
namespace Go.Proofs.YtfmmandlmbcncaaGreatDoor
namespace Msg
open Go.RowKit Go.Lib Mem Tlv
variable{B M ab k nn pb sb:Nat}{K:Kn}{N cl nd:Int}{P:PS}{W W' W4 w:World}{y:AcV}{yc:AcC}
def rpM (y:AcV):MV:=⟨2,y.vi,0,0,y.cl,y.nu,⟨0,0,⟨0,⟨#[]⟩,⟨#[]⟩,none,0,0,none,0,0,none,0,0,0⟩⟩,y.rs,0,0,0,none,0,0,none,0,0,0,false,none,0,0⟩
def rpC (c:AcC):MC:=⟨⟨[],[],[]⟩,c.rs,[],[],[]⟩
theorem TG{q:XP}(h:ActAt W q)(hs:kE q.1=true):MAt W (rpM q.1) (rpC q.2)/\U64M (rpM q.1) (rpC q.2)/\FitsM (rpM q.1) (rpC q.2)/\OpAt W q.1.op q.2.op/\q.1.bn<=3000:=by
 unfold kE at hs;simp only[ybz,yaU,ybT] at hs;have z:(0:Int)<=0/\(0:Int)<18446744073709551616:=by decide
 have hl:=h.e.len;have hc:=h.q.1;rw[aV] at hc;refine⟨⟨(fE W 2).rq,⟨h.e,h.q,by show q.1.rs.cn<=1000000000;omega⟩,Rd.nil _ _,(fE W 2).lg,Rd.nil _ _,yam _,yam _⟩,
  ⟨h.vi,z,h.cl,h.nu,z,z,z,z,⟨z.1,z.2,z.1,z.2⟩,fun _ hp=>(by cases hp),fun _ hp=>(by cases hp)⟩,
  ⟨Md (by show q.2.rs.ents.length<=40;omega),fun hm=>?_,fun _=>yam _⟩,⟨h.a,h.b,h.c,by omega,by omega,by omega⟩,by omega⟩
 show (dM q.1.rs q.2.rs).length<=4194304;have hm':bz q.1.rs q.2.rs=true:=hm;have hb:(dH q.2.rs.ents).length<=1017650:=by
  unfold bz at hm';by_cases h0:q.1.rs.code=0
  ·rw[if_pos h0] at hm';simp only[yaq,ybz,yaU,ybT] at hm';have h1:=yD q.2.rs.ents (fun p hp=>by simpa using yaS.1 hm'.1.1.2 p hp);have h2:q.2.rs.ents.length<=10:=by omega
   have h3:=ybc 101765 h2;omega
  rw[if_neg h0] at hm';simp only[yaq] at hm';have h1:=hm'.2;unfold aF at h1;simp only[yaq] at h1;have h2:=h1.2.2.1;cases he:q.2.rs.ents with
  | nil=>decide
  | cons a l=>rw[he] at h2;cases h2
 rw[nV];omega
theorem ActAt.later{q:XP}(h:ActAt W q)(hb:Below W.heap.size W W'):ActAt W' q:=⟨h.a.later hb,h.b.later hb,h.c.later hb,h.y.later hb,h.e.later hb,h.q.later hb,h.vi,h.cl,h.nu⟩
def AcV.box (y:AcV):Obj:=.cells y.cells 43
theorem lU(h:W.heap[B]?=some y.box):W.cell? ⟨B,0,none⟩=some (.int .i64 y.k)/\W.cell? ⟨B,1,none⟩=some (.int .i64 y.op.k)/\W.cell? ⟨B,2,none⟩=some (.string y.op.name)/\W.cell? ⟨B,3,none⟩=some (.string y.op.to)/\W.cell? ⟨B,4,none⟩=some (.slice y.op.ao y.op.an y.op.ac)/\W.cell? ⟨B,5,none⟩=some (.slice y.op.bo y.op.bn y.op.bc)/\W.cell? ⟨B,6,none⟩=some (.slice y.op.co y.op.cn y.op.cc)/\W.cell? ⟨B,7,none⟩=some (.int .i64 y.op.n)/\W.cell? ⟨B,8,none⟩=some (.slice y.bo y.bn y.bc)/\W.cell? ⟨B,9,none⟩=some (.int .u64 y.vi)/\W.cell? ⟨B,10,none⟩=some (.int .u64 y.cl)/\W.cell? ⟨B,11,none⟩=some (.int .u64 y.nu)/\W.cell? ⟨B,12,none⟩=some (.int .i64 y.rs.code)/\W.cell? ⟨B,13,none⟩=some (.bool y.rs.yes)/\W.cell? ⟨B,14,none⟩=some (.slice y.rs.eo y.rs.en y.rs.ec)/\W.cell? ⟨B,15,none⟩=some (.slice y.rs.co y.rs.cn y.rs.cc):=by
 unfold AcV.box AcV.cells at h;simp[World.cell?,h]
theorem KU{l:List XP}{most:Int}(h:vU l most=true):(∀q∈l,kE q.1=true)/\(l.length:Int)<=most:=by
 unfold vU at h;rw[yaq] at h;exact⟨fun q hq=>ybX.1 h.1 q hq,yar h.2⟩
theorem ActsRd.later{ao:Option Addr}{n cap:Nat}{l:List XP}(h:ActsRd W ao n cap l)(hb:Below W.heap.size W W'):ActsRd W' ao n cap l:=⟨h.rd.later hb,fun q hq=>(h.each q hq).later hb⟩
theorem TD(a:Addr)(w:World):Sem.run Tryz.prog (binOp BinOp.eql 26 (.pointer (some a)) (.pointer none)) w=.ok (.bool false) w:=by kernel_rfl
def StC (B sb pb M:Nat)(cl nd:Int)(N:Int)(w0 W:World):Prop:=∃(P:PS) (K:Kn) (uo to_:Option Addr),K.M=M/\SAt W B sb cl nd P K uo to_/\PAt W B pb cl nd P K/\P.Ok N/\Below B w0 W/\M<=W.heap.size
theorem StC.later{w0:World}(h:StC B sb pb M cl nd N w0 W)(hB:B<=W.heap.size)(hb:Below W.heap.size W W'):StC B sb pb M cl nd N w0 W':=by
 obtain⟨P,K,uo,to_,h1,h2,h3,h4,h5,h6⟩:=h;exact⟨P,K,uo,to_,h1,h2.later hb,h3.later hB hb,h4,h5.trans (hb.mono hB),yae h6 hb.size⟩
def yF:PS:=⟨0,0,0,0,false,false⟩
def BX (M:Nat):Kn:=⟨zeroV,⟨[],[],[]⟩,aG,⟨[],[]⟩,M⟩
theorem MX:yF.Ok 0:=⟨by decide,by decide,by decide,by decide,fun h=>(by cases h),by decide,fun _=>rfl⟩
theorem Qu(cl:Int)(nn B sb:Nat)(w0 W W':World)(hs:W.heap[sb]?=some (ut cl (nn:Int)).box)(hB:B<=sb)(hb:Below B w0 W)(hg:W.alloc (iT cl (nn:Int) yF (BX (W.heap.size+1)))=W'):StC B sb W.heap.size (W.heap.size+1) cl (nn:Int) 0 w0 W':=by
 have hb':Below W.heap.size W W':=bE hg
 have hlt:=lA hs;have S:SAt W B sb cl (nn:Int) yF (BX (W.heap.size+1)) none none:=⟨hs,hB,fun h=>(by cases h),fun _=>rfl,fun h=>(by cases h),fun _=>rfl,fun _=>(show aF aG ⟨[],[]⟩ aG ⟨[],[]⟩=true by decide)⟩
 have hp:W'.heap[W.heap.size]?=some (iT cl (nn:Int) yF (BX (W.heap.size+1))):=aE hg
 have h6:W.heap.size+1<=W'.heap.size:=lA hp;exact⟨yF,BX (W.heap.size+1),none,none,rfl,S.later hb',⟨hp,by omega,(fE W' 0).rq,⟨fun h=>absurd h (yaw 0),fun h=>absurd h (yaw 0),fun h=>absurd h (yaw 0)⟩,fun h=>(by cases h),(fE W' 0).rs,⟨fun h=>absurd h (yaw 0),fun _ h=>(by cases h),fun h=>absurd h (yaw 0)⟩⟩,MX,hb.trans (hb'.mono (by omega)),h6⟩
def SL:Code->Code
 | .seq _ b=>b
 | c=>c
def RX:Code->Code
 | .block _ c=>c
 | c=>c
noncomputable def playChk:Code:=SL (SL (RX ((Tryz.f3.body.bind (ja 1)).getD .skip)))
structure ChC (sb pb rb xb:Nat)(S:SV)(cl nd:Int)(P:PS)(K:Kn)(r:RV)(q:QV)(V W:World):Prop where
 s:W.heap[sb]?=some S.box
 p:W.heap[pb]?=some (iT cl nd P K)
 r:W.heap[rb]?=some r.box
 x:W.heap[xb]?=some q.box
 b:Below V.heap.size V W
theorem ChC.step{rb xb:Nat}{S:SV}{r:RV}{q:QV}{V:World}(h:ChC sb pb rb xb S cl nd P K r q V W)(hb:Below W.heap.size W W'):ChC sb pb rb xb S cl nd P K r q V W':=
 ⟨(hb.q h.s),(hb.q h.p),(hb.q h.r),(hb.q h.x),h.b.trans (hb.mono h.b.size)⟩
theorem TK(t:Bool)(w:World):Sem.run Tryz.prog (binOp BinOp.neq 4 (.bool t) (.bool t)) w=.ok (.bool false) w:=by cases t<;>kernel_rfl
noncomputable def playSw:Code:=(Tryz.f3.body.bind (ja 2)).getD .skip
def yh (cd:Code)(B sb pb ab M:Nat)(cl nn N:Int)(w:World)(t75:Value)(V0:World):Prop:=∀(Q:Exit->Act->World->Prop) (c2 c3 c4 c5 c6 c8 c10 c12 c13 c14 c15 c16 c17 c18 c19 c20 c21 c22 c23 c24 c25 c26 c27 c28 c29 c30 c31 c32 c33 c34 c35 c36 c37 c38 c39 c40 c41 c42 c43 c44 c45 c46 c47 c48 c49 c50 c51 c52 c53 c54 c55 c56 c57 c58 c59 c60 c61 c62 c63 c64 c65 c66 c67 c68 c69 c70 c71 c72 c73 c74 c76 c77 c78 c79 c80 c81 c82 c83 c84 c85 c86 c87 c88 c89 c90 c91 c92 c93 c94 c95 c96 c97 c98 c99 c100 c101 c102 c103 c104 c105 c106 c107 c108 c109 c110 c111 c112 c113 c114 c115 c116 c117 c118 c119 c120 c121 c122 c123 c124 c125 c126 c127 c128 c129 c130 c131 c132 c133 c134 c135 c136 c137 c138 c139 c140 c141 c142 c143 c144 c145 c146 c147 c148 c149 c150 c151 c152 c153 c154 c155 c156 c157 c158 c159 c160 c161 c162 c163 c164 c165 c166 c167 c168 c169 c170 c171 c172 c173 c174 c175 c176 c177 c178 c179 c180 c181 c182 c183 c184 c185 c186 c187 c188 c189 c190 c191 c192 c193 c194 c195 c196 c197 c198 c199 c200 c201 c202 c203 c204 c205 c206 c207 c208 c209 c210 c211 c212 c213 c214 c215 c216 c217 c218 c219 c220 c221 c222 c223 c224 c225 c226 c227 c228 c229 c230 c231 c232 c233 c234 c235 c236 c237 c238 c239 c240 c241 c242 c243 c244 c245 c246 c247 c248 c249 c250 c251 c252 c253 c254 c255 c256 c257 c258 c259 c260 c261 c262 c263 c264 c265 c266 c267 c268 c269 c270 c271 c272 c273 c274 c275 c276 c277 c278 c279 c280 c281 c282 c283 c284 c285 c286 c287 c288 c289 c290 c291 c292 c293 c294 c295 c296 c297 c298 c299 c300 c301 c302 c303 c304 c305 c306 c307 c308 c309 c310 c311 c312 c313 c314 c315:Value),(∀(ch:_) (a:Act) (d:Nat) (v:Value) (W:World),Q (.panic ch) (a.put (some d) v) W->Q (.panic ch) a W) ->
  (∀(x:Exit),x=.normal\/x=.exit 1->∀(u12 u13 u14 u15 u16 u17 u18 u19 u20 u21 u22 u23 u24 u64 u65 u66 u67 u68 u69 u70 u71 u72 u73 u74 u75 u76 u77 u78 u79 u80 u81 u82 u83 u84 u85 u86 u87 u88 u89 u90 u91 u92 u93 u94 u95 u96 u97 u98 u99 u100 u101 u102 u103 u104 u105 u106 u107 u108 u109 u110 u111 u112 u113 u114 u115 u116 u117 u118 u119 u120 u121 u122 u123 u124 u125 u126 u127 u128 u129 u130 u131 u132 u133 u134 u135 u136 u137 u138 u139 u140 u141 u142 u143 u144 u145 u146 u147 u148 u149 u150 u151 u152 u153 u154 u155 u156 u157 u158 u159 u160 u161 u162 u163 u164 u165 u166 u167 u168 u169 u170 u171 u172 u173 u174 u175 u176 u177 u178 u179 u180 u181 u182 u183 u184 u185 u186 u187 u188 u189 u190 u191 u192 u193 u194 u195 u196 u197 u198 u199 u200 u201 u202 u203 u204 u205 u206 u207 u208 u209 u210 u211 u212 u213 u214 u215 u216 u217 u218 u219 u220 u221 u222 u223 u224 u225 u226 u227 u228 u229 u230 u231 u232 u233 u234 u235 u236 u237 u238 u239 u240 u241 u242 u243 u244 u245 u246 u247 u248 u249 u250 u251 u252 u253 u254 u255 u256 u257 u258 u259 u260 u261 u262 u263 u264 u265 u266 u267 u268 u269 u270 u271 u272 u273 u274 u275 u276 u277 u278 u279 u280 u281 u282 u283 u284 u285 u286 u287 u288 u289 u290 u291 u292 u293 u294 u295 u296 u297 u298 u299 u300 u301 u302 u303 u304 u305 u306 u307 u308 u309 u310 u311 u312 u313 u314:Value) (W':World),StC B sb pb M cl nn N w W'->Q x ⟨#[.int .u64 cl,.int .i64 nn,c2,c3,c4,c5,c6,.pointer (some ⟨sb,0,none⟩),c8,.pointer (some ⟨pb,0,none⟩),c10,.pointer (some ⟨ab,0,none⟩),u12,u13,u14,u15,u16,u17,u18,u19,u20,u21,u22,u23,u24,c25,c26,c27,c28,c29,c30,c31,c32,c33,c34,c35,c36,c37,c38,c39,c40,c41,c42,c43,c44,c45,c46,c47,c48,c49,c50,c51,c52,c53,c54,c55,c56,c57,c58,c59,c60,c61,c62,c63,u64,u65,u66,u67,u68,u69,u70,u71,u72,u73,u74,u75,u76,u77,u78,u79,u80,u81,u82,u83,u84,u85,u86,u87,u88,u89,u90,u91,u92,u93,u94,u95,u96,u97,u98,u99,u100,u101,u102,u103,u104,u105,u106,u107,u108,u109,u110,u111,u112,u113,u114,u115,u116,u117,u118,u119,u120,u121,u122,u123,u124,u125,u126,u127,u128,u129,u130,u131,u132,u133,u134,u135,u136,u137,u138,u139,u140,u141,u142,u143,u144,u145,u146,u147,u148,u149,u150,u151,u152,u153,u154,u155,u156,u157,u158,u159,u160,u161,u162,u163,u164,u165,u166,u167,u168,u169,u170,u171,u172,u173,u174,u175,u176,u177,u178,u179,u180,u181,u182,u183,u184,u185,u186,u187,u188,u189,u190,u191,u192,u193,u194,u195,u196,u197,u198,u199,u200,u201,u202,u203,u204,u205,u206,u207,u208,u209,u210,u211,u212,u213,u214,u215,u216,u217,u218,u219,u220,u221,u222,u223,u224,u225,u226,u227,u228,u229,u230,u231,u232,u233,u234,u235,u236,u237,u238,u239,u240,u241,u242,u243,u244,u245,u246,u247,u248,u249,u250,u251,u252,u253,u254,u255,u256,u257,u258,u259,u260,u261,u262,u263,u264,u265,u266,u267,u268,u269,u270,u271,u272,u273,u274,u275,u276,u277,u278,u279,u280,u281,u282,u283,u284,u285,u286,u287,u288,u289,u290,u291,u292,u293,u294,u295,u296,u297,u298,u299,u300,u301,u302,u303,u304,u305,u306,u307,u308,u309,u310,u311,u312,u313,u314,c315],[]⟩ W')->Code.wp Tryz.prog cd Q ⟨#[.int .u64 cl,.int .i64 nn,c2,c3,c4,c5,c6,.pointer (some ⟨sb,0,none⟩),c8,.pointer (some ⟨pb,0,none⟩),c10,.pointer (some ⟨ab,0,none⟩),c12,c13,c14,c15,c16,c17,c18,c19,c20,c21,c22,c23,c24,c25,c26,c27,c28,c29,c30,c31,c32,c33,c34,c35,c36,c37,c38,c39,c40,c41,c42,c43,c44,c45,c46,c47,c48,c49,c50,c51,c52,c53,c54,c55,c56,c57,c58,c59,c60,c61,c62,c63,c64,c65,c66,c67,c68,c69,c70,c71,c72,c73,c74,t75,c76,c77,c78,c79,c80,c81,c82,c83,c84,c85,c86,c87,c88,c89,c90,c91,c92,c93,c94,c95,c96,c97,c98,c99,c100,c101,c102,c103,c104,c105,c106,c107,c108,c109,c110,c111,c112,c113,c114,c115,c116,c117,c118,c119,c120,c121,c122,c123,c124,c125,c126,c127,c128,c129,c130,c131,c132,c133,c134,c135,c136,c137,c138,c139,c140,c141,c142,c143,c144,c145,c146,c147,c148,c149,c150,c151,c152,c153,c154,c155,c156,c157,c158,c159,c160,c161,c162,c163,c164,c165,c166,c167,c168,c169,c170,c171,c172,c173,c174,c175,c176,c177,c178,c179,c180,c181,c182,c183,c184,c185,c186,c187,c188,c189,c190,c191,c192,c193,c194,c195,c196,c197,c198,c199,c200,c201,c202,c203,c204,c205,c206,c207,c208,c209,c210,c211,c212,c213,c214,c215,c216,c217,c218,c219,c220,c221,c222,c223,c224,c225,c226,c227,c228,c229,c230,c231,c232,c233,c234,c235,c236,c237,c238,c239,c240,c241,c242,c243,c244,c245,c246,c247,c248,c249,c250,c251,c252,c253,c254,c255,c256,c257,c258,c259,c260,c261,c262,c263,c264,c265,c266,c267,c268,c269,c270,c271,c272,c273,c274,c275,c276,c277,c278,c279,c280,c281,c282,c283,c284,c285,c286,c287,c288,c289,c290,c291,c292,c293,c294,c295,c296,c297,c298,c299,c300,c301,c302,c303,c304,c305,c306,c307,c308,c309,c310,c311,c312,c313,c314,c315],[]⟩ V0
structure RdC (d:List UInt8->Option (Int×Int×Int×Int))(w:World)(cl:Int)(nn:Nat)(sb pb ab M k:Nat)(y:AcV)(yc:AcC)(W4:World):Prop where
 d_:En d
 n3:nn=3\/nn=5\/nn=7
 kn:k<30
 e_:ErrG w/\0<=cl/\cl<18446744073709551616
 mm:pb+1=M
 sp:sb<pb/\w.heap.size<=sb
 st:StC w.heap.size sb pb M cl (nn:Int) (k:Int) w W4
 be:Below w.heap.size w W4
 ab_:W4.heap[ab]?=some y.box/\M<=ab
 q_:ActAt w (y,yc)/\kE y=true
theorem RdC.rp{d:List UInt8->Option (Int×Int×Int×Int)}(R:RdC d w cl nn sb pb ab M k y yc W4)(W:World)(hb:Below w.heap.size w W):MAt W (rpM y) (rpC yc)/\U64M (rpM y) (rpC yc)/\FitsM (rpM y) (rpC yc)/\OpAt W y.op yc.op/\y.bn<=3000:=TG (R.q_.1.later hb) R.q_.2
theorem KeepN.othB{b:Nat}{cs:Array Value}{t:TypeId}{fr:Nat×Nat}(ho:Oth B b W W')(hs:W.heap[b]?=some (.cells cs t fr))(ht:¬gZ t):KeepN B W W':=
 ⟨⟨ho.bel.size,fun k c t' fr' ht' hk=>(ho.oth k (lA hk) (fun e=>by
  subst e;rw[hs] at hk;cases hk;exact ht ht')).trans hk⟩,fun k h1 _=>ho.bel.block k h1⟩
theorem ToAt.far{i0:Int}{b:List UInt8}{l:List Value}{ov:Value}(h:ToAt B i0 b l ov W)(hM:M<=B)(hk:∀k,M<=k->k<W.heap.size->W'.heap[k]?=W.heap[k]?):ToAt B i0 b l ov W':=
 ⟨dw h.row fun k e=>hk k (yae hM (Msg.aU h.row e).1) (Msg.aU h.row e).2.1,fun v hv=>dw (h.each v hv) fun k e=>hk k (yae hM (Msg.aU (h.each v hv) e).1) (Msg.aU (h.each v hv) e).2.1⟩
theorem Ou{P2:PS}{K2:Kn}{uo to_:Option Addr}(t:Oth B pb W W')(hS:SAt W B sb cl nd P2 K2 uo to_)(hp:pb<K2.M)(hne:sb≠pb)(hP:PAt W B pb cl nd P K)(hb:W'.heap[pb]?=some (iT cl nd P2 K2))(hrv:K2.rv=K.rv)(hrc:K2.rc=K.rc)
  (hop:OpAt W K2.ov K2.oc) (hol:OpLow B K2.ov) (hm:P2.un=true->aA K2.ov K2.oc=true):SAt W' B sb cl nd P2 K2 uo to_/\PAt W' B pb cl nd P2 K2:=by
 have hn:KeepN B W W':=KeepN.othB t hP.box ul;refine⟨hS.far t.bel.size (t.oth _ (lA hS.box) hne) fun k h1 h2=>t.oth k h2 (by omega),⟨hb,hP.le,hop.low hol t.bel,hol,hm,?_,?_⟩⟩
 ·rw[hrv,hrc];exact hP.rs.kpn hP.rt hn
 rw[hrv,hrc];exact hP.rt.kpn hn
theorem RU(n:Int)(h:W.heap[pb]?=some (iT cl nd P K)):(W.setCell ⟨pb,1,none⟩ (.int .u64 n)).heap[pb]?=some (iT cl nd ⟨n,P.vi,P.la,P.dr,P.un,P.told⟩ K):=(at_set h).trans rfl
theorem Tc(u:OV)(c:OC)(h:W.heap[pb]?=some (iT cl nd P K)):((((((((W.setCell ⟨pb,6,none⟩ (.bool true)).setCell ⟨pb,8,none⟩ (.int .i64 u.k)).setCell ⟨pb,9,none⟩ (.string u.name)).setCell ⟨pb,10,none⟩ (.string u.to)).setCell ⟨pb,11,none⟩ (.slice u.ao u.an u.ac)).setCell ⟨pb,12,none⟩ (.slice u.bo u.bn u.bc)).setCell ⟨pb,13,none⟩ (.slice u.co u.cn u.cc)).setCell ⟨pb,14,none⟩ (.int .i64 u.n)).heap[pb]?=some (iT cl nd ⟨P.num,P.vi,P.la,P.dr,true,P.told⟩ ⟨u,c,K.rv,K.rc,K.M⟩):=
 (at_set (at_set (at_set (at_set (at_set (at_set (at_set (at_set h)))))))).trans (by kernel_rfl)
theorem ET(y:AcV)(c:AcC)(W:World)(h1:MAt W (rpM y) (rpC c))(h2:U64M (rpM y) (rpC c))(h3:FitsM (rpM y) (rpC c)):Calls Tryz.prog 16 #[.agg #[.int .i64 2,.int .u64 y.vi,.int .u64 0,.int .i64 0,.int .u64 y.cl,.int .u64 y.nu,.int .u64 0,.int .u64 0,.int .i64 0,.string ⟨#[]⟩,.string ⟨#[]⟩,.slice none 0 0,.slice none 0 0,.slice none 0 0,.int .i64 0,.int .i64 y.rs.code,.bool y.rs.yes,.slice y.rs.eo y.rs.en y.rs.ec,.slice y.rs.co y.rs.cn y.rs.cc,.int .u64 0,.int .u64 0,.int .u64 0,.slice none 0 0,.slice none 0 0,.int .u64 0,.bool false,.slice none 0 0]] W (F9 (rpM y) (rpC c) W):=
 oI rC (rpM y) (rpC c) W h1 h2 h3 (yam _) (yam _) (yam _)
theorem Kv{d:List UInt8->Option (Int×Int×Int×Int)}(R:RdC d w cl nn sb pb ab M k y yc W4)(k2:y.k=2):yh playSw w.heap.size sb pb ab M cl (nn:Int) ((k:Int)+1) w (.int .i64 y.k) W4:=by
 intro Q;intros;rename_i hQP hN;have HQP:=hid hQP;have HNN:=PLift.up hN;clear hQP hN;conv=>arg 2;whnf
 have hmo:=hmO;obtain⟨P,K,uo,to_,hKM,hS,hP,hok,hbe,hMs⟩:=R.st;have f1:(y.k==1)=false:=by simp[k2]
 have f2:(y.k==2)=true:=by simp[k2]
 obtain⟨-,-,-,-,-,-,-,-,x8,-⟩:=lU R.ab_.1;have hty:TyB w.heap.size W4 y.bo y.bc:=fun h0 a ha=>.inl (R.q_.1.y.lt h0 a ha);have hc:=AY d R.d_ w.heap.size pb sb cl (nn:Int) (by have:=R.n3;omega) P k K uo to_ yc.by_ y.bo y.bn y.bc W4 hS hP (by have:=R.sp;omega) (by have:=R.mm;rw[hKM];omega) (by rw[hKM];exact hMs) hok (by have:=R.kn;omega) (R.q_.1.later R.be).y (by have:=(R.rp W4 R.be).2.2.2.2;omega) hty (R.e_.1.below R.be);have HOK:=hid hok;clear k2 hS hP hok hty;go_wp2_with fail;refine hc.mono ?_;rintro e W5 ⟨rfl,kn5,hb5,rv,rc,u5,t5,S5,P5⟩;have HF:Hid (StC w.heap.size sb pb M cl (nn:Int) ((k:Int)+1) w W5):=hid ⟨_,_,u5,t5,by exact hKM,S5,P5,(yB R.d_ HOK.out cl yc.by_).ok,R.be.trans hb5,yae hMs hb5.size⟩;clear hc kn5 hb5 S5 P5 x8;go_wp2_with fail;apply HNN.down _ (.inl rfl);exact HF.out
theorem Jn{d:List UInt8->Option (Int×Int×Int×Int)}(R:RdC d w cl nn sb pb ab M k y yc W4)(k3:y.k=3):yh playSw w.heap.size sb pb ab M cl (nn:Int) ((k:Int)+1) w (.int .i64 y.k) W4:=by
 intro Q;intros;rename_i hQP hN;have HQP:=hid hQP;have HNN:=PLift.up hN;clear hQP hN;conv=>arg 2;whnf
 have hmo:=hmO;obtain⟨P,K,uo,to_,hKM,hS,hP,hok,hbe,hMs⟩:=R.st;have f1:(y.k==1)=false:=by simp[k3]
 have f2:(y.k==2)=false:=by simp[k3]
 have f3:(y.k==3)=true:=by simp[k3]
 have hc:=MO w.heap.size sb cl nn (by have:=R.n3;omega) (by have:=R.n3;omega) P k K uo to_ W4 hS hok R.e_.2.1 R.e_.2.2 (by have:=R.kn;omega);have HX:=hid (yax hS (yax hP hok));clear k3 hS hP hok;go_wp2_with fail;refine hc.mono ?_;rintro e W5 ⟨h0,h1⟩;obtain⟨un,hun⟩:∃un,P.un=un:=⟨_,rfl⟩
 rw[hun] at h0 h1;have HUN:=hid hun;clear hc hun;cases un with
 | false=>
  obtain⟨rfl,rfl⟩:=h0 rfl;have HF:Hid (StC w.heap.size sb pb M cl (nn:Int) ((k:Int)+1) w W5):=hid ⟨P,K,uo,to_,hKM,HX.out.1,HX.out.2.1,HX.out.2.2.up,hbe,hMs⟩;obtain⟨-,-,-,-,-,-,p6,-⟩:=fZ HX.out.2.1.box;rw[HUN.out] at p6;clear h0 h1 hbe;go_wp2_with fail;apply HNN.down _ (.inl rfl);exact HF.out
 | true=>
  obtain⟨u,c,hso,-,ls,ov,rfl,hl,hto,hb5⟩:=h1 rfl;have hz4:=R.be.size;have S5:=HX.out.1.later hb5;have P5:=HX.out.2.1.later hz4 hb5;have hc:=vI pb cl (nn:Int) P K W5 P5.box P5.op (P5.may HUN.out) ⟨R.e_.2.1,R.e_.2.2,HX.out.2.2.num.1,by have:=HX.out.2.2.num;have:=R.kn;show P.num<18446744073709551616;omega⟩ _ 0 _ (yQ hso) ls ov hto (by decide) (by rw[hl];have:=R.n3;omega);rw[hl,Int.zero_add] at hc;obtain⟨-,-,-,-,-,-,p6,-⟩:=fZ P5.box;rw[HUN.out] at p6;have HS5:=hid (yax S5 (yax P5 hb5));clear h0 h1 hso hl hto hb5 S5 P5;go_wp2_with fail;refine hc.mono ?_;rintro e W6 ⟨rfl,hb6⟩;have HF:Hid (StC w.heap.size sb pb M cl (nn:Int) ((k:Int)+1) w W6):=by
   have h5:=yae hz4 HS5.out.2.2.size;exact hid ⟨P,K,uo,to_,hKM,HS5.out.1.later hb6,HS5.out.2.1.later h5 hb6,HX.out.2.2.up,(hbe.trans (HS5.out.2.2.mono hz4)).trans (hb6.mono h5),yae (yae hMs HS5.out.2.2.size) hb6.size⟩
  clear p6;obtain⟨-,-,-,-,-,-,p6,-⟩:=fZ (hb6.q HS5.out.2.1.box);rw[HUN.out] at p6;clear hc hb6 hbe;go_wp2_with fail;apply HNN.down _ (.inl rfl);exact HF.out
theorem J6{d:List UInt8->Option (Int×Int×Int×Int)}(R:RdC d w cl nn sb pb ab M k y yc W4)(k4:y.k=4):yh playSw w.heap.size sb pb ab M cl (nn:Int) ((k:Int)+1) w (.int .i64 y.k) W4:=by
 intro Q;intros;rename_i hQP hN;have HQP:=hid hQP;have HNN:=PLift.up hN;clear hQP hN;conv=>arg 2;whnf
 have hmo:=hmO;obtain⟨P,K,uo,to_,hKM,hS,hP,hok,hbe,hMs⟩:=R.st;have f1:(y.k==1)=false:=by simp[k4]
 have f2:(y.k==2)=false:=by simp[k4]
 have f3:(y.k==3)=false:=by simp[k4]
 have f4:(y.k==4)=true:=by simp[k4]
 obtain⟨-,-,-,-,-,-,-,-,-,x9,x10,x11,x12,x13,x14,x15⟩:=lU R.ab_.1;have HR4:=hid (R.rp W4 R.be);have hc:=ET y yc W4 HR4.out.1 HR4.out.2.1 HR4.out.2.2.1;have HX:=hid (yax hS (yax hP hok));clear k4 hS hP hok;go_wp2_with fail;refine hc.mono ?_;rintro e W5 ⟨lb,ax,cx,ok,rfl,rd5,hb5,hok5,hl5⟩;have hz4:=R.be.size;have S5:=HX.out.1.later hb5;have P5:=HX.out.2.1.later hz4 hb5;have hbe5:=hbe.trans (hb5.mono hz4);have hM5:=yae hMs hb5.size;have HOK5:=hid (yax hok5 hl5);have HZ5:=hid (yax hz4 hb5.size);clear hc hok5 hl5 hz4 x9 x10 x11 x12 x13 x14 x15 hbe;cases ok with
 | false=>
  have HF:Hid (StC w.heap.size sb pb M cl (nn:Int) ((k:Int)+1) w W5):=hid ⟨P,K,uo,to_,hKM,S5,P5,HX.out.2.2.up,hbe5,hM5⟩;clear S5 P5 hbe5 hM5 rd5 hb5;go_wp2_with fail;apply HNN.down _ (.inl rfl);exact HF.out
 | true=>
  have hlb:=HOK5.out.2 rfl;have hlen:lb.length<=8388608:=by
   have h1:bY (rpM y) (rpC yc)=true:=HOK5.out.1.symm;unfold bY at h1;rw[yaq] at h1;rw[hlb.1];exact yar h1.2
  have hc:=AY d R.d_ w.heap.size pb sb cl (nn:Int) (by have:=R.n3;omega) P k K uo to_ lb ax lb.length cx W5 S5 P5 (by have:=R.sp;omega) (by have:=R.mm;rw[hKM];omega) (by rw[hKM];exact hM5) HX.out.2.2 (by have:=R.kn;omega) rd5 hlen (hlb.2 _) ((R.e_.1.below R.be).below hb5);clear S5 P5 hlb hlen rd5;go_wp2_with fail;refine hc.mono ?_;rintro e W6 ⟨rfl,kn6,hb6,rv,rc,u5,t5,S6,P6⟩;have HF:Hid (StC w.heap.size sb pb M cl (nn:Int) ((k:Int)+1) w W6):=hid ⟨_,_,u5,t5,by exact hKM,S6,P6,(yB R.d_ HX.out.2.2 cl lb).ok,hbe5.trans hb6,yae hM5 hb6.size⟩;clear hc kn6 hb6 S6 P6;go_wp2_with fail;apply HNN.down _ (.inl rfl);exact HF.out
theorem KP{d:List UInt8->Option (Int×Int×Int×Int)}(R:RdC d w cl nn sb pb ab M k y yc W4)(k1:y.k≠1)(k2:y.k≠2)(k3:y.k≠3)(k4:y.k≠4):yh playSw w.heap.size sb pb ab M cl (nn:Int) ((k:Int)+1) w (.int .i64 y.k) W4:=by
 intro Q;intros;rename_i hQP hN;have HQP:=hid hQP;have HNN:=PLift.up hN;clear hQP hN;conv=>arg 2;whnf
 have hmo:=hmO;obtain⟨P,K,uo,to_,hKM,hS,hP,hok,hbe,hMs⟩:=R.st;have f1:(y.k==1)=false:=by simp[k1]
 have f2:(y.k==2)=false:=by simp[k2]
 have f3:(y.k==3)=false:=by simp[k3]
 have f4:(y.k==4)=false:=by simp[k4]
 have HF:Hid (StC w.heap.size sb pb M cl (nn:Int) ((k:Int)+1) w W4):=hid ⟨P,K,uo,to_,hKM,hS,hP,hok.up,hbe,hMs⟩;clear k1 k2 k3 k4 hS hP hok hbe;go_wp2_with fail;apply HNN.down _ (.inl rfl);exact HF.out
theorem O5{d:List UInt8->Option (Int×Int×Int×Int)}(R:RdC d w cl nn sb pb ab M k y yc W4)(k1:y.k=1):yh playSw w.heap.size sb pb ab M cl (nn:Int) ((k:Int)+1) w (.int .i64 y.k) W4:=by
 intro Q;intros;rename_i hQP hN;have HQP:=hid hQP;have HNN:=PLift.up hN;clear hQP hN;conv=>arg 2;whnf
 have hmo:=hmO;obtain⟨P,K,uo,to_,hKM,hS,hP,hok,hbe,hMs⟩:=R.st;have f1:(y.k==1)=true:=by simp[k1]
 obtain⟨-,x1,x2,x3,x4,x5,x6,x7,-⟩:=lU R.ab_.1;have hc:=MZ w.heap.size sb cl nn (by have:=R.n3;omega) (by have:=R.n3;omega) P k K uo to_ y.op yc.op W4 hS (by rw[hKM];exact hMs) hok (by have:=R.kn;omega) R.e_.2.1 R.e_.2.2 (R.rp W4 R.be).2.2.2.1;unfold OV.val at hc;have HS0:=hid (yax hS (yax hP (yax hMs hok)));clear k1 hS hP hMs;go_wp2_with fail;refine hc.mono ?_;rintro e W5 ⟨ho5,h⟩;have a5:W5.heap[ab]?=some y.box:=(ho5.oth ab (lA R.ab_.1) (by have:=R.mm;have:=R.sp;have:=R.ab_.2;omega)).trans R.ab_.1;have p5:PAt W5 w.heap.size pb cl (nn:Int) P K:=HS0.out.2.1.keep (KeepN.oth ho5 HS0.out.1.box) ho5.bel ((ho5.oth pb (lA HS0.out.2.1.box) (by have:=R.sp;omega)).trans HS0.out.2.1.box) id;have hbe5:=R.be.trans ho5.bel;have hB5:=hbe5.size;have hM5:M<=W5.heap.size:=yae (Nat.le_of_lt_succ (by have:=R.ab_.2;have:=lA a5;omega)) (yag _);clear hc x1 x2 x3 x4 x5 x6 x7 ho5;obtain⟨-,x1,x2,x3,x4,x5,x6,x7,-⟩:=lU a5;rcases h with ⟨hmy,rfl,u5,t5,S5⟩ | ⟨hmy,hu,rfl,u5,t5,S5⟩ | ⟨hmy,hu,u,ls,ov,rfl,hl1,hto,hso,u5,t5,S5⟩
 ·have HMY:=hid hmy;have HX:=hid (yax a5 (yax p5 (yax S5 (yax hbe5 hB5))));have HM5:=hid hM5;have hm:=jq y.op yc.op W5 (R.rp W5 hbe5).2.2.2.1;rw[HMY.out] at hm;unfold OV.val at hm;clear hmy a5 p5 S5 hbe5 hB5 hM5;go_wp2_with fail;refine hm.mono ?_;rintro e W6 ⟨rfl,hb6⟩;have HB6:=hid hb6;clear x1 x2 x3 x4 x5 x6 x7 hm hb6;obtain⟨-,x1,x2,x3,x4,x5,x6,x7,-⟩:=lU (HB6.out.q HX.out.1);have hm:=jq y.op yc.op W6 (R.rp W6 (HX.out.2.2.2.1.trans (HB6.out.mono HX.out.2.2.2.2))).2.2.2.1;rw[HMY.out] at hm;unfold OV.val at hm;go_wp2_with fail;refine hm.mono ?_;rintro e W7 ⟨rfl,hb7⟩;have HF:Hid (StC w.heap.size sb pb M cl (nn:Int) ((k:Int)+1) w W7):=by
   have hb:=HB6.out.trans (hb7.mono HB6.out.size);exact hid ⟨P,K,u5,t5,hKM,HX.out.2.2.1.later hb,HX.out.2.1.later HX.out.2.2.2.2 hb,hok.up,HX.out.2.2.2.1.trans (hb.mono HX.out.2.2.2.2),yae HM5.out hb.size⟩
  clear hm hb7 x1 x2 x3 x4 x5 x6 x7 hok;go_wp2_with fail;apply HNN.down _ (.inr rfl);exact HF.out
 ·have HMY:=hid hmy;have HX:=hid (yax a5 (yax p5 (yax S5 (yax hbe5 hB5))));have HM5:=hid hM5;have HU:=hid hu;have hm:=jq y.op yc.op W5 (R.rp W5 hbe5).2.2.2.1;rw[HMY.out] at hm;unfold OV.val at hm;clear hmy a5 p5 S5 hbe5 hB5 hM5 hu;go_wp2_with fail;refine hm.mono ?_;rintro e W6 ⟨rfl,hb6⟩;have HB6:=hid hb6;clear x1 x2 x3 x4 x5 x6 x7 hm hb6;obtain⟨-,x1,x2,x3,x4,x5,x6,x7,-⟩:=lU (HB6.out.q HX.out.1);obtain⟨-,-,-,-,-,-,p6,-⟩:=fZ (HB6.out.q HX.out.2.1.box);rw[HU.out] at p6;have hm:=jq y.op yc.op W6 (R.rp W6 (HX.out.2.2.2.1.trans (HB6.out.mono HX.out.2.2.2.2))).2.2.2.1;rw[HMY.out] at hm;unfold OV.val at hm;go_wp2_with fail;refine hm.mono ?_;rintro e W7 ⟨rfl,hb7⟩;have HF:Hid (StC w.heap.size sb pb M cl (nn:Int) ((k:Int)+1) w W7):=by
   have hb:=HB6.out.trans (hb7.mono HB6.out.size);exact hid ⟨P,K,u5,t5,hKM,HX.out.2.2.1.later hb,HX.out.2.1.later HX.out.2.2.2.2 hb,hok.up,HX.out.2.2.2.1.trans (hb.mono HX.out.2.2.2.2),yae HM5.out hb.size⟩
  clear hm hb7 x1 x2 x3 x4 x5 x6 x7 p6 hok;go_wp2_with fail;apply HNN.down _ (.inr rfl);exact HF.out
 have HMY:=hid hmy;have HX:=hid (yax a5 (yax p5 (yax S5 (yax hbe5 hB5))));have HM5:=hid hM5;have HU:=hid hu;have HT:=hid (yax hl1 (yax hto hso));have hnum:IntKind.u64.wrap (P.num+1)=P.num+1:=by have:=hok.num;have:=R.kn;rw[ybi];omega
 have HOK:=hid hok;have hm:=jq y.op yc.op W5 (R.rp W5 hbe5).2.2.2.1;rw[HMY.out] at hm;unfold OV.val at hm;clear hmy a5 p5 S5 hbe5 hB5 hM5 hu hl1 hto hso hok;go_wp2_with fail;refine hm.mono ?_;rintro e W6 ⟨rfl,hb6⟩;have HB6:=hid hb6;clear x1 x2 x3 x4 x5 x6 x7 hm hb6;have a6:=HB6.out.q HX.out.1;have b6:=HB6.out.q HX.out.2.1.box;have HZ6:Hid (w.heap.size<=W6.heap.size):=hid (yae HX.out.2.2.2.2 HB6.out.size);obtain⟨-,p1,-,-,-,-,p6,-,-,-,-,-,-,-,-,-,-,-,pf⟩:=fZ b6;rw[HU.out] at p6;go_upto_region 23 with fail;have hpB:w.heap.size<=pb:=HX.out.2.1.le;have o7:=(Oth.refl w.heap.size pb W6).set hpB 1 (.int .u64 (P.num+1));have b7:=RU (P.num+1) b6;have hne:ab≠pb:=by have:=R.mm;have:=R.ab_.2;omega
 have a7:=ah (i:=1) (x:=.int .u64 (P.num+1)) a6 hne;have hz7:(W6.setCell ⟨pb,1,none⟩ (.int .u64 (P.num+1))).heap.size=W6.heap.size:=ybv _ _ _;generalize hg:World.setCell _ _ _=W7;rw[hg] at o7 b7 a7 hz7;clear hg p1 p6 pf a6 b6;have hd:Below W7.heap.size W7 W7.drew:=(yaj _ _).drew;have o8:=o7.later (by rw[hz7];exact HZ6.out) hd;have b8:=hd.q b7;have s0:W7.drew.heap[ab]?=some y.box:=hd.q a7;refine yaB (S:=fun W=>W.heap[ab]?=some y.box) hmo ?_;change wpAnyH _ _ _ _ _ _ _ _ (World.drew _);generalize World.drew W7=V0 at *;clear hd o7 b7 a7 hz7;obtain⟨-,-,-,-,-,-,p6,-,p8,p9,p10,p11,p12,p13,p14,-,-,-,pf⟩:=fZ b8;refine zS 119 [0,1,2] [pp pb 0,pp pb 0,pp ab 1] s0 ?_;go_simp;refine zHc 3 (.agg #[.int .i64 y.op.k,.string y.op.name,.string y.op.to,.slice y.op.ao y.op.an y.op.ac,.slice y.op.bo y.op.bn y.op.bc,.slice y.op.co y.op.cn y.op.cc,.int .i64 y.op.n]) rfl (fun _ h=>h) s0 ?_;go_simp;refine zS 119 [4,5] [pp pb 0,pp pb 6] s0 ?_;go_simp;refine zH1 6 rfl (fun C hC=>?_);go_simp;have s1:=ah (i:=6) (x:=.bool true) s0 hne;refine hC _ _ ⟨s1,?_⟩;clear hC C;refine zS 118 [7,8] [pp pb 0,pp pb 8] s1 ?_;go_simp;refine zH1 9 rfl (fun C hC=>?_);go_simp;have o9:=(((((((o8.set hpB 6 (.bool true)).set hpB 8 (.int .i64 y.op.k)).set hpB 9 (.string y.op.name)).set hpB 10 (.string y.op.to)).set hpB 11 (.slice y.op.ao y.op.an y.op.ac)).set hpB 12 (.slice y.op.bo y.op.bn y.op.bc)).set hpB 13 (.slice y.op.co y.op.cn y.op.cc)).set hpB 14 (.int .i64 y.op.n);have b9:=Tc y.op yc.op b8;have s2:=ah (i:=14) (x:=.int .i64 y.op.n) (ah (i:=13) (x:=.slice y.op.co y.op.cn y.op.cc) (ah (i:=12) (x:=.slice y.op.bo y.op.bn y.op.bc) (ah (i:=11) (x:=.slice y.op.ao y.op.an y.op.ac) (ah (i:=10) (x:=.string y.op.to) (ah (i:=9) (x:=.string y.op.name) (ah (i:=8) (x:=.int .i64 y.op.k) s1 hne) hne) hne) hne) hne) hne) hne;refine hC _ _ ⟨s2,?_⟩;clear hC C;refine zd ?_;generalize hg:World.setCell _ _ _=V1;rw[hg] at o9 b9;clear hg s0 s1 s2 o8 b8 p6 p8 p9 p10 p11 p12 p13 p14 pf;have hK2:=b9;have hlow:OpLow w.heap.size y.op:=⟨R.q_.1.a.lt,R.q_.1.b.lt,R.q_.1.c.lt⟩
 have hS6:=HX.out.2.2.1.later HB6.out;have hP6:=HX.out.2.1.later HX.out.2.2.2.2 HB6.out;have hbw6:=HX.out.2.2.2.1.trans (HB6.out.mono HX.out.2.2.2.2);have hpM:pb<K.M:=by have:=R.mm;rw[hKM];omega
 obtain⟨S9,P9⟩:=Ou o9 hS6 hpM (by have:=R.sp;omega) hP6 hK2 rfl rfl (R.rp W6 hbw6).2.2.2.1 hlow (fun _=>HMY.out);have hto9:=(HT.out.2.1.later HB6.out).far HS0.out.2.2.1 (fun k h1 h2=>o9.oth k h2 (by omega));have hp0:0<=P.vi % (nn:Int):=Int.emod_nonneg _ (by have:=R.n3;omega);have hp7:P.vi % (nn:Int)<7:=Int.lt_of_lt_of_le (Int.emod_lt_of_pos _ (by have:=R.n3;omega)) (by have:=R.n3;omega);have hwn:IntKind.wrap .u64 (nn:Int)=(nn:Int):=by have:=R.n3;rw[ybi];omega
 have hnz:¬(nn:Int)=0:=(by have:=R.n3;omega)
 have hrem:P.vi.tmod (nn:Int)=P.vi % (nn:Int):=ybW HOK.out.vi.1;have hwp:IntKind.wrap .i64 (P.vi % (nn:Int))=P.vi % (nn:Int):=by rw[yaP];omega
 have hwq:IntKind.wrap .i64 (P.vi % (nn:Int)+1)=P.vi % (nn:Int)+1:=by rw[yaP];omega
 have hc:=vI pb cl (nn:Int) ⟨P.num+1,P.vi,P.la,P.dr,true,P.told⟩ ⟨y.op,yc.op,K.rv,K.rc,K.M⟩ V1 hK2 P9.op HMY.out ⟨R.e_.2.1,R.e_.2.2,by have:=HOK.out.num;show 0<=P.num+1;omega,by have:=HOK.out.num;have:=R.kn;show P.num+1<18446744073709551616;omega⟩ _ (P.vi % (nn:Int)) _ (yQ HT.out.2.2) ls ov hto9 hp0 (by rw[HT.out.1];omega);rw[HT.out.1] at hc;have HF0:=hid (yax S9 (yax P9 (yax (hbw6.trans o9.bel) (yax o9.bel.size HOK.out))));obtain⟨-,p1,p2,-⟩:=fZ hK2;dsimp only at p1 p2;have hnn:(P.num+1 != P.num+1)=false:=by simp
 clear o9 b9 hK2 hlow hS6 hP6 hbw6 hpM S9 P9 hto9 hnum hpB hne;generalize hpe:P.vi % (nn:Int)=at_ at *;go_wp2_with fail;refine hc.mono ?_;rintro e W9 ⟨rfl,hb9⟩;have HF:Hid (StC w.heap.size sb pb M cl (nn:Int) ((k:Int)+1) w W9):=hid ⟨_,_,u5,t5,by exact hKM,HF0.out.1.later hb9,HF0.out.2.1.later (yae HZ6.out HF0.out.2.2.2.1) hb9,⟨⟨by have:=HF0.out.2.2.2.2.num;show 0<=P.num+1;omega,by have:=HF0.out.2.2.2.2.num;show P.num+1<=(k:Int)+1;omega⟩,HF0.out.2.2.2.2.vi,HF0.out.2.2.2.2.la,⟨HF0.out.2.2.2.2.dr.1,by have:=HF0.out.2.2.2.2.dr;show P.dr<=(k:Int)+1;omega⟩,fun _=>by have:=HF0.out.2.2.2.2.le;show P.la<P.num+1;omega,by have:=HF0.out.2.2.2.2.le;show P.la<=P.num+1;omega,HF0.out.2.2.2.2.to0⟩,HF0.out.2.2.1.trans (hb9.mono (yae HZ6.out HF0.out.2.2.2.1)),by have:=HM5.out;have:=HB6.out.size;have:=HF0.out.2.2.2.1;have:=hb9.size;omega⟩;clear hc hb9 p1 p2;go_wp2_with fail;apply HNN.down _ (.inl rfl);exact HF.out
theorem Ob{V0:World}{t75:Value}(hn0:(0:Int)<(nn:Int))(h:StC w.heap.size sb pb M cl (nn:Int) N w V0):yh playChk w.heap.size sb pb ab M cl (nn:Int) N w t75 V0:=by
 intro Q;intros;rename_i hQP hN;have HQP:=hid hQP;have HNN:=PLift.up hN;clear hQP hN;conv=>arg 2;whnf
 have hmo:=hmO;obtain⟨⟨num,vi,la,dr,un,told⟩,K,uo,to_,hKM,hS,hP,hok,hbe,hMs⟩:=h;have hB0:=hbe.size;go_wp2_with fail;refine (JA w.heap.size sb cl (nn:Int) hn0 _ K uo to_ V0 hS).mono ?_;rintro e V1 ⟨hb1,hu0,hu1⟩;obtain⟨r,c,rfl,hr⟩:∃(r:RV) (c:OC),e=.returned (.tuple #[r.val,.bool un])/\(un=true->r.cl=cl/\r.nu=num/\OpAt V1 r.op c/\bg r.op c K.ov K.oc=true):=by
  cases un with
  | false=>exact⟨bG,⟨[],[],[]⟩,hu0 rfl,fun h=>by cases h⟩
  | true=>
   obtain⟨u,c,h3,h4,h5⟩:=hu1 rfl;exact⟨⟨cl,num,u⟩,c,h3,fun _=>⟨rfl,rfl,h4,h5⟩⟩
 have HR:=hid hr;have S1:=hS.later hb1;have P1:=hP.later hB0 hb1;have be1:=hbe.trans (hb1.mono hB0);have hB1:=yae hB0 hb1.size;have hM1:=yae hMs hb1.size;clear hu0 hu1 hr hS hP hbe hB0 hMs hb1;unfold RV.val RV.cells;go_upto_region 39 with (refine zNr rfl ?_;go_simp);generalize hg:V1.alloc _=V2;have e2:V1.alloc r.box=V2:=hg;have hb2:=bE e2;have r2:=aE e2;have S2:=S1.later hb2;have P2:=P1.later hB1 hb2;have be2:=be1.trans (hb2.mono hB1);have hB2:=yae hB1 hb2.size;have hM2:=yae hM1 hb2.size;have HB12:=hid hb2;clear hg e2 hb2 S1 P1 be1 hB1 hM1;obtain⟨rb,hrb⟩:∃rb,V1.heap.size=rb:=⟨_,rfl⟩
 rw[hrb] at r2 ⊢;clear hrb;go_wp2_with fail;refine (last_any w.heap.size sb cl (nn:Int) hn0 _ _ K uo to_ V2 S2 hok).mono ?_;rintro e V3 ⟨q,qc,rfl,hq3,hsq,hb3⟩;have S3:=S2.later hb3;have P3:=P2.later hB2 hb3;have be3:=be2.trans (hb3.mono hB2);have hB3:=yae hB2 hb3.size;have hM3:=yae hM2 hb3.size;have r3:=hb3.q r2;have HB13:=hid (HB12.out.trans (hb3.mono HB12.out.size));have HSQ:=hid hsq;clear hb3 S2 P2 be2 hB2 hM2 r2 hsq HB12;unfold QV.val QV.cells;go_upto_region 40 with (refine zNr rfl ?_;go_simp);generalize hg:V3.alloc _=V4;have e4:V3.alloc q.box=V4:=hg;have hb5:=(bE e4).drew;have S5:=S3.later hb5;have P5:=P3.later hB3 hb5;have r5:=hb5.q r3;have x5:V4.drew.heap[V3.heap.size]?=some q.box:=by have h:=aE e4;exact h
 have hq5:=hq3.later hb5;have HST:Hid (StC w.heap.size sb pb M cl (nn:Int) N w V4.drew):=hid ⟨_,K,uo,to_,hKM,S5,P5,hok,be3.trans (hb5.mono hB3),yae hM3 hb5.size⟩;have HB5:=hid (yae hB3 hb5.size);have HO5:Hid (un=true->r.cl=cl/\r.nu=num/\OpAt V4.drew r.op c/\bg r.op c K.ov K.oc=true):=hid (fun h=>by
  obtain⟨a1,a2,a3,a4⟩:=HR.out h;exact⟨a1,a2,a3.later (HB13.out.trans (hb5.mono HB13.out.size)),a4⟩)
 have HPO:=hid (yax P5.op P5.rs);have HQ5:=hid hq5;have s0:ChC sb pb rb V3.heap.size (SV.mk cl nn num uo vi la to_ dr) cl nn ⟨num,vi,la,dr,un,told⟩ K r q V4.drew V4.drew:=⟨S5.box,P5.box,r5,x5,yaj _ _⟩
 refine yaB (S:=ChC sb pb rb V3.heap.size (SV.mk cl nn num uo vi la to_ dr) cl nn ⟨num,vi,la,dr,un,told⟩ K r q V4.drew) hmo ?_;change wpAnyH _ _ _ _ _ _ _ _ (World.drew V4);clear hg e4 hb5 S3 P3 r3 S5 P5 r5 x5 hq3 hq5 be3 hB3 hM3 HR HB13 hKM hok;generalize V3.heap.size=xb at *;generalize World.drew V4=V5 at *;have g6:=TK told;have HCQ:Hid (∀Y,Below V5.heap.size V5 Y->Calls Tryz.prog 20 #[q.val,K.rv.val] Y (GivesB true Y)):=hid (fun Y h=>by
  have hc:=kT q K.rv qc K.rc Y (HQ5.out.later h) (HPO.out.2.later h);rw[HSQ.out] at hc;exact hc)
 cases un
 case' false=>
  clear HO5;refine zS 223 [0,1,2,3] [.bool false,pp pb 0,pp pb 0,pp pb 6] s0 ?_;go_simp;refine zHc 4 (.bool false) rfl (fun _ h=>h.p) s0 ?_;go_simp;refine zS 223 [5,6,7,8,9,10,11,12,13,14,15,16,17,18,19,20,21,22,23,24,25,26,27,28,29,30,31,32,33] [.bool false,.bool false,.bool false,.bool false,undef,undef,undef,undef,undef,undef,undef,undef,undef,undef,undef,undef,undef,undef,undef,undef,undef,undef,undef,undef,undef,undef,undef,.bool false,.bool false] s0 ?_;go_simp
 case' true=>
  obtain⟨r1,rn,ro⟩:=r;have hx:=HO5.out rfl;dsimp only at hx;obtain⟨e1,e2,hop,hso⟩:=hx;subst r1 rn;have HCO:Hid (∀Y,Below V5.heap.size V5 Y->Calls Tryz.prog 19 #[ro.val,K.ov.val] Y (GivesB true Y)):=hid (fun Y h=>by
   have hc:=rH ro K.ov c K.oc Y (hop.later h) (HPO.out.1.later h);rw[hso] at hc;exact hc)
  clear HO5 hop hso;refine zS 223 [0,1,2,3] [.bool true,pp pb 0,pp pb 0,pp pb 6] s0 ?_;go_simp;refine zHc 4 (.bool true) rfl (fun _ h=>h.p) s0 ?_;go_simp;refine zS 223 [5,6,7,8,9] [.bool false,.bool false,.bool true,.bool true,pp rb 1] s0 ?_;go_simp;refine zHc 10 (.int .u64 num) rfl (fun _ h=>h.r) s0 ?_;go_simp;refine zS 223 [11,12,13] [pp pb 0,pp pb 0,pp pb 1] s0 ?_;go_simp;refine zHc 14 (.int .u64 num) rfl (fun _ h=>h.p) s0 ?_;go_simp;refine zNe 15 (.int .u64 num) rfl s0 ?_;go_simp;refine zS 223 [16,17] [.bool false,pp rb 0] s0 ?_;go_simp;refine zHc 18 (.int .u64 cl) rfl (fun _ h=>h.r) s0 ?_;go_simp;refine zS 223 [19] [.int .u64 cl] s0 ?_;go_simp;refine zNe 20 (.int .u64 cl) rfl s0 ?_;go_simp;refine zS 223 [21,22,23] [.bool false,.bool false,pp rb 2] s0 ?_;go_simp;refine zHc 24 (.agg #[.int .i64 ro.k,.string ro.name,.string ro.to,.slice ro.ao ro.an ro.ac,.slice ro.bo ro.bn ro.bc,.slice ro.co ro.cn ro.cc,.int .i64 ro.n]) rfl (fun _ h=>h.r) s0 ?_;go_simp;refine zS 223 [25,26,27] [pp pb 0,pp pb 0,pp pb 8] s0 ?_;go_simp;refine zHc 28 (.agg #[.int .i64 K.ov.k,.string K.ov.name,.string K.ov.to,.slice K.ov.ao K.ov.an K.ov.ac,.slice K.ov.bo K.ov.bn K.ov.bc,.slice K.ov.co K.ov.cn K.ov.cc,.int .i64 K.ov.n]) rfl (fun _ h=>h.p) s0 ?_;go_simp;refine zC 29 rfl (HCO.out _ s0.b) ?_;rintro e Y1 ⟨rfl,hbY⟩;replace s0:=s0.step hbY;clear hbY;refine⟨s0,?_⟩;go_simp;refine zS 223 [30,31,32,33] [.bool false,.bool false,.bool false,.bool false] s0 ?_;go_simp
 all_goals
  refine zS 223 [34,35,36,37,38] [.bool false,.bool told,pp pb 0,pp pb 0,pp pb 7] s0 ?_;go_simp;refine zHc 39 (.bool told) rfl (fun _ h=>h.p) s0 ?_;go_simp;refine zHa 40 (.bool false) rfl (by intro w2 _;go_simp) s0 ?_;go_simp;refine zS 223 [41,42,43,44,45,46] [.bool false,.bool false,.int .u64 la,pp pb 0,pp pb 0,pp pb 3] s0 ?_;go_simp;refine zHc 47 (.int .u64 la) rfl (fun _ h=>h.p) s0 ?_;go_simp;refine zNe 48 (.int .u64 la) rfl s0 ?_;go_simp;refine zS 223 [49,50] [.bool false,.bool false] s0 ?_;go_simp;refine zHc 51 (.agg #[.int .i64 q.code,.bool q.yes,.slice q.eo q.en q.ec,.slice q.co q.cn q.cc]) rfl (fun _ h=>h.x) s0 ?_;go_simp;refine zS 223 [52,53,54] [pp pb 0,pp pb 0,pp pb 15] s0 ?_;go_simp;refine zHc 55 (.agg #[.int .i64 K.rv.code,.bool K.rv.yes,.slice K.rv.eo K.rv.en K.rv.ec,.slice K.rv.co K.rv.cn K.rv.cc]) rfl (fun _ h=>h.p) s0 ?_;go_simp;refine zC 56 rfl (HCQ.out _ s0.b) ?_;rintro e Y2 ⟨rfl,hbY⟩;replace s0:=s0.step hbY;clear hbY;refine⟨s0,?_⟩;go_simp;refine zS 223 [57,58,59,60,62,63,64] [.bool false,.bool false,.bool false,pp sb 0,pp pb 0,pp pb 0,pp pb 2] s0 ?_;go_simp;refine zHc 65 (.int .u64 vi) rfl (fun _ h=>h.p) s0 ?_;go_simp;refine zC 61 rfl (NP _ sb _ s0.s) ?_;rintro e _ ⟨rfl,rfl⟩;refine⟨s0,?_⟩;go_simp;refine zNe 66 (.int .u64 vi) rfl s0 ?_;go_simp;refine zS 223 [67,68,69,71,72,73] [.bool false,.bool false,pp sb 0,pp pb 0,pp pb 0,pp pb 1] s0 ?_;go_simp;refine zHc 74 (.int .u64 num) rfl (fun _ h=>h.p) s0 ?_;go_simp;refine zC 70 rfl (Oc _ sb _ s0.s) ?_;rintro e _ ⟨rfl,rfl⟩;refine⟨s0,?_⟩;go_simp;refine zNe 75 (.int .u64 num) rfl s0 ?_;go_simp;refine zS 223 [76,77,78,80,81,82] [.bool false,.bool false,pp sb 0,pp pb 0,pp pb 0,pp pb 5] s0 ?_;go_simp;refine zHc 83 (.int .i64 dr) rfl (fun _ h=>h.p) s0 ?_;go_simp;refine zC 79 rfl (EN _ sb _ s0.s) ?_;rintro e _ ⟨rfl,rfl⟩;refine⟨s0,?_⟩;go_simp;refine zNe 84 (.int .i64 dr) rfl s0 ?_;go_simp;refine zS 223 [85,86,87,89] [.bool false,.bool false,pp sb 0,.int .u64 cl] s0 ?_;go_simp;refine zC 88 rfl (Gj _ sb _ s0.s) ?_;rintro e _ ⟨rfl,rfl⟩;refine⟨s0,?_⟩;go_simp;refine zNe 90 (.int .u64 cl) rfl s0 ?_;go_simp;refine zS 223 [91] [.bool false] s0 ?_;go_simp;refine zd ?_;have HF:=hid (HST.out.later HB5.out s0.b);clear s0;go_wp2_with fail;apply HNN.down _ (.inl rfl);exact HF.out
def kK:OV:=⟨6,⟨#[97]⟩,⟨#[]⟩,none,0,0,none,0,0,none,0,0,0⟩
def tq:OC:=⟨[],[],[]⟩
theorem CP:aT ⟨#[97]⟩=true:=by
 unfold aT;rw[yaa (by decide),yaa (by decide)];rfl
theorem Ea:aT ⟨#[]⟩=true:=by
 unfold aT;rw[yaa (by decide),yaa (by decide)];rfl
theorem xO:aA kK tq=true:=by
 have h1:fieldsOf kK.k=[110]:=rfl;have h2:bg kK tq (bP [110] kK) (iQ [110] tq)=true:=by
  unfold bg;exact yaa (by decide)
 unfold aA dX;rw[h1,h2,show aT kK.name=true from CP,show aT kK.to=true from Ea];rfl
theorem zt(W:World):OpAt W kK tq:=⟨Rd.nil _ _,Rd.nil _ _,Rd.nil _ _,by decide,by decide,by decide⟩
theorem rQ(w:World):Calls Tryz.prog 9 #[] w (GivesB true w):=by
 have hnew:=new_any 1 3 w;go_in;go_wp2_with fail;refine hnew.mono ?_;rintro e w1 he;unfold wB at he;rw[if_pos (by decide)] at he;obtain⟨rfl,e1⟩:=he;have hb1:Below w.heap.size w w1:=by rw[e1];exact bN _ _
 have k1:w1.heap[w.heap.size]?=some (ut 1 3).box:=by rw[e1];show (w.heap.push _)[w.heap.size]?=some _;exact ybH
 clear e1 hnew;go_upto_region 3 with (refine zNr rfl ?_;go_simp);generalize hg:w1.alloc _=w2;have hb2:=bE hg
 have q2:w2.heap[w1.heap.size]?=some kK.box:=aE hg
 have hlt1:=lA k1;have k2:=(hb2.block _ hlt1).trans k1;have hB2:=hb1.trans (hb2.mono hb1.size);clear hg k1 hb2;have hask:=KZ w.heap.size w.heap.size (ut 1 3) kK tq w2 k2 (yag _) (zt _) xO rfl (by decide) (by decide) (by decide) (by decide) (by decide) (by decide) (by decide) (by decide);go_wp2_with (refine zLr rfl q2 ?_;go_simp);refine hask.mono ?_;rintro e w3 ⟨rb,u,l,ov,rfl,hl,k3,-,-,-,-,hoth,-⟩;have q3:=(hoth.oth _ (lA q2) (by omega)).trans q2;have hB3:=hB2.trans hoth.bel;have hst:=Bi kK tq _ w.heap.size ⟨rb,0,none⟩ w3 k3 (zt _) (show (0:Int)<3 by decide) xO rfl;clear hask;go_wp2_with (refine zLr rfl q3 ?_;go_simp);refine hst.mono ?_;rintro e w4 ⟨rfl,hb4⟩;have hB4:=hB3.trans (hb4.mono hB3.size);clear hst;dsimp only[ut];go_wp2_with fail;go_ret;exact⟨rfl,hB4⟩
theorem yz(cl:Int)(hc0:0<=cl)(hc1:cl<18446744073709551616)(nd:Int)(ao:Option Addr)(n cap:Nat)(l:List XP)(w:World)(hA:ActsRd w ao n cap l)(hE:ErrG w) :
  Calls Tryz.prog 3 #[.int .u64 cl,.int .i64 nd,.slice ao n cap] w (GivesB true w):=by
 obtain⟨d,hd⟩:=Rh;have hmo:=hmO
 go_in;go_wp2_with fail;refine (PM ao n cap l 30 w hA).mono ?_;rintro e w1 ⟨rfl,hb1⟩;cases hf1:vU l 30
 case false=>
  go_wp2_with fail
  as_aux_lemma=>
   refine (rQ _).mono ?_;rintro e wk ⟨rfl,hbk⟩;go_wp2_with fail;go_ret;exact⟨rfl,hb1.trans (hbk.mono hb1.size)⟩
 as_aux_lemma=>
  have HF1:=hid (KU hf1);have L1:=hid hA.len;have HN:Hid (n<=30):=hid (by have:=HF1.out.2;have:=L1.out;omega);clear hf1;have hnew:=new_any cl nd w1;unfold wB at hnew;by_cases hnd:nd=3\/nd=5\/nd=7
  case neg=>
   rw[show (fun (e:Ending) (w':World)=>if nd=3\/nd=5\/nd=7 then e=.returned (.tuple #[.pointer (some ⟨w1.heap.size,0,none⟩),.int .i64 0])/\w'=w1.alloc (ut cl nd).box else e=.returned (.tuple #[.pointer none,.int .i64 2])/\w'=w1)=fun e w'=>e=.returned (.tuple #[.pointer none,.int .i64 2])/\w'=w1 from by funext e w';rw[if_neg hnd]] at hnew
   as_aux_lemma=>
    have g3:(nd != 3)=true:=by simp;omega
    have g5:(nd != 5)=true:=by simp;omega
    have g7:(nd != 7)=true:=by simp;omega
    have pe:∀w,Sem.run Tryz.prog (binOp BinOp.eql 26 (.pointer none) (.pointer none)) w=.ok (.bool true) w:=fun _=>by kernel_rfl
    clear hnd;go_wp2_with fail;refine hnew.mono ?_;rintro e w2 ⟨rfl,rfl⟩;go_wp2_with fail;refine (rQ _).mono ?_;rintro e wk ⟨rfl,hbk⟩;go_wp2_with fail;go_ret;exact⟨rfl,hb1.trans (hbk.mono hb1.size)⟩
  obtain⟨nn,rfl,hnn⟩:∃nn:Nat,nd=(nn:Int)/\(nn=3\/nn=5\/nn=7):=⟨nd.toNat,by omega,by omega⟩
  rw[show (fun (e:Ending) (w':World)=>if (nn:Int)=3\/(nn:Int)=5\/(nn:Int)=7 then e=.returned (.tuple #[.pointer (some ⟨w1.heap.size,0,none⟩),.int .i64 0])/\w'=w1.alloc (ut cl nn).box else e=.returned (.tuple #[.pointer none,.int .i64 2])/\w'=w1)=fun e w'=>e=.returned (.tuple #[.pointer (some ⟨w1.heap.size,0,none⟩),.int .i64 0])/\w'=w1.alloc (ut cl nn).box from by funext e w';rw[if_pos hnd]] at hnew
  as_aux_lemma=>
   have HNN:=hid hnn;clear hnd hnn;go_wp2_with fail;refine hnew.mono ?_;rintro e w2 ⟨rfl,e2⟩;have hb2:Below w1.heap.size w1 w2:=by rw[e2];exact bN _ _
   have k2:w2.heap[w1.heap.size]?=some (ut cl nn).box:=by rw[e2];exact at_new _ _
   have hbw2:=hb1.trans (hb2.mono hb1.size);have hz2:w1.heap.size<w2.heap.size:=lA k2;have hz1:=hb1.size;have HE:=hid (yax hE (yax hc0 hc1));clear hnew e2 hb2 hE hc0 hc1;obtain⟨sb,hsb⟩:∃sb,w1.heap.size=sb:=⟨_,rfl⟩
   rw[hsb] at k2 hz2 hz1 ⊢;clear hsb
   as_aux_lemma=>
    go_upto_region 4 with fail;go_cut [44] from 25 (fun v wk=>v=.bool false/\wk=w2)
    case first=>
     as_aux_lemma=>
      rcases HNN.out with rfl|rfl|rfl
      all_goals
       go_wp2_with fail;go_meet
       case rel=>exact⟨rfl,rfl⟩
    obtain⟨rfl,rfl⟩:=hcut
    as_aux_lemma=>
     have pe:=TD ⟨sb,0,none⟩;go_upto_region 9 with fail;generalize hg:World.alloc wc _=W3;have hz3:W3.heap.size=wc.heap.size+1:=by rw[<-hg];simp
     have HST:=hid (Qu cl nn w.heap.size sb w wc W3 k2 hz1 hbw2 hg);have HSP:Hid (sb<wc.heap.size/\w.heap.size<=sb):=hid ⟨hz2,hz1⟩;clear hg hz3 k2 hbw2 hz2 hz1 hb1;obtain⟨pb,hpb⟩:∃pb,wc.heap.size=pb:=⟨_,rfl⟩
     rw[hpb] at HST HSP ⊢;clear hpb pe
     as_aux_lemma=>
      obtain⟨M,hM⟩:∃M,pb+1=M:=⟨_,rfl⟩
      rw[hM] at HST;have HMM:=hid hM;clear hM;go_wp2_with fail;go_loopw [10] (fun i wr=>∃k:Nat,k<=n/\i=.int .i64 (k:Int)/\StC w.heap.size sb pb M cl (nn:Int) (k:Int) w wr) (fun i _=>n-(intOf i).toNat)
      case atStart=>exact⟨0,yam _,rfl,HST.out⟩
      case round=>
       as_aux_lemma=>
        clear HST;obtain⟨k,hk,rfl,hst⟩:=hrel;by_cases hkn:k<n
        ·obtain⟨b1,o1,rfl,hl1,hc1⟩:=hA.rd.some (by have:=hA.rd.le;omega);obtain⟨⟨y,yc⟩,hu⟩:∃q,l[k]?=some q:=⟨_,yac (by rw[L1.out];exact hkn)⟩
         have hbr:Below w.heap.size w wr:=by obtain⟨_,_,_,_,_,_,_,_,h,_⟩:=hst;exact h
         have hMr:M<=wr.heap.size:=by obtain⟨_,_,_,_,_,_,_,_,_,h⟩:=hst;exact h
         as_aux_lemma=>
          have hqm:=yan hu;obtain⟨c0,c1,c2,c3,c4,c5,c6,c7,c8,c9,c10,c11,c12,c13,c14,c15⟩:=Ce l k (y,yc) hu (W:=wr) (b:=b1) (o:=o1) (fun j x hj=>(hbr.cell (p:=⟨b1,o1+j,none⟩) hl1).trans (hc1 j x hj)) y rfl;have hcap:n<=cap:=hA.rd.le;have HQ:Hid (ActAt w (y,yc)/\kE y=true):=hid ⟨hA.each _ hqm,HF1.out.1 _ hqm⟩;have HS:=hid hst;have HB:=hid hbr;have i0:(0:Int)<=(k:Int):=by omega
          have i1:(k:Int)<(n:Int):=by omega
          have i2:(k:Int)<=1000:=by have:=HN.out;omega
          clear hl1 hc1 hu hbr hqm hst;go_upto_region 13 with (refine zNr rfl ?_;go_simp);generalize hg:wr.alloc _=W4;have e4:wr.alloc y.box=W4:=hg;have hb4:=bE e4
          have a4:W4.heap[wr.heap.size]?=some y.box:=aE e4
          have HS4:=hid (HS.out.later HB.out.size hb4);have HB4:=hid (HB.out.trans (hb4.mono HB.out.size));clear hg e4 hb4 c0 c1 c2 c3 c4 c5 c6 c7 c8 c9 c10 c11 c12 c13 c14 c15;obtain⟨ab,hab⟩:∃ab,wr.heap.size=ab:=⟨_,rfl⟩
          rw[hab] at a4 hMr ⊢;have HAB:=hid (yax a4 hMr);obtain⟨x0,-⟩:=lU a4;clear hab a4 hMr HS HB
          as_aux_lemma=>
           go_upto_block 2 with fail
           have HR:=hid (RdC.mk hd HNN.out (show k<30 by have:=HN.out;omega) HE.out HMM.out HSP.out HS4.out HB4.out HAB.out HQ.out);go_cut [20,21,22,23,24] from 64 to 314 (fun _ _ _ _ _ wk=>StC w.heap.size sb pb M cl (nn:Int) ((k:Int)+1) w wk)
           case first=>
            rename_i J K' h1 h2;clear x0;have hp:yh playSw w.heap.size sb pb ab M cl (nn:Int) ((k:Int)+1) w (.int .i64 y.k) W4:=by
             by_cases k1:y.k=1
             ·exact O5 HR.out k1
             by_cases k2:y.k=2
             ·exact Kv HR.out k2
             by_cases k3:y.k=3
             ·exact Jn HR.out k3
             by_cases k4:y.k=4
             ·exact J6 HR.out k4
             exact KP HR.out k1 k2 k3 k4
            have HP:=hid hp;clear hp;apply HP.out
            ·exact fun _ _ _ _ _ h=>h
            rintro x (rfl|rfl)
            ·intros;rename_i hst;refine h2 _ _ (Met.intro (h1 _ _ ?_))
             (repeat apply ycs)
             exact⟨hst,rfl⟩
            intros;rename_i hst;have HF:=hid hst;clear hst;go_wp2_with fail;go_roundw
            case rel=>exact⟨k+1,by omega,by go_num,by have h:=HF.out;rw[show (k:Int)+1=((k+1:Nat):Int) by omega] at h;exact h⟩
            case measure=>simp[intOf];omega
           case rest=>
            clear x0;have hn0:(0:Int)<(nn:Int):=by have:=HNN.out;omega
            have HC:=hid (fun t75:Value=>Ob (ab:=ab) (t75:=t75) hn0 hcut);clear hcut hn0
            go_step
            apply HC.out
            ·exact fun _ _ _ _ _ h=>h
            rintro x (rfl|rfl)
            all_goals
             intros;rename_i hst;have HF:=hid hst;clear hst;go_wp2_with fail;go_roundw
             case rel=>exact⟨k+1,by omega,by go_num,by have h:=HF.out;rw[show (k:Int)+1=((k+1:Nat):Int) by omega] at h;exact h⟩
             case measure=>simp[intOf];omega
        as_aux_lemma=>
         have hbr:Below w.heap.size w wr:=by obtain⟨_,_,_,_,_,_,_,_,h,_⟩:=hst;exact h
         clear hst;go_wp2_with fail;refine (rQ _).mono ?_;rintro e wk ⟨rfl,hbk⟩;go_wp2_with fail;go_ret;exact⟨rfl,hbr.trans (hbk.mono hbr.size)⟩
