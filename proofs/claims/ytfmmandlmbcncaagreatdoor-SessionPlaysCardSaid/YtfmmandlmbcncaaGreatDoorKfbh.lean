/-A part of the proof.-/
import Derived.Test.YtfmmandlmbcncaaGreatDoorKfbd
set_option maxHeartbeats 40000000
set_option maxRecDepth 100000
set_option linter.all false
namespace Go.Proofs.YtfmmandlmbcncaaGreatDoor
namespace Msg
open Go.RowKit Go.Lib Mem Tlv
variable{B B' cap g n sb size:Nat}{W W' w:World}{ao:Option Addr}{b:List UInt8}{c:OC}{e t:TypeId}{i0:Int}{l xs:List Value}{old:Array Value}{ov:Value}{r:RV}{u v:OV}
def rqM (r:RV):MV:=⟨1,0,0,0,0,0,r,aG,0,0,0,none,0,0,none,0,0,0,false,none,0,0⟩
def rqC (c:OC):MC:=⟨c,⟨[],[]⟩,[],[],[]⟩
def l7 (r:RV)(c:OC):List UInt8:=dL (rqM r) (rqC c)
theorem G7(m:MV)(c:MC):aH m c m c=true:=same_iff.2 ⟨rfl,fun x _=>oQ x m c⟩
theorem Gp(h:OpAt W r.op c):MAt W (rqM r) (rqC c):=
 ⟨h,(fE W 1).rs,Rd.nil _ _,(fE W 1).lg,Rd.nil _ _,show (0:Nat)<=1000000000 by decide,show (0:Nat)<=1000000000 by decide⟩
theorem Jj(h:U64R r):U64M (rqM r) (rqC c):=
 have z:(0:Int)<=0/\(0:Int)<18446744073709551616:=by decide
 ⟨z,z,z,z,z,z,z,z,h,fun _ hp=>(by cases hp),fun _ hp=>(by cases hp)⟩
theorem G5(r:RV)(c:OC):FitsM (rqM r) (rqC c):=⟨fun _=>show (0:Nat)<=4194304 by decide,fun _=>show (dM aG ⟨[],[]⟩).length<=4194304 by decide,fun _=>show (0:Nat)<=4194304 by decide⟩
theorem Lt(h:OpAt W r.op c)(hm:aA r.op c=true):bY (rqM r) (rqC c)=true/\(l7 r c).length<=8388608:=by
 have e:lettersOf (rqM r).k (rqM r).wh=[113]:=show lettersOf 1 false=[113] by decide
 have hl:(l7 r c).length<=8388608:=by
  have hlen:=(jI W r.op c h).len;have h2:=lZ hm;unfold l7 dL;rw[e];show (val 1 (au 1)++(val 7 (dG r (opL r.op c))++[])).length<=8388608;simp only[yab,ae,ai,gX,ybj];rw[h2] at hlen;omega
 refine⟨?_,hl⟩;rw[Jh (Gp h) (show (0:Nat)<=4194304 by decide) (by rw[e];decide) (by rw[e];intro x hx;rw[yah] at hx;subst hx;exact hm),e];have e1:jY [113] (rqM r)=rqM r:=rfl;have e2:nJ [113] (rqC c)=rqC c:=rfl;rw[e1,e2,G7,yaa (show (dL (rqM r) (rqC c)).length<=8388608 from hl)];rfl
structure SV where
 cl:Int
 nodes:Int
 num:Int
 un:Option Addr
 vi:Int
 la:Int
 told:Option Addr
 dr:Int
def SV.cells (s:SV):Array Value:=#[.int .u64 s.cl,.int .i64 s.nodes,.int .u64 s.num,.pointer s.un,.int .u64 s.vi,.int .u64 s.la,.pointer s.told,.int .i64 s.dr]
def SV.box (s:SV):Obj:=.cells s.cells 98
theorem dD{s:SV}(h:W.heap[B]?=some s.box):W.cell? ⟨B,0,none⟩=some (.int .u64 s.cl)/\W.cell? ⟨B,1,none⟩=some (.int .i64 s.nodes)/\W.cell? ⟨B,2,none⟩=some (.int .u64 s.num)/\W.cell? ⟨B,3,none⟩=some (.pointer s.un)/\W.cell? ⟨B,4,none⟩=some (.int .u64 s.vi)/\W.cell? ⟨B,5,none⟩=some (.int .u64 s.la)/\W.cell? ⟨B,6,none⟩=some (.pointer s.told)/\W.cell? ⟨B,7,none⟩=some (.int .i64 s.dr)/\∀i,W.frozen? ⟨B,i,none⟩=false:=by
 unfold SV.box SV.cells at h;simp[World.cell?,World.frozen?,h]
def lN (i0:Int):List Value->List Value
 | []=>[]
 | v::l=>.int .i64 i0::.int .u64 0::v::lN (i0+1) l
theorem Bc(v:Value):∀(l:List Value) (i0:Int),lN i0 (l++[v])=lN i0 l++[.int .i64 (i0+l.length),.int .u64 0,v]
 | [],i0=>by simp[lN]
 | u::l,i0=>by
  have:=Bc v l (i0+1);simp only[ybE,lN,this,yaF];rw[show i0+1+(l.length:Int)=i0+((l.length+1:Nat):Int) by omega]
theorem KJ{v:Value}{row:Option Nat}(h:W.ownsRow B e size v n xs)(hg:W.grownBy W' row)(hne:∀k,v.ownBlock=some k->some k≠row):W'.ownsRow B e size v n xs:=by
 obtain⟨h1,h2⟩:=h;refine⟨h1,?_⟩;rcases h2 with h2 | ⟨g,cap,cur,hv,hbg,hgg,rest⟩
 ·exact .inl h2
 refine .inr ⟨g,cap,cur,hv,hbg,(hg.block g (lA hgg) (hne g (by rw[hv];rfl))).trans hgg,rest⟩
theorem Qn{n' size':Nat}{e':TypeId}{v v':Value}{xs':List Value}(h:W.ownsRow B e size v n xs)(h':W.ownsRow B' e' size' v' n' xs')(he:e≠e'):∀k,v.ownBlock=some k->some k≠v'.ownBlock:=by
 intro k hk hk';rcases h.2 with ⟨rfl,-⟩ | ⟨g,cap,cur,rfl,-,hg,-⟩
 ·cases hk
 have e1:g=k:=by simpa [Value.ownBlock] using hk
 subst e1;exact zY hg (fun c fr hc=>he (by cases hc;rfl)) h' hk'.symm
theorem Tz:SliceT Tryz.prog 44 109 (.agg #[.int .i64 0,.int .u64 0,.slice none 0 0]) 3 40:=⟨Tryz.underlying44,by kernel_rfl,rfl,by decide⟩
structure ToAt (B:Nat)(i0:Int)(b:List UInt8)(l:List Value)(ov:Value)(W:World):Prop where
 row:W.ownsRow B 109 3 ov l.length (lN i0 l)
 each:∀v∈l,W.ownsRow B 5 1 v b.length (byV b)
def FT (i0:Int)(k:Nat)(b:List UInt8)(w:World)(e:Ending)(w':World):Prop:=∃l ov,e=.returned ov/\l.length=k/\ToAt w.heap.size i0 b l ov w'/\Below w.heap.size w w'
theorem ToAt.later(h:ToAt B i0 b l ov W)(hb:Below W.heap.size W W'):ToAt B i0 b l ov W':=
 ⟨ag h.row hb,fun v hv=>ag (h.each v hv) hb⟩
theorem sF{w':World}(h:Rd w size ao n cap xs)(hz:w.heap.size<=w'.heap.size)(hb:∀a,ao=some a->w'.heap[a.block]?=w.heap[a.block]?):Rd w' size ao n cap xs:=by
 obtain⟨h1,h2,h3,h4,h5⟩:=h;refine⟨h1,h2,h3,h4,fun h0 a ha=>?_⟩;obtain⟨s,l,c⟩:=h5 h0 a ha;exact⟨s,yaz l hz,fun j u hu=>(yaK (a:=⟨a.block,a.off+j,none⟩) (hb a ha)).trans (c j u hu)⟩
theorem ToAt.mono(h:ToAt B i0 b l ov W)(hB:B'<=B):ToAt B' i0 b l ov W:=
 ⟨lV h.row hB,fun v hv=>lV (h.each v hv) hB⟩
structure ToGoes (B:Nat)(w:World)(i0:Int)(b:List UInt8)(bo:Option Addr)(bc:Nat)(l:List Value)(ov:Value)(W:World):Prop where
 at_:ToAt B i0 b l ov W
 rd:Rd W 1 bo b.length bc (byV b)
 bel:Below w.heap.size w W
 le:B<=W.heap.size
 old:0<bc->∀a,bo=some a->a.block<B
 low:w.heap.size<=B
theorem TQ(k:Int)(ao:Option Addr)(n cap:Nat):∀u∈([.int .i64 k,.int .u64 0,.slice ao n cap]:List Value),u.oneCell'=true:=by
 intro u hu;simp only[yas,yal,or_false] at hu;rcases hu with rfl|rfl|rfl<;>rfl
theorem ToGoes.step{bo:Option Addr}{bc:Nat}{w2 w3:World}{ao1 ao2:Option Addr}{cap1 cap2:Nat}(h:ToGoes B w i0 b bo bc l ov W)
  (ho1:w2.ownsRow W.heap.size 5 1 (.slice ao1 b.length cap1) b.length (byV b)) (hb2:Below W.heap.size W w2)
  (ho2:w3.ownsRow B 109 3 (.slice ao2 (l.length+1) cap2) (l.length+1) (lN i0 l++[.int .i64 (i0+(l.length:Int)),.int .u64 0,.slice ao1 b.length cap1]))
  (hg2:(w2.alloc (.cells #[.int .i64 (i0+(l.length:Int)),.int .u64 0,.slice ao1 b.length cap1] 109)).grownBy w3 ov.ownBlock) (hb3:Below B w2 w3) :
  ToGoes B w i0 b bo bc (l++[.slice ao1 b.length cap1]) (.slice ao2 (l.length+1) cap2) w3:=by
 have hA2:=h.at_.later hb2;have hk:∀v,w2.ownsRow B 5 1 v b.length (byV b)->w3.ownsRow B 5 1 v b.length (byV b):=fun v hv=>
  KJ (hv.alloc _) hg2 (Qn hv hA2.row (by decide))
 refine⟨⟨by rw[yab,Bc];exact ho2,fun v hv=>?_⟩,(h.rd.later hb2).below hb3 h.old,(h.bel.trans (hb2.mono h.bel.size)).trans (hb3.mono h.low),yae (yae h.le hb2.size) hb3.size,h.old,h.low⟩;rcases yaQ.1 hv with hv | hv
 ·exact hk _ (hA2.each v hv)
 rw[yah] at hv;subst hv;exact hk _ (lV ho1 h.le)
theorem GV(S:SV)(sb rb:Nat)(r:RV)(c:OC)(i0:Int)(k:Nat)(w:World)(hs:w.heap[sb]?=some S.box)(hu:S.un=some ⟨rb,0,none⟩)(hr:w.heap[rb]?=some r.box)(ho:OpAt w r.op c)(hm:aA r.op c=true)(hu64:U64R r)
  (h0:0<=i0) (h7:i0<=1000) (hk:k<=1000):Calls Tryz.prog 45 #[.pointer (some ⟨sb,0,none⟩),.int .i64 i0,.int .i64 (i0+(k:Int))] w (FT i0 k (l7 r c) w):=by
 obtain⟨-,-,-,c3,-⟩:=dD hs;rw[hu] at c3;have hq:=hr;unfold RV.box RV.cells at hq;have hbytes:=wJ (rqM r) (rqC c) w (Gp ho) (Jj hu64) (G5 r c);have hyes:=hid (Lt ho hm);have hl2:=hyes.out.2;unfold rqM MV.val MV.cells at hbytes;dsimp only at hbytes;clear hu hs hr;go_in;go_wp2_with (refine zLr rfl hq ?_;go_simp);refine hbytes.mono ?_;rintro e w1 ⟨lb,bo,bc,ex,rfl,hb,hb1,hfr,hy1,-⟩;obtain⟨hy2,rfl⟩:=hy1 hyes.out.1;change lb=l7 r c at hy2;subst hy2;clear hy1;have hG:ToGoes w1.heap.size w i0 (l7 r c) bo bc [] (.slice none 0 0) w1:=⟨⟨yaC _ _ _ _,fun v hv=>(by cases hv)⟩,hb,hb1,yag _,hb.lt,hb1.size⟩
 clear hbytes hq c3 hb hb1 hfr;generalize l7 r c=b at *;generalize w1.heap.size=B at *;have K:=hid hk;clear hk;go_wp2_with fail;go_loopw [6,9] (fun o i wr=>∃l,ToGoes B w i0 b bo bc l o wr/\i=.int .i64 (i0+(l.length:Int))/\l.length<=k) (fun _ i _=>(i0+k-intOf i).toNat)
 case atStart=>exact⟨[],hG,by simp,yam _⟩
 case round=>
  obtain⟨l,hB,rfl,hlk⟩:=hrel;have hw:IntKind.wrap .i64 (i0+(l.length:Int)+1)=i0+(l.length:Int)+1:=by have:=K.out;rw[yaP];omega
  by_cases hend:l.length=k
  ·have hd:decide (i0+(l.length:Int)<i0+(k:Int))=false:=yad (by omega);go_wp2_with fail;go_ret;exact⟨l,_,rfl,hend,hB.at_.mono hB.low,hB.bel⟩
  have hd:decide (i0+(l.length:Int)<i0+(k:Int))=true:=yaa (by omega);have hN:l.length+1<=10000000000:=by have:=K.out;omega
  have ho0:wr.ownsRow wr.heap.size 5 1 (.slice none 0 0) 0 (byV []):=yaC _ _ _ _;go_wp2_with (first | (at_builtin;refine dZ _ rfl (.const (.slice none 0 0)) (.tmp 31) 34 rfl wr.heap.size 5 (.int .u8 0) 1 1 byT _ 0 (byV []) rfl ho0 bo b.length bc (byV b) rfl hB.rd (bM _) (by unfold maxLen;omega) (by omega) (yag _) ?_;rw[ybL];intro ao1 cap1 w2 ho1 hg1 hb2 _;have hX:=ag hB.at_.row hb2;have hz2:=yae hB.le hb2.size) | (at_builtin;refine fM _ rfl (.tmp 29) (.tmp 34) 44 rfl B 109 (.agg #[.int .i64 0,.int .u64 0,.slice none 0 0]) 3 40 Tz (by decide) _ _ _ rfl hX 1 [.int .i64 (i0+(l.length:Int)),.int .u64 0,.slice ao1 b.length cap1] rfl rfl (TQ _ _ _ _) hz2 hN ?_;intro ao2 cap2 w3 ho2 hg2 hb3 _));go_roundw
  case rel=>exact⟨l++[.slice ao1 b.length cap1],hB.step ho1 hb2 ho2 hg2 hb3,by simp;omega,by simp;omega⟩
  case measure=>have:=K.out;simp[intOf];omega
def ut (cl n:Int):SV:=⟨cl,n,0,none,0,0,none,0⟩
def wB (cl n:Int)(w:World)(e:Ending)(w':World):Prop:=
 if n=3\/n=5\/n=7 then e=.returned (.tuple #[.pointer (some ⟨w.heap.size,0,none⟩),.int .i64 0])/\w'=w.alloc (ut cl n).box
 else e=.returned (.tuple #[.pointer none,.int .i64 2])/\w'=w
theorem new_any(cl n:Int)(w:World):Calls Tryz.prog 10 #[.int .u64 cl,.int .i64 n] w (wB cl n w):=by
 go_in;by_cases h:n=3\/n=5\/n=7
 ·rcases h with rfl|rfl|rfl
  all_goals
   go_wp2_with fail;go_ret2;unfold wB;rw[if_pos (by decide)];exact⟨rfl,rfl⟩
 have f3:(n==3)=false:=by simp;omega
 have f5:(n==5)=false:=by simp;omega
 have f7:(n==7)=false:=by simp;omega
 have H:=hid h;clear h;go_wp2_with fail;go_ret2;unfold wB;rw[if_neg H.out];exact⟨rfl,rfl⟩
def Fz (b:Bool)(w:World)(e:Ending)(w':World):Prop:=e=.returned (.bool b)/\w'=w
theorem jU(S:SV)(sb:Nat)(w:World)(h:w.heap[sb]?=some S.box):Calls Tryz.prog 43 #[.pointer (some ⟨sb,0,none⟩)] w (Fz (decide (0<S.nodes)) w):=by
 have hpe:∀(w:World),Sem.run Tryz.prog (binOp BinOp.neq 26 (.pointer (some ⟨sb,0,none⟩)) (.pointer none)) w=.ok (.bool true) w:=fun _=>by kernel_rfl
 obtain⟨-,c1,-⟩:=dD h;go_in;go_wp2_with fail;go_ret;exact⟨rfl,rfl⟩
theorem nU{P:Program}{ops:Array Oper}{o:Oper}{a:Act}{K:Act->World->Prop}{Q:Exit->Act->World->Prop}{E:Prop}{ty:TypeId}{p v:Operand}{cells:Array Value}
  (hgd:o.guard=none) (hop:o.op=.store ty p v) (hg:w.heap[g]?=some (.cells old t (0,0))) (hp:a.eval p=.pointer (some ⟨g,0,none⟩)) (hv:a.eval v=.agg cells) (hi:(P.info? ty).map (·.size)=some cells.size)
  (ho:old.size=cells.size) (h1:cells.all (·.oneCell')=true) (hn:K (a.put o.dst undef) (w.setRow g cells)) :
  if Region.wanted o (yielded ops a.tmps)=true then Oper.wp P o a w K Q else E:=by
 have hw:Region.wanted o (yielded ops a.tmps)=true:=by simp[Region.wanted,hgd]
 rw[if_pos hw];have hl:(Instr.storeAt ty (.pointer (some ⟨g,0,none⟩)) (.agg cells)).run P w=.ok () (w.setRow g cells):=by
  simp only[Instr.storeAt,Instr.sureAddr,yaY,ybp,Result.andThen];exact run_storeVar_row w g t ty old cells hg hi ho h1
 have:(execOp a.eval o).run P w=.ok .skip (w.setRow g cells):=by
  unfold execOp;rw[hop];simp only[hp,hv,yaY,hl,Result.andThen,ybp]
 unfold Oper.wp;rw[this];exact hn
theorem uw(h:CopyOf w v u):aA u c=aA v c/\vT u c=vT v c:=by
 obtain⟨e1,e2,e3,e4,e5,e6,e7,-,-,-,-,-,-⟩:=h;obtain⟨k,nm,tt,ao,an,ac,bo,bn,bc,co,cn,cc,n⟩:=v;obtain⟨k',nm',tt',ao',an',ac',bo',bn',bc',co',cn',cc',n'⟩:=u;dsimp only at e1 e2 e3 e4 e5 e6 e7;subst e1 e2 e3 e4 e5 e6 e7;exact⟨rfl,rfl⟩
def xG (code:Int)(w:World)(e:Ending)(w':World):Prop:=e=.returned (.tuple #[.int .u64 0,.slice none 0 0,.int .i64 code])/\Below w.heap.size w w'
theorem Tn(a:Addr)(w:World):Sem.run Tryz.prog (binOp BinOp.neq 95 (.pointer (some a)) (.pointer none)) w=.ok (.bool true) w:=by kernel_rfl
theorem Tj(w:World):Sem.run Tryz.prog (binOp BinOp.neq 95 (.pointer none) (.pointer none)) w=.ok (.bool false) w:=by kernel_rfl
theorem Ai(v:OV)(c:OC)(S:SV)(sb:Nat)(w:World)(hs:w.heap[sb]?=some S.box)(ho:OpAt w v c)(hn:0<S.nodes) :
  ∃W0,W0=w.alloc v.box/\Below w.heap.size w W0/\W0.heap[w.heap.size]?=some v.box/\W0.heap[sb]?=some S.box/\OpAt W0 v c/\Calls Tryz.prog 43 #[.pointer (some ⟨sb,0,none⟩)] W0 (Fz true W0):=by
 have hb0:=bN w v.box;have h2:=hb0.q hs;have hth:=jU S sb _ h2;rw[yaa hn] at hth;exact⟨_,rfl,hb0,aN _ _,h2,ho.later hb0,hth⟩
theorem Qh(v:OV)(c:OC)(S:SV)(sb:Nat)(w:World)(hs:w.heap[sb]?=some S.box)(ho:OpAt w v c)(hn:0<S.nodes)(hm:aA v c=false):Calls Tryz.prog 11 #[.pointer (some ⟨sb,0,none⟩),v.val] w (xG 2 w):=by
 obtain⟨W0,e0,hb0,k0,k1,ho0,hth⟩:=Ai v c S sb w hs ho hn;clear hs ho hn k1;unfold OV.box at e0;unfold OV.val;go_in;go_upto_region 1 with fail;rw[<-e0];clear e0;go_wp2_with fail;refine hth.mono ?_;rintro e w1 ⟨rfl,rfl⟩;clear hth;obtain⟨c0,c1,c2,c3,c4,c5,c6,-⟩:=aC k0;have hmay:=(jI w1 v c ho0).may w1 ho0;rw[hm] at hmay;unfold OV.val at hmay;go_wp2_with fail;refine hmay.mono ?_;rintro e w2 ⟨rfl,hb2⟩;clear c0 c1 c2 c3 c4 c5 c6 hmay;go_wp2_with fail
 go_ret3
 exact⟨rfl,hb0.trans (hb2.mono hb0.size)⟩
theorem Bi(v:OV)(c:OC)(S:SV)(sb:Nat)(x:Addr)(w:World)(hs:w.heap[sb]?=some S.box)(ho:OpAt w v c)(hn:0<S.nodes)(hm:aA v c=true)(hu:S.un=some x):Calls Tryz.prog 11 #[.pointer (some ⟨sb,0,none⟩),v.val] w (xG 12 w):=by
 obtain⟨W0,e0,hb0,k0,k1,ho0,hth⟩:=Ai v c S sb w hs ho hn;have hpe:=Tn x;clear hs ho hn;unfold OV.box at e0;unfold OV.val;go_in;go_upto_region 1 with fail;rw[<-e0];clear e0;go_wp2_with fail;refine hth.mono ?_;rintro e w1 ⟨rfl,rfl⟩;clear hth;obtain⟨c0,c1,c2,c3,c4,c5,c6,-⟩:=aC k0;have hmay:=(jI w1 v c ho0).may w1 ho0;rw[hm] at hmay;unfold OV.val at hmay;go_wp2_with fail;refine hmay.mono ?_;rintro e w2 ⟨rfl,hb2⟩;clear c0 c1 c2 c3 c4 c5 c6 hmay;obtain⟨-,-,-,d3,-⟩:=dD ((hb2.q k1));rw[hu] at d3;clear hu;go_wp2_with fail
 go_ret3
 exact⟨rfl,hb0.trans (hb2.mono hb0.size)⟩
def Nl (B sb:Nat)(S:SV)(v:OV)(c:OC)(w:World)(e:Ending)(w':World):Prop:=
 ∃(rb:Nat) (u:OV) (l:List Value) (ov:Value),e=.returned (.tuple #[.int .u64 (S.num+1),ov,.int .i64 0])/\l.length=1/\w'.heap[sb]?=some (SV.box ⟨S.cl,S.nodes,S.num+1,some ⟨rb,0,none⟩,S.vi,S.la,S.told,S.dr⟩) /\
  w'.heap[rb]?=some (RV.box ⟨S.cl,S.num+1,u⟩)/\CopyOf w v u/\OpAt w' u c/\ToAt w.heap.size (S.vi % S.nodes) (l7 ⟨S.cl,S.num+1,u⟩ c) l ov w'/\Oth B sb w w'/\w.heap.size<=rb
def InAsk (sb xb:Nat)(S:SV)(v:OV)(W:World):Prop:=W.heap[sb]?=some S.box/\W.heap[xb]?=some v.box
theorem InAsk.step{xb:Nat}{S:SV}(h:InAsk sb xb S v W)(hb:Below W.heap.size W W'):InAsk sb xb S v W':=
 ⟨(hb.q h.1),(hb.q h.2)⟩
theorem CopyOf.back(h:CopyOf W v u)(hb:w.heap.size<=W.heap.size):CopyOf w v u:=h.low hb
theorem Bf{cells:Array Value}(h:W.heap[g]?=some (.cells old t (0,0))):(W.setRow g cells).heap[g]?=some (.cells cells t (0,0)):=setRow_heap W g old cells t _ h
theorem Oth.set2{b rb:Nat}(h:Oth B b w W)(hB:B<=rb)(hr:w.heap.size<=rb)(cells:Array Value):Oth B b w (W.setRow rb cells):=
 ⟨below_setRow h.bel hB cells,fun k hk hne=>(yba _ _ _ _ (by omega)).trans (h.oth k hk hne)⟩
theorem QJ(h:OpAt W u c)(hz:W.heap.size<=W'.heap.size)(g:Nat)(hk:∀k,k≠g->W'.heap[k]?=W.heap[k]?)(fa:∀a,u.ao=some a->a.block≠g)(fb:∀a,u.bo=some a->a.block≠g)(fc:∀a,u.co=some a->a.block≠g):OpAt W' u c:=
 ⟨sF h.a hz fun a ha=>hk _ (fa a ha),sF h.b hz fun a ha=>hk _ (fb a ha),sF h.c hz fun a ha=>hk _ (fc a ha),h.la,h.lb,h.lc⟩
theorem Bd{cells:Array Value}(h:OpAt W u c)(fa:∀a,u.ao=some a->a.block≠g)(fb:∀a,u.bo=some a->a.block≠g)(fc:∀a,u.co=some a->a.block≠g):OpAt (W.setRow g cells) u c:=
 QJ h (by simp[World.setRow]) g (fun k hk=>yba _ _ _ _ hk) fa fb fc
def FH:Value->Bool
 | .string _=>true
 | .int .u8 _=>true
 | .slice _ _ _=>true
 | _=>false
theorem Jo{i:Nat}{S:SV}{u:Value}(h:W.heap[sb]?=some S.box)(hc:W.cell? ⟨sb,i,none⟩=some u):FH u=false:=by
 unfold SV.box SV.cells at h;simp only[World.cell?,h] at hc
 match i,hc with
 | 0,hc=>cases hc;rfl
 | 1,hc=>cases hc;rfl
 | 2,hc=>cases hc;rfl
 | 3,hc=>cases hc;rfl
 | 4,hc=>cases hc;rfl
 | 5,hc=>cases hc;rfl
 | 6,hc=>cases hc;rfl
 | 7,hc=>cases hc;rfl
 | n+8,hc=>simp at hc
theorem pg{S:SV}(h:Rd W size ao n cap xs)(hs:W.heap[sb]?=some S.box)(ho:Oth B sb W W')(hx:∀u∈xs,FH u=true):Rd W' size ao n cap xs:=by
 obtain⟨h1,h2,h3,h4,h5⟩:=h;refine⟨h1,h2,h3,h4,fun h0 a ha=>?_⟩;obtain⟨s,l,c⟩:=h5 h0 a ha;refine⟨s,yaz l ho.bel.size,fun j u hu=>?_⟩;have hc:=c j u hu;by_cases hb:a.block=sb
 ·rw[hb] at hc;have:=Jo hs hc;rw[hx u (yan hu)] at this;cases this
 exact (yaK (a:=⟨a.block,a.off+j,none⟩) (ho.oth _ l hb)).trans hc
theorem OpAt.sess{S:SV}(h:OpAt W v c)(hs:W.heap[sb]?=some S.box)(ho:Oth B sb W W'):OpAt W' v c:=by
 refine⟨pg h.a hs ho ?_,pg h.b hs ho ?_,pg h.c hs ho ?_,h.la,h.lb,h.lc⟩
 ·intro u hu;simp only[atV,List.mem_flatMap,yas,yal,or_false] at hu;obtain⟨x,-,rfl|rfl⟩:=hu<;>rfl
 ·intro u hu;simp only[txV,ybM] at hu;obtain⟨x,-,rfl⟩:=hu;rfl
 intro u hu;simp only[byV,ybM] at hu;obtain⟨x,-,rfl⟩:=hu;rfl
theorem KZ(B sb:Nat)(S:SV)(v:OV)(c:OC)(w:World)(hs:w.heap[sb]?=some S.box)(hB:B<=sb)(ho:OpAt w v c)(hm:aA v c=true)(hu:S.un=none)(hn:0<S.nodes)(hn7:S.nodes<=7)(hc0:0<=S.cl)(hc1:S.cl<18446744073709551616)(hm0:0<=S.num)(hm1:S.num<4611686018427387904)(hv0:0<=S.vi)(hv1:S.vi<18446744073709551616) :
  Calls Tryz.prog 11 #[.pointer (some ⟨sb,0,none⟩),v.val] w (Nl B sb S v c w):=by
 have hmo:=hmO
 obtain⟨W0,e0,hb0,k0,k1,ho0,hth⟩:=Ai v c S sb w hs ho hn;have hlt:sb<w.heap.size:=lA hs;have hBw:B<=w.heap.size:=by omega
 have hO0:Oth B sb w W0:=(Oth.refl B sb w).later hBw hb0;have hpe:=Tj;have hd62:decide ((4611686018427387904:Int)<=S.num)=false:=yad (by omega);have hw1:IntKind.wrap .u64 (S.num+1)=S.num+1:=by rw[ybi];omega
 clear hs ho;unfold OV.box at e0;unfold OV.val;go_in;go_upto_region 1 with fail;rw[<-e0];clear e0;go_wp2_with fail;refine hth.mono ?_;rintro e w1 ⟨rfl,rfl⟩;clear hth;obtain⟨c0,c1,c2,c3,c4,c5,c6,-⟩:=aC k0;have hmay:=(jI w1 v c ho0).may w1 ho0;rw[hm] at hmay;unfold OV.val at hmay;go_wp2_with fail;refine hmay.mono ?_;rintro e w2 ⟨rfl,hb2⟩;clear c0 c1 c2 c3 c4 c5 c6 hmay;have hO2:=hO0.later (yae hBw hb0.size) hb2;have k2:=hb2.q k1;have q2:=hb2.q k0;have ho2:=ho0.later hb2;have hz2:w.heap.size<=w2.heap.size:=yae hb0.size hb2.size;obtain⟨-,-,d2,d3,-,-,-,-,d8⟩:=dD k2;rw[hu] at d3;clear k0 k1 ho0 hb0 hb2 hO0;go_upto_region 10 with fail;generalize hg:w2.setCell _ _=W3;obtain⟨S1,hS1⟩:∃S1:SV,S1=⟨S.cl,S.nodes,S.num+1,none,S.vi,S.la,S.told,S.dr⟩:=⟨_,rfl⟩
 have k3:W3.heap[sb]?=some S1.box:=by
  rw[<-hg,hS1];unfold SV.box SV.cells at k2 ⊢;rw[hu] at k2;exact at_set k2
 have q3:W3.heap[w.heap.size]?=some v.box:=by rw[<-hg];exact ah q2 (by omega)
 have hO3:Oth B sb w W3:=by rw[<-hg];exact hO2.set hB _ _
 have ho3:OpAt W3 v c:=by
  rw[<-hg];exact ho2.sess k2 ((Oth.refl B sb w2).set hB 2 _)
 have hz3:w.heap.size<=W3.heap.size:=by rw[<-hg];simpa using hz2
 have HS1:=hid hS1;have hr0:∀u,U64R ⟨S1.cl,S1.num,u⟩:=fun u=>by rw[hS1];exact⟨hc0,hc1,by show 0<=S.num+1;omega,by show S.num+1<18446744073709551616;omega⟩
 have s0:InAsk sb w.heap.size S1 v W3.drew:=⟨k3,q3⟩
 have hoD:OpAt W3.drew v c:=ho3.later (yaj _ _).drew;have hO4:Oth B sb w W3.drew:=hO3.later (yae hBw hz3) (yaj _ _).drew;have hzd:W3.drew.heap.size=W3.heap.size:=rfl;clear hS1 hg k3 q3 hO3 ho3 d2 d3 d8 hO2 k2 q2 ho2 hd62;refine dN (k:=12) (S:=InAsk sb w.heap.size S1 v) hmo ?_;change bV _ _ _ _ _ _ _ _ _ (World.drew _);have zf0 w0 (h:InAsk sb w.heap.size S1 v w0):=dD h.1;have zf1 w0 (h:InAsk sb w.heap.size S1 v w0):=aC h.2;refine ztp 0 (pp sb 0) rfl (ztp 1 (pp sb 0) rfl (ztp 2 (pp sb 0) rfl ?_));go_simp;refine ztv 3 (.int .u64 S1.cl) rfl ?_;go_simp;refine ztp 4 (pp sb 0) rfl (ztp 5 (pp sb 0) rfl (ztp 6 (pp sb 2) rfl ?_));go_simp;refine ztv 7 (.int .u64 S1.num) rfl ?_;go_simp;refine ztv 8 (.agg #[.int .i64 v.k,.string v.name,.string v.to,.slice v.ao v.an v.ac,.slice v.bo v.bn v.bc,.slice v.co v.cn v.cc,.int .i64 v.n]) rfl ?_;go_simp;refine ztv 9 (.agg #[.int .u64 S1.cl,.int .u64 S1.num,.int .i64 v.k,.string v.name,.string v.to,.slice v.ao v.an v.ac,.slice v.bo v.bn v.bc,.slice v.co v.cn v.cc,.int .i64 v.n]) rfl ?_;go_simp;refine yJ (rs:=[10,11]) (by kernel_rfl) (by simp) (fun j hj=>?_);simp only[yas,yal,or_false] at hj;rcases hj with rfl|rfl
 ·refine ybZ rfl (fun K hK=>?_);go_simp;have hc:=rF ⟨S1.cl,S1.num,v⟩ c _ hoD;unfold RV.val RV.cells at hc;dsimp only at hc;refine hc.mono ?_;rintro e WA ⟨u,rfl,hC,hu1,hbA⟩;have sA:=s0.step hbA;have oA:=hO4.later (by omega) hbA;have hfr:=hC.back (w:=w) (by omega);clear hc hC;go_simp;refine hK _ _ ⟨.inr sA,?_⟩;clear hK K;refine zT1 11 rfl (fun K hK=>?_);go_simp;generalize hg:World.alloc _ _=WB;have hbB:=bE hg
  have hrb:WB.heap[WA.heap.size]?=some bG.box:=aE hg
  have hzA:=hbA.size;clear hg;have sB:=sA.step hbB;have oB:=oA.later (by omega) hbB;refine hK _ _ ⟨.inr sB,?_⟩;clear hK K;refine nM (by kernel_rfl) (by kernel_rfl) ?_;refine zA1 12 rfl (fun K hK=>?_);refine nU rfl rfl hrb rfl rfl (by kernel_rfl) rfl (by kernel_rfl) ?_;refine hK _ _ ?_;clear hK K;refine yby (by kernel_rfl) ?_ _;generalize hg:World.setRow WB _ _=W5;have p1:W5.heap[WA.heap.size]?=some (RV.box ⟨S1.cl,S1.num,u⟩):=by rw[<-hg];exact Bf hrb
  have p2:W5.heap[sb]?=some S1.box:=by rw[<-hg];exact (yba _ _ _ _ (by omega)).trans sB.1
  have p4:Oth B sb w W5:=by rw[<-hg];exact oB.set2 (by omega) (by omega) _
  have hrbw:w.heap.size<=WA.heap.size:=by omega
  have p3:OpAt W5 u c:=by rw[<-hg];exact hu1.later (below_setRow hbB (yag _) _)
  clear hg sA sB oA oB hrb hbB hzA hu1 hbA hzd s0 hoD hO4 hz3;generalize WA.heap.size=rb at *;obtain⟨-,-,-,d3,-,-,-,-,d8⟩:=dD p2;go_upto_region 12 with fail;generalize hg:W5.setCell _ _=W6;obtain⟨S2,hS2⟩:∃S2:SV,S2=⟨S1.cl,S1.nodes,S1.num,some ⟨rb,0,none⟩,S1.vi,S1.la,S1.told,S1.dr⟩:=⟨_,rfl⟩
  have q2:W6.heap[sb]?=some S2.box:=by
   rw[<-hg,hS2];unfold SV.box SV.cells at p2 ⊢;exact at_set p2
  have q1:W6.heap[rb]?=some (RV.box ⟨S1.cl,S1.num,u⟩):=by rw[<-hg];exact ah p1 (by omega)
  have q4:Oth B sb w W6:=by rw[<-hg];exact p4.set hB _ _
  have q4x:W5.heap.size<=W6.heap.size:=by rw[<-hg];simp
  have hz5:=p4.bel.size;have q3:OpAt W6 u c:=p3.sess p2 (by rw[<-hg];exact (Oth.refl B sb W5).set hB 3 _);have HS2:=hid hS2;clear hg hS2 p1 p2 p3 p4 d3 d8;obtain⟨-,e1,e2,-,e4,-,-,-,-⟩:=dD q2;have hn2:S2.nodes=S.nodes:=by rw[HS2.out,HS1.out]
  have hv2:S2.vi=S.vi:=by rw[HS2.out,HS1.out]
  have hp0:0<=S2.vi % S2.nodes:=Int.emod_nonneg _ (by omega);have hp7:S2.vi % S2.nodes<7:=Int.lt_of_lt_of_le (Int.emod_lt_of_pos _ (by omega)) (by omega);have hwn:IntKind.wrap .u64 S2.nodes=S2.nodes:=by rw[ybi];omega
  have hnz:¬S2.nodes=0:=by omega
  have hrem:S2.vi.tmod S2.nodes=S2.vi % S2.nodes:=ybW (by omega);have hwp:IntKind.wrap .i64 (S2.vi % S2.nodes)=S2.vi % S2.nodes:=by rw[yaP];omega
  have hwq:IntKind.wrap .i64 (S2.vi % S2.nodes+1)=S2.vi % S2.nodes+1:=by rw[yaP];omega
  have H:=hid (yax hn2 hv2);clear hn2 hv2
  go_quiet (fail)
  have hz3x:w.heap.size<=W6.heap.size:=yae (by omega) q4x;generalize hpe:S2.vi % S2.nodes=p at *;clear hrem hnz hwn hwp e1 e2 e4;go_upto_region 13 with fail;refine yaB (S:=fun W=>W.heap[sb]?=some S2.box) hmo ?_;change wpAnyH _ _ _ _ _ _ _ _ (World.drew _);have hb7:Below W6.heap.size W6 (W6.drewN nq).drew:=(below_drewN (yaj _ _) nq).drew;generalize World.drew _=W7 at *;have m1:=hb7.q q1;have m2:=hb7.q q2;have m3:=q3.later hb7;have m4:=q4.later (by omega) hb7;have hwz7:=hb7.size;clear q1 q2 q3 q4 hb7;have zf0 (w0:World) (h:w0.heap[sb]?=some S2.box):=dD h;refine zp 0 (pp sb 0) rfl (zp 1 (pp sb 0) rfl (zp 2 (pp sb 2) rfl ?_));go_simp;refine zv 3 (.int .u64 S2.num) rfl ?_;go_simp;refine zp 4 (pp sb 0) rfl (zp 5 (.int .i64 p) rfl (zp 6 (.int .i64 p) rfl ?_));go_simp;refine zv 7 (.int .i64 (p+1)) rfl ?_;go_simp;have hto:=GV S2 sb rb ⟨S1.cl,S1.num,u⟩ c p 1 W7 m2 (by rw[HS2.out]) m1 m3 (by rw[(uw hfr).1];exact hm) (hr0 _) hp0 (by omega) (by omega);rw[show ((1:Nat):Int)=1 from rfl] at hto;refine zC 8 rfl hto ?_;rintro e W8 ⟨l,ov,rfl,hl,hta,hb8⟩;have m28:=hb8.q m2;clear hto;refine⟨m28,?_⟩;go_simp;refine zp 9 (.int .u64 S2.num) rfl (zp 10 (ov) rfl (zp 11 (.int .i64 0) rfl ?_));go_simp;refine zd ?_;go_wp2_with fail
  go_ret3
  have e1:=HS1.out;have e2:=HS2.out;have hwz:=m4.bel.size;have hz7:w.heap.size<=W7.heap.size:=yae hz3x hwz7;refine⟨rb,u,l,ov,?_,hl,?_,?_,hfr,m3.later hb8,?_,m4.later (by omega) hb8,hrbw⟩
  ·show Ending.returned (.tuple #[.int .u64 S2.num,ov,.int .i64 0])=_;rw[e2,e1]
  ·rw[m28,e2,e1]
  ·rw[(hb8.q m1),e1]
  have:=hta.mono hz7;rw[<-hpe,H.out.1,H.out.2,e1] at this;exact this
 refine ybZ rfl (fun K hK=>?_);go_simp;generalize hg:World.drew (World.alloc _ _)=WB;have hbB:Below W3.drew.heap.size W3.drew WB:=by rw[<-hg];exact (show Below W3.drew.heap.size W3.drew (W3.drew.alloc bG.box) from bN _ _)
 have hrb0:WB.heap[W3.heap.size]?=some bG.box:=by rw[<-hg];show (W3.heap.push _)[W3.heap.size]?=some _;exact ybH
 have hzB:WB.heap.size=W3.heap.size+1:=by rw[<-hg];simp
 clear hg;have sB:=s0.step hbB;have oB:=hO4.later (by omega) hbB;have hoB:=hoD.later hbB;refine hK _ _ ⟨.inr sB,?_⟩;clear hK K;refine zT1 10 rfl (fun K hK=>?_);go_simp;have hc:=rF ⟨S1.cl,S1.num,v⟩ c _ hoB;unfold RV.val RV.cells at hc;dsimp only at hc;refine hc.mono ?_;rintro e WA ⟨u,rfl,hC,hu1,hbA⟩;have sA:=sB.step hbA;have oA:=oB.later (by omega) hbA;have hfr:=hC.back (w:=w) (by omega);have hrb:WA.heap[W3.heap.size]?=some bG.box:=(hbA.block _ (by omega)).trans hrb0;clear hc hrb0;go_simp;refine hK _ _ ⟨.inr sA,?_⟩;clear hK K;refine nM (by kernel_rfl) (by kernel_rfl) ?_;refine zA1 12 rfl (fun K hK=>?_);refine nU rfl rfl hrb rfl rfl (by kernel_rfl) rfl (by kernel_rfl) ?_;refine hK _ _ ?_;clear hK K;refine yby (by kernel_rfl) ?_ _;generalize hg:World.setRow WA _ _=W5;have p1:W5.heap[W3.heap.size]?=some (RV.box ⟨S1.cl,S1.num,u⟩):=by rw[<-hg];exact Bf hrb
 have p2:W5.heap[sb]?=some S1.box:=by rw[<-hg];exact (yba _ _ _ _ (by omega)).trans sA.1
 have p4:Oth B sb w W5:=by rw[<-hg];exact oA.set2 (by omega) (by omega) _
 have hrbw:w.heap.size<=W3.heap.size:=by omega
 have p3:OpAt W5 u c:=by rw[<-hg];exact Bd hu1 (fun a ha=>by have:=hC.fa a ha;omega) (fun a ha=>by have:=hC.fb a ha;omega) (fun a ha=>by have:=hC.fc a ha;omega)
 clear hg sA sB oA oB hrb hbB hu1 hbA hC hzB hoB hzd s0 hoD hO4 hz3;generalize W3.heap.size=rb at *;obtain⟨-,-,-,d3,-,-,-,-,d8⟩:=dD p2;go_upto_region 12 with fail;generalize hg:W5.setCell _ _=W6;obtain⟨S2,hS2⟩:∃S2:SV,S2=⟨S1.cl,S1.nodes,S1.num,some ⟨rb,0,none⟩,S1.vi,S1.la,S1.told,S1.dr⟩:=⟨_,rfl⟩
 have q2:W6.heap[sb]?=some S2.box:=by
  rw[<-hg,hS2];unfold SV.box SV.cells at p2 ⊢;exact at_set p2
 have q1:W6.heap[rb]?=some (RV.box ⟨S1.cl,S1.num,u⟩):=by rw[<-hg];exact ah p1 (by omega)
 have q4:Oth B sb w W6:=by rw[<-hg];exact p4.set hB _ _
 have q4x:W5.heap.size<=W6.heap.size:=by rw[<-hg];simp
 have hz5:=p4.bel.size;have q3:OpAt W6 u c:=p3.sess p2 (by rw[<-hg];exact (Oth.refl B sb W5).set hB 3 _);have HS2:=hid hS2;clear hg hS2 p1 p2 p3 p4 d3 d8;obtain⟨-,e1,e2,-,e4,-,-,-,-⟩:=dD q2;have hn2:S2.nodes=S.nodes:=by rw[HS2.out,HS1.out]
 have hv2:S2.vi=S.vi:=by rw[HS2.out,HS1.out]
 have hp0:0<=S2.vi % S2.nodes:=Int.emod_nonneg _ (by omega);have hp7:S2.vi % S2.nodes<7:=Int.lt_of_lt_of_le (Int.emod_lt_of_pos _ (by omega)) (by omega);have hwn:IntKind.wrap .u64 S2.nodes=S2.nodes:=by rw[ybi];omega
 have hnz:¬S2.nodes=0:=by omega
 have hrem:S2.vi.tmod S2.nodes=S2.vi % S2.nodes:=ybW (by omega);have hwp:IntKind.wrap .i64 (S2.vi % S2.nodes)=S2.vi % S2.nodes:=by rw[yaP];omega
 have hwq:IntKind.wrap .i64 (S2.vi % S2.nodes+1)=S2.vi % S2.nodes+1:=by rw[yaP];omega
 have H:=hid (yax hn2 hv2);clear hn2 hv2
 go_quiet (fail)
 have hz3x:w.heap.size<=W6.heap.size:=yae (by omega) q4x;generalize hpe:S2.vi % S2.nodes=p at *;clear hrem hnz hwn hwp e1 e2 e4;go_upto_region 13 with fail;refine yaB (S:=fun W=>W.heap[sb]?=some S2.box) hmo ?_;change wpAnyH _ _ _ _ _ _ _ _ (World.drew _);have hb7:Below W6.heap.size W6 (W6.drewN nq).drew:=(below_drewN (yaj _ _) nq).drew;generalize World.drew _=W7 at *;have m1:=hb7.q q1;have m2:=hb7.q q2;have m3:=q3.later hb7;have m4:=q4.later (by omega) hb7;have hwz7:=hb7.size;clear q1 q2 q3 q4 hb7;have zf0 (w0:World) (h:w0.heap[sb]?=some S2.box):=dD h;refine zp 0 (pp sb 0) rfl (zp 1 (pp sb 0) rfl (zp 2 (pp sb 2) rfl ?_));go_simp;refine zv 3 (.int .u64 S2.num) rfl ?_;go_simp;refine zp 4 (pp sb 0) rfl (zp 5 (.int .i64 p) rfl (zp 6 (.int .i64 p) rfl ?_));go_simp;refine zv 7 (.int .i64 (p+1)) rfl ?_;go_simp;have hto:=GV S2 sb rb ⟨S1.cl,S1.num,u⟩ c p 1 W7 m2 (by rw[HS2.out]) m1 m3 (by rw[(uw hfr).1];exact hm) (hr0 _) hp0 (by omega) (by omega);rw[show ((1:Nat):Int)=1 from rfl] at hto;refine zC 8 rfl hto ?_;rintro e W8 ⟨l,ov,rfl,hl,hta,hb8⟩;have m28:=hb8.q m2;clear hto;refine⟨m28,?_⟩;go_simp;refine zp 9 (.int .u64 S2.num) rfl (zp 10 (ov) rfl (zp 11 (.int .i64 0) rfl ?_));go_simp;refine zd ?_;go_wp2_with fail
 go_ret3
 have e1:=HS1.out;have e2:=HS2.out;have hwz:=m4.bel.size;have hz7:w.heap.size<=W7.heap.size:=yae hz3x hwz7;refine⟨rb,u,l,ov,?_,hl,?_,?_,hfr,m3.later hb8,?_,m4.later (by omega) hb8,hrbw⟩
 ·show Ending.returned (.tuple #[.int .u64 S2.num,ov,.int .i64 0])=_;rw[e2,e1]
 ·rw[m28,e2,e1]
 ·rw[(hb8.q m1),e1]
 have:=hta.mono hz7;rw[<-hpe,H.out.1,H.out.2,e1] at this;exact this
