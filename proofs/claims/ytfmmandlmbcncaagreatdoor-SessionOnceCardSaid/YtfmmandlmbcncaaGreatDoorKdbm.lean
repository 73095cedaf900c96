/-
  A part of the proof.
-/
import Derived.Test.YtfmmandlmbcncaaGreatDoorKdbk
set_option maxHeartbeats 40000000
set_option maxRecDepth 100000
namespace Go.Proofs.YtfmmandlmbcncaaGreatDoor.Tlv
open Go.RowKit Mem
theorem RfAt.flag {B g:Nat}{s:RS}{ao:Option Addr}{cap:Nat}{W:World}(h:RfAt B g s ao cap W)(b:Bool):RfAt B g ⟨s.l,b⟩ ao cap (W.setCell ⟨g,1,none⟩ (.bool b)):=by
 have hn:=h.ne;have hg:=ai W g 1 (.bool b);refine⟨tq h.at_ _,h.le,eU h.rd hg (fun h0 a ha e=>hn h0 a ha (Option.some.inj e)),h.ty.grown hg (fun h0 a ha e=>hn h0 a ha (Option.some.inj e))⟩
theorem RfS.flag {B g:Nat}{s:RS}{W:World}(h:RfS B g s W)(b:Bool):RfS B g ⟨s.l,b⟩ (W.setCell ⟨g,1,none⟩ (.bool b)):=by
 obtain⟨ao,cap,h⟩:=h;exact⟨ao,cap,h.flag b⟩
theorem RfS.cell1 {B g:Nat}{s:RS}{W:World}(h:RfS B g s W):W.cell? ⟨g,1,none⟩=some (.bool s.bad):=by
 obtain⟨ao,cap,h⟩:=h;exact (gy h).2.1
theorem RfS.fz1 {B g:Nat}{s:RS}{W:World}(h:RfS B g s W):W.frozen? ⟨g,1,none⟩=false:=by
 obtain⟨ao,cap,h⟩:=h;exact (gy h).2.2.2
end Go.Proofs.YtfmmandlmbcncaaGreatDoor.Tlv
namespace Go.Proofs.YtfmmandlmbcncaaGreatDoor.Msg
open Go.RowKit Go.Lib Mem Tlv
def jL (o:MV):MV:={ o with vi:=0,no:=0,fr:=0,cl:=0,nu:=0,at_:=0,cm:=0,bs:=0,nc:=0 }
def jJ (o:MV):Array Value:=bM o.vi o.no o.fr o.cl o.nu 0 0 o.at_ o.cm o.bs 0 0 o.nc 0 0
theorem bZ:¬gW 59:=fun h=>by rcases h with h | h | h | h | h | h<;>exact absurd h (by decide)
theorem uH:¬gW 154:=fun h=>by rcases h with h | h | h | h | h | h<;>exact absurd h (by decide)
theorem LgAt.kpn {B:Nat}{a b:World}{ao:Option Addr}{n cap:Nat}{l:List RP}(h:LgAt a ao n cap l)(hy:TyX 55 a ao cap)(hyo:∀p∈l,OpTyB B a p.1.op)(hk:KeepN B a b):LgAt b ao n cap l:=
 ⟨kC qI h.r hy hk.km,fun p hp=>(h.each p hp).kpb (hyo p hp) hk.kb⟩
theorem MTyB.kpn {B:Nat}{a b:World}{m:MV}{c:MC}(h:MTyB B a m c)(hk:KeepN B a b):MTyB B b m c:=
 ⟨h.rq.kpb hk.kb,h.rs.kpn hk,TyB.kpb h.sn hk.kb,h.lo.kpm qI hk.km,fun p hp=>(h.log p hp).kpb hk.kb,h.ho.kpm qR hk.km⟩
theorem MAt.kpn {B:Nat}{a b:World}{m:MV}{c:MC}(h:MAt a m c)(hy:MTyB B a m c)(hk:KeepN B a b):MAt b m c:=
 ⟨h.rq.kpb hy.rq hk.kb,h.rs.kpn hy.rs hk,jZ h.sn hy.sn hk.kb,h.lg.kpn hy.lo hy.log hk,kC qR h.se hy.ho hk.km,h.ls,h.lh⟩
theorem kE {P:Program}{o:Oper}{a:Act}{w:World}{t ty:TypeId}{p:Operand}{g:Nat}{cs:Array Value}{fr:Nat×Nat}
  (hg:w.heap[g]?=some (.cells cs t fr)) (hop:o.op=.load ty p) (hp:a.eval p=.pointer (some ⟨g,0,none⟩)) (hu:ku P ty=true) (hi:(P.info? ty).map (·.size)=some cs.size):(execOp a.eval o).run P w=.ok (.value (.agg cs)) w:=by
 obtain⟨d,h1,h2⟩:=lN hu;have hl:(Instr.loadAt ty (.pointer (some ⟨g,0,none⟩))).run P w=.ok (.agg cs) w:=by
  simp only[Instr.loadAt,Instr.sureAddr,Sem.run_bind,Sem.run_pure,Result.andThen];cases d<;>first | exact run_loadVar_row w g t ty cs fr _ hg h1 rfl hi | cases h2
 unfold execOp;rw[hop];simp only[hp,Sem.run_bind,hl,Result.andThen,Sem.run_pure]
def rE (W:World)(b:Nat)(r:RV):World:=((((((((W.setCell ⟨b,6,none⟩ (.int .u64 r.cl)).setCell ⟨b,7,none⟩ (.int .u64 r.nu)).setCell ⟨b,8,none⟩ (.int .i64 r.op.k)).setCell ⟨b,9,none⟩ (.string r.op.name)).setCell ⟨b,10,none⟩ (.string r.op.to)).setCell ⟨b,11,none⟩ (.slice r.op.ao r.op.an r.op.ac)).setCell ⟨b,12,none⟩ (.slice r.op.bo r.op.bn r.op.bc)).setCell ⟨b,13,none⟩ (.slice r.op.co r.op.cn r.op.cc)).setCell ⟨b,14,none⟩ (.int .i64 r.op.n)
theorem L9 {W:World}{b:Nat}{m:MV}{r:RV}(h:W.heap[b]?=some m.box):(rE W b r).heap[b]?=some (MV.box { m with rq:=r }):=by
 unfold MV.box MV.cells at h;have h0:=at_set (i:=6) (x:=.int .u64 r.cl) h;have h1:=at_set (i:=7) (x:=.int .u64 r.nu) h0;have h2:=at_set (i:=8) (x:=.int .i64 r.op.k) h1;have h3:=at_set (i:=9) (x:=.string r.op.name) h2;have h4:=at_set (i:=10) (x:=.string r.op.to) h3;have h5:=at_set (i:=11) (x:=.slice r.op.ao r.op.an r.op.ac) h4;have h6:=at_set (i:=12) (x:=.slice r.op.bo r.op.bn r.op.bc) h5;have h7:=at_set (i:=13) (x:=.slice r.op.co r.op.cn r.op.cc) h6;have h8:=at_set (i:=14) (x:=.int .i64 r.op.n) h7;exact h8.trans (by kernel_rfl)
theorem Fe {M:Nat}{ys:List Nat}{a:World}{b:Nat}{r:RV}(hb:b∈ys\/M<=b):BelX M ys a (rE a b r):=(((((((((BelX.refl M ys a).set b 6 _ hb).set b 7 _ hb).set b 8 _ hb).set b 9 _ hb).set b 10 _ hb).set b 11 _ hb).set b 12 _ hb).set b 13 _ hb).set b 14 _ hb
def iD (W:World)(b:Nat)(q:QV):World:=(((W.setCell ⟨b,15,none⟩ (.int .i64 q.code)).setCell ⟨b,16,none⟩ (.bool q.yes)).setCell ⟨b,17,none⟩ (.slice q.eo q.en q.ec)).setCell ⟨b,18,none⟩ (.slice q.co q.cn q.cc)
theorem Bc {W:World}{b:Nat}{m:MV}{q:QV}(h:W.heap[b]?=some m.box):(iD W b q).heap[b]?=some (MV.box { m with rs:=q }):=by
 unfold MV.box MV.cells at h;have h0:=at_set (i:=15) (x:=.int .i64 q.code) h;have h1:=at_set (i:=16) (x:=.bool q.yes) h0;have h2:=at_set (i:=17) (x:=.slice q.eo q.en q.ec) h1;have h3:=at_set (i:=18) (x:=.slice q.co q.cn q.cc) h2;exact h3.trans (by kernel_rfl)
theorem xK {M:Nat}{ys:List Nat}{a:World}{b:Nat}{q:QV}(hb:b∈ys\/M<=b):BelX M ys a (iD a b q):=((((BelX.refl M ys a).set b 15 _ hb).set b 16 _ hb).set b 17 _ hb).set b 18 _ hb
theorem CG {W:World}{b j:Nat}{q:QV}{o:Obj}(h:W.heap[j]?=some o)(hne:j≠b):(iD W b q).heap[j]?=some o:=af (af (af (af h hne) hne) hne) hne
theorem Kw {B:Nat}{w w':World}{y:List UInt8}{e:Ending}(h:uS (QTyB B) (.bool true) (.bool false) y w e w'):∃(ok:Bool) (q:QV) (x:QC),e=.returned (.tuple #[q.val,.bool ok])/\QAt w' q x/\QTyB B w' q x/\Below w.heap.size w w'/\(ok=false->(dG q x).length<=29)/\((ok=true/\bf q x=true/\dG q x=y)\/(ok=false/\rC y)):=by
 obtain⟨hb,⟨q,x,rfl,h1,h2,h4,h5⟩ | ⟨rfl,n1⟩⟩:=h
 ·exact⟨true,q,x,rfl,h1,h2,hb,(fun e=>by cases e),.inl ⟨rfl,h4,h5⟩⟩
 exact⟨false,aA,⟨[],[]⟩,rfl,⟨⟨Rd.nil _ _,fun _ hp=>absurd hp List.not_mem_nil⟩,Rd.nil _ _,Nat.zero_le _⟩,⟨fun h=>absurd h (Nat.lt_irrefl 0),fun _ hp=>absurd hp List.not_mem_nil,fun h=>absurd h (Nat.lt_irrefl 0)⟩,hb,(fun _=>by rw[lT];decide),.inr ⟨rfl,n1⟩⟩
theorem Dl (k:Int)(wh:Bool)(j:Nat)(x:Int)(h:(lettersOf k wh)[j]?=some x):(byV (dZ k wh))[j]?=some (.int .u8 ((jB x).toNat:Int)):=by
 simp[dZ,byV,h]
structure TkM (B g ob nb rb:Nat)(w:World)(T:Option Addr)(l8:List UInt8)(tc:Nat)(o:MV)(c:MC)(s:RS)(W:World):Prop where
 rf:RfS B g s W
 X:BelX w.heap.size [g] w W
 q:W.heap[ob]?=some (jL o).box
 na:W.heap[nb]?=some (.cells (jJ o) 154)
 at_:MAt W o c
 u:U64M o c
 ty:MTyB B W o c
 fr:0<=o.fr/\o.fr<18446744073709551616
 tags:Rd W 1 T l8.length tc (byV l8)
 tty:TyX 5 W T tc
 rz:W.heap[rb]?=some (ay 0).box
 gw:g<w.heap.size
 Bg:B<=g
 wo:w.heap.size<=ob
 wn:w.heap.size<=nb
 wr:w.heap.size<=rb
 ro:rb≠ob
 ft:FitK o c
section
variable {B g ob nb rb:Nat} {w:World} {T:Option Addr} {l8:List UInt8} {tc:Nat} {o:MV} {c:MC} {s:RS} {W W':World}
theorem TkM.no (h:TkM B g ob nb rb w T l8 tc o c s W):nb≠ob/\nb≠rb:=by
 constructor
 ·rintro rfl;have h1:=h.na;rw[h.q] at h1;cases h1
 rintro rfl;have h1:=h.na;rw[h.rz] at h1;cases h1
theorem TkM.lt (h:TkM B g ob nb rb w T l8 tc o c s W):ob<W.heap.size/\nb<W.heap.size/\rb<W.heap.size:=⟨(Array.getElem?_eq_some_iff.1 h.q).1,(Array.getElem?_eq_some_iff.1 h.na).1,(Array.getElem?_eq_some_iff.1 h.rz).1⟩
theorem TkM.grown {s':RS}(h:TkM B g ob nb rb w T l8 tc o c s W)(hg:W.grownBy W' (some g))(hr:RfS B g s' W'):TkM B g ob nb rb w T l8 tc o c s' W':=by
 have hk:KeepN B W W':=Ey h.rf hg;have hX:BelX W.heap.size [g] W W':=BelX.of_grown hg;have hs:=h.X.size;obtain⟨l1,l2,l3⟩:=h.lt;have ho:∀k,w.heap.size<=k->k∉[g]:=fun k hk hm=>by have:=List.mem_singleton.1 hm;have:=h.gw;omega
 exact⟨hr,h.X.trans (hX.mono hs (fun _ hk _=>hk)),hX.at_ h.q l1 (ho _ h.wo),hX.at_ h.na l2 (ho _ h.wn),h.at_.kpn h.ty hk,h.u,h.ty.kpn hk,h.fr,kC iq h.tags h.tty hk.km,h.tty.kpm iq hk.km,hX.at_ h.rz l3 (ho _ h.wr),h.gw,h.Bg,h.wo,h.wn,h.wr,h.ro,h.ft⟩
theorem TkM.later (h:TkM B g ob nb rb w T l8 tc o c s W)(hb:Below W.heap.size W W'):TkM B g ob nb rb w T l8 tc o c s W':=h.grown (fG hb _) (h.rf.later hb)
theorem TkM.flag (h:TkM B g ob nb rb w T l8 tc o c s W)(b:Bool):TkM B g ob nb rb w T l8 tc o c ⟨s.l,b⟩ (W.setCell ⟨g,1,none⟩ (.bool b)):=h.grown (ai _ _ _ _) (h.rf.flag b)
theorem TkM.not_u8 {cs:Array Value}{t:TypeId}{fr:Nat×Nat}(ht:¬gW t):∀(c:Array Value) (fr':Nat×Nat),(Obj.cells cs t fr)≠.cells c 5 fr':=fun c fr' e=>by cases e;exact ht iq
theorem TkM.box {o':MV}{c':MC}(h:TkM B g ob nb rb w T l8 tc o c s W)(hX:BelX W.heap.size [ob] W W')(hq:W'.heap[ob]?=some (jL o').box)(hn:jJ o'=jJ o)(hfr:o'.fr=o.fr)(hat:MAt W' o' c')(hu:U64M o' c')(hty:MTyB B W' o' c')(hft:FitK o' c'):TkM B g ob nb rb w T l8 tc o' c' s W':=by
 have hB:B<=ob:=by have:=h.Bg;have:=h.gw;have:=h.wo;omega
 have hk:KeepN B W W':=KeepN.of_belX hX h.q bZ hB;have hs:=h.X.size;obtain⟨l1,l2,l3⟩:=h.lt;have hgo:g∉[ob]:=fun hm=>by have:=List.mem_singleton.1 hm;have:=h.gw;have:=h.wo;omega
 have hrf:RfS B g s W':=h.rf.belX hX hgo (fun k hk=>by rw[List.mem_singleton.1 hk];exact hB) (fun k hk=>by rw[List.mem_singleton.1 hk];exact⟨_,h.q,TkM.not_u8 bZ⟩);exact⟨hrf,h.X.trans (hX.mono hs (fun k hk hlt=>by have:=List.mem_singleton.1 hk;have:=h.wo;omega)),hq,hn▸hX.at_ h.na l2 (by simpa using h.no.1),hat,hu,hty,hfr▸h.fr,kC iq h.tags h.tty hk.km,h.tty.kpm iq hk.km,hX.at_ h.rz l3 (by simpa using h.ro),h.gw,h.Bg,h.wo,h.wn,h.wr,h.ro,hft⟩
theorem TkM.keep (h:TkM B g ob nb rb w T l8 tc o c s W)(hX:BelX W.heap.size [ob] W W'):KeepN B W W':=KeepN.of_belX hX h.q bZ (by have:=h.Bg;have:=h.gw;have:=h.wo;omega)
theorem TkM.nums {o':MV}(h:TkM B g ob nb rb w T l8 tc o c s W)(hX:BelX W.heap.size [nb] W W')(hn:W'.heap[nb]?=some (.cells (jJ o') 154))(hr:jL o'=jL o)(hu:U64M o' c)(hfr:0<=o'.fr/\o'.fr<18446744073709551616):TkM B g ob nb rb w T l8 tc o' c s W':=by
 have hB:B<=nb:=by have:=h.Bg;have:=h.gw;have:=h.wn;omega
 have hk:KeepN B W W':=KeepN.of_belX hX h.na uH hB;have hs:=h.X.size;obtain⟨l1,l2,l3⟩:=h.lt;obtain⟨n1,n2⟩:=h.no;have hgo:g∉[nb]:=fun hm=>by have:=List.mem_singleton.1 hm;have:=h.gw;have:=h.wn;omega
 have hrf:RfS B g s W':=h.rf.belX hX hgo (fun k hk=>by rw[List.mem_singleton.1 hk];exact hB) (fun k hk=>by rw[List.mem_singleton.1 hk];exact⟨_,h.na,TkM.not_u8 uH⟩);have a:=h.at_.kpn h.ty hk;have b:=h.ty.kpn hk;have f1:FitK (jL o) c:=⟨h.ft.rs,h.ft.rl,h.ft.lg,h.ft.sn,h.ft.hn,h.ft.ln⟩
 have a1:MAt W' (jL o) c:=⟨a.rq,a.rs,a.sn,a.lg,a.se,a.ls,a.lh⟩
 have a2:MTyB B W' (jL o) c:=⟨b.rq,b.rs,b.sn,b.lo,b.log,b.ho⟩
 rw[<-hr] at a1 a2 f1;have a3:MAt W' o' c:=⟨a1.rq,a1.rs,a1.sn,a1.lg,a1.se,a1.ls,a1.lh⟩
 have a4:MTyB B W' o' c:=⟨a2.rq,a2.rs,a2.sn,a2.lo,a2.log,a2.ho⟩
 exact⟨hrf,h.X.trans (hX.mono hs (fun k hk hlt=>by have:=List.mem_singleton.1 hk;have:=h.wn;omega)),hr▸hX.at_ h.q l1 (by simpa using fun e=>n1 e.symm),hn,a3,hu,a4,hfr,kC iq h.tags h.tty hk.km,h.tty.kpm iq hk.km,hX.at_ h.rz l3 (by simpa using fun e=>n2 e.symm),h.gw,h.Bg,h.wo,h.wn,h.wr,h.ro,⟨f1.rs,f1.rl,f1.lg,f1.sn,f1.hn,f1.ln⟩⟩
end
theorem uD (x y:Int)(m0 m:MV)(c0 c:MC)(hx:x∈dA)(hy:y∈dA)(hne:x≠y):dB x (aK y m0 m) (dE y c0 c)=dB x m0 c0:=by
 simp only[dA,List.mem_cons,List.not_mem_nil,or_false] at hx hy;rcases hx with rfl|rfl|rfl|rfl|rfl|rfl|rfl|rfl|rfl|rfl|rfl|rfl|rfl|rfl|rfl
 all_goals
  rcases hy with rfl|rfl|rfl|rfl|rfl|rfl|rfl|rfl|rfl|rfl|rfl|rfl|rfl|rfl|rfl<;>first | exact absurd rfl hne | rfl
theorem xG (x y:Int)(m0 m:MV)(c0 c:MC)(hy:y∈dA)(hne:x≠y)(h:MayG x m0 c0):MayG x (aK y m0 m) (dE y c0 c):=by
 simp only[dA,List.mem_cons,List.not_mem_nil,or_false] at hy;refine⟨fun e=>?_,fun e=>?_,fun e=>?_,fun e=>?_,fun e=>?_,fun e=>?_⟩
 ·have k:=h.fr e;subst e;rcases hy with rfl|rfl|rfl|rfl|rfl|rfl|rfl|rfl|rfl|rfl|rfl|rfl|rfl|rfl|rfl<;>first | exact absurd rfl hne | exact k
 ·have k:=h.rq e;subst e;rcases hy with rfl|rfl|rfl|rfl|rfl|rfl|rfl|rfl|rfl|rfl|rfl|rfl|rfl|rfl|rfl<;>first | exact absurd rfl hne | exact k
 ·have k:=h.rs e;subst e;rcases hy with rfl|rfl|rfl|rfl|rfl|rfl|rfl|rfl|rfl|rfl|rfl|rfl|rfl|rfl|rfl<;>first | exact absurd rfl hne | exact k
 ·have k:=h.sn e;subst e;rcases hy with rfl|rfl|rfl|rfl|rfl|rfl|rfl|rfl|rfl|rfl|rfl|rfl|rfl|rfl|rfl<;>first | exact absurd rfl hne | exact k
 ·have k:=h.log e;subst e;rcases hy with rfl|rfl|rfl|rfl|rfl|rfl|rfl|rfl|rfl|rfl|rfl|rfl|rfl|rfl|rfl<;>first | exact absurd rfl hne | exact k
 have k:=h.seen e;subst e;rcases hy with rfl|rfl|rfl|rfl|rfl|rfl|rfl|rfl|rfl|rfl|rfl|rfl|rfl|rfl|rfl<;>first | exact absurd rfl hne | exact k
def NilS (ls:List Int)(o:MV):Prop:=((108:Int)∉ls->o.lo=none/\o.ln=0/\o.lc=0)/\((101:Int)∉ls->o.ho=none/\o.hn=0/\o.hc=0)
theorem NilS.set {ls:List Int}{o m:MV}{x:Int}(h:NilS ls o)(hx:x∈dA):NilS (ls++[x]) (aK x o m):=by
 simp only[dA,List.mem_cons,List.not_mem_nil,or_false] at hx;constructor
 ·intro hn;have h1:=h.1 (fun hm=>hn (List.mem_append_left _ hm));rcases hx with rfl|rfl|rfl|rfl|rfl|rfl|rfl|rfl|rfl|rfl|rfl|rfl|rfl|rfl|rfl<;>first | exact absurd (List.mem_append_right ls (List.mem_singleton.2 rfl)) hn | exact h1
 intro hn;have h1:=h.2 (fun hm=>hn (List.mem_append_left _ hm));rcases hx with rfl|rfl|rfl|rfl|rfl|rfl|rfl|rfl|rfl|rfl|rfl|rfl|rfl|rfl|rfl<;>first | exact absurd (List.mem_append_right ls (List.mem_singleton.2 rfl)) hn | exact h1
structure TkI (B g ob nb rb:Nat)(s:RS)(w:World)(kk:Int)(wh:Bool)(T:Option Addr)(tc:Nat)(j:Nat)(W:World):Prop where
 k:1<=kk/\kk<=12
 hw:wh=true->kk=10
 ex:∃(o:MV) (c:MC) (s':RS),TkM B g ob nb rb w T (dZ kk wh) tc o c s' W/\o.k=kk/\ReadM s kk (lettersOf kk wh) j (decide (kk≠10\/2<=j)) o c s'/\(wh=true->2<=j)/\(∀x∈dA,x∉(lettersOf kk wh).take j->agree x o c (ay kk) dI=true)/\NilS ((lettersOf kk wh).take j) o
def SwM (B g ob nb rb:Nat)(w:World)(T:Option Addr)(l8:List UInt8)(tc:Nat)(x:Int)(o:MV)(c:MC)(s:RS)(W':World):Prop:=∃(m:MV) (d:MC) (s':RS),TkM B g ob nb rb w T l8 tc (aK x o m) (dE x c d) s' W'/\StepX x s (aK x o m) (dE x c d) s'
theorem mM (k:Int)(wh:Bool):(lettersOf k wh).Nodup:=List.Pairwise.filter _ (by unfold dA;decide)
theorem ww {l:List Int}(hl:l.Nodup){j:Nat}{x:Int}(hx:l[j]?=some x):x∉l.take j:=by
 intro hm;obtain⟨i,hi,e⟩:=List.getElem_of_mem hm;rw[List.getElem_take] at e;obtain⟨hj,ej⟩:=List.getElem?_eq_some_iff.1 hx;rw[List.length_take] at hi;exact List.pairwise_iff_getElem.1 hl i j (by omega) hj (by omega) (e.trans ej.symm)
theorem TkI.next {B g ob nb rb:Nat}{s:RS}{w:World}{kk:Int}{wh:Bool}{T:Option Addr}{tc j:Nat}{W':World}{x:Int}{o:MV}{c:MC}{s':RS}(ho:o.k=kk)
  (R:ReadM s kk (lettersOf kk wh) j (decide (kk≠10\/2<=j)) o c s') (hj:wh=true->2<=j) (hz:∀x∈dA,x∉(lettersOf kk wh).take j->agree x o c (ay kk) dI=true) (hns:NilS ((lettersOf kk wh).take j) o)
  (hx:(lettersOf kk wh)[j]?=some x) (S:SwM B g ob nb rb w T (dZ kk wh) tc x o c s' W') :
  ∃(o':MV) (c':MC) (s2:RS),TkM B g ob nb rb w T (dZ kk wh) tc o' c' s2 W'/\o'.k=kk/\ReadM s kk (lettersOf kk wh) (j+1) (decide (kk≠10\/2<=j)) o' c' s2/\(∀x∈dA,x∉(lettersOf kk wh).take (j+1)->agree x o' c' (ay kk) dI=true)/\NilS ((lettersOf kk wh).take (j+1)) o':=by
 obtain⟨m,d,s2,h1,h2⟩:=S;have hxa:=iY x (List.mem_of_getElem? hx);have hnd:=mM kk wh;refine⟨_,_,s2,h1,(Ar x o m).trans ho,R.step ?_ hx h2 (fun y hy=>?_),fun y hy hn=>?_,?_⟩
 ·by_cases h10:kk≠10\/2<=j
  ·exact .inl (decide_eq_true h10)
  have e10:kk=10:=by
   by_cases e:kk=10
   ·exact e
   exact absurd (.inl e) h10
  have hj2:j<2:=by
   by_cases e:j<2
   ·exact e
   exact absurd (.inr (by omega)) h10
  refine .inr ⟨e10,hj2,?_⟩;cases wh with
  | false=>rw[e10]
  | true=>have:=hj rfl;omega
 ·have hya:=iY y (List.mem_of_mem_take hy);have hne:y≠x:=fun e=>ww hnd hx (e▸hy);exact⟨uD y x o m c d hya hxa hne,xG y x o m c d hxa hne⟩
 ·rw[List.take_add_one,hx,List.mem_append] at hn;have hne:y≠x:=fun e=>hn (.inr (by simp[e]));exact dQ (mf y x o m c d hy hxa hne) (hz y hy (fun hm=>hn (.inl hm)))
 rw[List.take_add_one,hx];exact hns.set hxa
theorem LD (s:RS):s.tag=s.tagR:=by
 unfold RS.tag RS.tagR;by_cases h1:s.bad=true
 ·rw[if_pos h1,if_pos (.inl h1)]
 by_cases h2:fs s.l=0
 ·rw[if_neg h1,if_pos h2,if_pos (.inr h2)]
 rw[if_neg h1,if_neg h2,if_neg (by simp[h1,h2])]
theorem DI (s:RS)(t:UInt8):(s.num t).1<18446744073709551616:=by
 unfold RS.num;split
 ·show 0<18446744073709551616;decide
 split
 ·exact ni _ 8
 show 0<18446744073709551616;decide
structure MTyP (W:World)(m:MV)(c:MC):Prop where
 rq:OpTy W m.rq.op
 rs:QTy W m.rs c.rs
 sn:TyX 5 W m.so m.sc
 lo:TyX 55 W m.lo m.lc
 log:∀p∈c.log,OpTy W p.1.op
 ho:TyX 22 W m.ho m.hc
theorem LgAt.kpm {a b:World}{ao:Option Addr}{n cap:Nat}{l:List RP}(h:LgAt a ao n cap l)(hy:TyX 55 a ao cap)(hyo:∀p∈l,OpTy a p.1.op)(hk:KeepM a b):LgAt b ao n cap l:=
 ⟨kC qI h.r hy hk,fun p hp=>(h.each p hp).kpr (hyo p hp) hk.kr⟩
theorem MTyP.kpm {a b:World}{m:MV}{c:MC}(h:MTyP a m c)(hk:KeepM a b):MTyP b m c:=
 ⟨h.rq.kpr hk.kr,h.rs.kpm hk,h.sn.kpm iq hk,h.lo.kpm qI hk,fun p hp=>(h.log p hp).kpr hk.kr,h.ho.kpm qR hk⟩
theorem MAt.kpm {a b:World}{m:MV}{c:MC}(h:MAt a m c)(hy:MTyP a m c)(hk:KeepM a b):MAt b m c:=
 ⟨h.rq.kpr hy.rq hk.kr,h.rs.kpm hy.rs hk,kC iq h.sn hy.sn hk,h.lg.kpm hy.lo hy.log hk,kC qR h.se hy.ho hk,h.ls,h.lh⟩
structure RdM (B g ob:Nat)(w:World)(o:MV)(c:MC)(s:RS)(W:World):Prop where
 rd:RdS B g s W
 X:BelX w.heap.size [g,ob] w W
 q:W.heap[ob]?=some o.box
 at_:MAt W o c
 u:U64M o c
 ty:MTyP W o c
 fr:0<=o.fr/\o.fr<7
 cnt:s.bad=false->o.ln<=4096/\o.hn<=7
 gw:g<w.heap.size
 ow:ob<w.heap.size
 ne:g≠ob
section
variable {B g ob:Nat} {w:World} {o o' m:MV} {c c' d:MC} {s s':RS} {W W' W1:World}
theorem RdM.lt (h:RdM B g ob w o c s W):g<W.heap.size/\ob<W.heap.size:=⟨by obtain⟨_,_,h⟩:=h.rd;exact h.lt,(Array.getElem?_eq_some_iff.1 h.q).1⟩
theorem RdM.kg (h:RdM B g ob w o c s W)(hg:W.grownBy W' (some g)):KeepM W W':=by
 obtain⟨_,_,hr⟩:=h.rd;exact KeepM.grown hg hr.at_ oh
theorem RdM.grown (h:RdM B g ob w o c s W)(hg:W.grownBy W' (some g))(hr:RdS B g s' W')(hb:s'.bad=false->s.bad=false):RdM B g ob w o c s' W':=by
 have hk:=h.kg hg;have hX:BelX W.heap.size [g] W W':=BelX.of_grown hg;have hne:ob∉[g]:=fun hm=>h.ne (List.mem_singleton.1 hm).symm;exact⟨hr,h.X.trans (hX.mono h.X.size (fun k hk _=>by rw[List.mem_singleton.1 hk];simp)),hX.at_ h.q h.lt.2 hne,h.at_.kpm h.ty hk,h.u,h.ty.kpm hk,h.fr,fun e=>h.cnt (hb e),h.gw,h.ow,h.ne⟩
theorem RdM.later (h:RdM B g ob w o c s W)(hb:Below W.heap.size W W'):RdM B g ob w o c s W':=h.grown (fG hb _) (h.rd.later hb) id
theorem RdM.not_u8 {cs:Array Value}{t:TypeId}{fr:Nat×Nat}(ht:¬gW t):∀(c:Array Value) (fr':Nat×Nat),(Obj.cells cs t fr)≠.cells c 5 fr':=fun c fr' e=>by cases e;exact ht iq
theorem RdM.ko (h:RdM B g ob w o c s W)(hX:BelX W.heap.size [ob] W W'):KeepM W W':=KeepM.of_belX hX (fun k hk=>by
 rw[List.mem_singleton.1 hk];exact⟨_,h.q,fun c t fr ht e=>by cases e;exact bZ ht⟩)
theorem RdM.box (h:RdM B g ob w o c s W)(hX:BelX W.heap.size [ob] W W')(hq:W'.heap[ob]?=some o'.box)(hat:MAt W' o' c')(hu:U64M o' c')(hty:MTyP W' o' c')(hfr:0<=o'.fr/\o'.fr<7)(hcnt:s.bad=false->o'.ln<=4096/\o'.hn<=7):RdM B g ob w o' c' s W':=by
 have hrf:RdS B g s W':=RdS.belX h.rd hX (fun hm=>h.ne (List.mem_singleton.1 hm)) (fun k hk=>by rw[List.mem_singleton.1 hk];exact⟨_,h.q,RdM.not_u8 bZ⟩);exact⟨hrf,h.X.trans (hX.mono h.X.size (fun k hk _=>by rw[List.mem_singleton.1 hk];simp)),hq,hat,hu,hty,hfr,hcnt,h.gw,h.ow,h.ne⟩
theorem RdM.turn (h:RdM B g ob w o c s W)(hX:BelX W.heap.size [g,ob] W W')(hr:RdS B g s' W')(hq:W'.heap[ob]?=some o'.box)(hat:MAt W' o' c')(hu:U64M o' c')(hty:MTyP W' o' c')(hfr:0<=o'.fr/\o'.fr<7)(hcnt:s'.bad=false->o'.ln<=4096/\o'.hn<=7):RdM B g ob w o' c' s' W':=
 ⟨hr,h.X.trans (hX.mono h.X.size (fun _ hk _=>hk)),hq,hat,hu,hty,hfr,hcnt,h.gw,h.ow,h.ne⟩
def SwP (B g ob:Nat)(w:World)(x:Int)(o:MV)(c:MC)(s:RS)(W W':World):Prop:=BelX W.heap.size [g,ob] W W'/\∃(m:MV) (d:MC) (s':RS),RdM B g ob w (aK x o m) (dE x c d) s' W'/\StepX x s (aK x o m) (dE x c d) s'
theorem EI (h:BelX W.heap.size [g] W W1)(h':BelX W1.heap.size [ob] W1 W'):BelX W.heap.size [g,ob] W W':=
 (h.mono (Nat.le_refl _) (fun k hk _=>by rw[List.mem_singleton.1 hk];simp)).trans (h'.mono h.size (fun k hk _=>by rw[List.mem_singleton.1 hk];simp))
theorem RdM.put {x:Int}{i:Nat}{v:Value}(h:RdM B g ob w o c s W)(hg:W.grownBy W1 (some g))(hr:RdS B g s' W1)(S:StepX x s (aK x o m) (dE x c d) s')
  (hbox:(match o.box with | .cells cs t fr=>Obj.cells (cs.setIfInBounds i v) t fr | o=>o)=(aK x o m).box) (hat:MAt W1 (aK x o m) (dE x c d)) (hu:U64M (aK x o m) (dE x c d)) (hty:MTyP W1 (aK x o m) (dE x c d)) (hfr:0<=(aK x o m).fr/\(aK x o m).fr<7) (hcnt:s'.bad=false->(aK x o m).ln<=4096/\(aK x o m).hn<=7) :
  SwP B g ob w x o c s W (W1.setCell ⟨ob,i,none⟩ v):=by
 have h1:=h.grown hg hr (fun e=>(S.yes e).1);have hX:BelX W1.heap.size [ob] W1 (W1.setCell ⟨ob,i,none⟩ v):=(BelX.refl _ _ _).set _ _ _ (.inl (by simp));have hk:=h1.ko hX;have hq:=at_set (i:=i) (x:=v) h1.q;exact⟨EI (BelX.of_grown hg) hX,m,d,s',h1.box hX (hq.trans (congrArg some hbox)) (hat.kpm hty hk) hu (hty.kpm hk) hfr hcnt,S⟩
theorem RdM.num {x:Int}{i:Nat}{v:Value}(h:RdM B g ob w o c s W)(hg:W.grownBy W1 (some g))(hr:RdS B g s' W1)(S:StepX x s (aK x o m) (dE x c c) s')
  (hbox:(match o.box with | .cells cs t fr=>Obj.cells (cs.setIfInBounds i v) t fr | o=>o)=(aK x o m).box) (hat:∀X,MAt X o c->MAt X (aK x o m) (dE x c c)) (hu:U64M (aK x o m) (dE x c c)) (hty:∀X,MTyP X o c->MTyP X (aK x o m) (dE x c c)) (hfr:0<=(aK x o m).fr/\(aK x o m).fr<7) (hl:(aK x o m).ln=o.ln) (hh:(aK x o m).hn=o.hn) :
  SwP B g ob w x o c s W (W1.setCell ⟨ob,i,none⟩ v):=
 h.put hg hr S hbox (hat _ (h.at_.kpm h.ty (h.kg hg))) hu (hty _ (h.ty.kpm (h.kg hg))) hfr (fun e=>by rw[hl,hh];exact h.cnt (S.yes e).1)
end
def elQ (p:RP):List UInt8:=val 1 (eQ p.1 (opL p.1.op p.2))
structure mayQ (p:RP):Prop where
 may:aB p.1.op p.2=true
 len:(eQ p.1 (opL p.1.op p.2)).length<=4194304
 u:U64R p.1
 at_:∃W:World,OpAt W p.1.op p.2
theorem Nc (p:RP):0<(elQ p).length:=by unfold elQ;rw[ae];omega
theorem Ol (z z':RP)(r r':List UInt8)(h:mayQ z)(h':mayQ z')(e:elQ z++r=elQ z'++r'):r=r':=(ak (by decide) h.len h'.len e).2
theorem Gx {s s':RS}{l:List RP}{o:MV}{c:MC}(T:Took (fun ys=>val 13 (dY elQ ys)) (fun ys=>(∀y∈ys,mayQ y)/\ys.length<=4096/\(dY elQ ys).length<=4194304) (fun ys=>(∀y∈ys,mayQ y)/\ys.length<=4096/\(dY elQ ys).length<=4194304) s l s')(hc:c.log=l):StepX 108 s o c s' where
 yes:=fun h=>by
  obtain⟨a,b,g1,-,g2⟩:=T.yes h;subst hc;exact⟨a,b,⟨fun e=>absurd e (by decide),fun e=>absurd e (by decide),fun e=>absurd e (by decide),fun e=>absurd e (by decide),fun _=>⟨fun p hp=>(g1 p hp).may,g2⟩,fun e=>absurd e (by decide)⟩⟩
 go:=fun hb W m d r h1 h2 h3 e=>by
  obtain⟨hm,hz,hn⟩:=h3.log rfl;refine jv T (fun z r r' hz hg e=>(ak (by decide) hg.2.2 hz.2.2 e).2) hb (z:=d.log) ⟨fun p hp=>⟨hm p hp,?_,h2.log p hp,W,h1.lg.each p hp⟩,by rw[h1.lg.len];exact hn,hz⟩ e;have:=gU (h1.lg.each p hp) (hm p hp);rw[gp];omega
 le:=T.le
def elN (n:Nat):List UInt8:=val 1 (az n)
def sU (n:Nat):Prop:=n<18446744073709551616
theorem G8 (l:List Nat):dY elN l=gZ l:=rfl
theorem NW (n:Nat):0<(elN n).length:=by unfold elN;rw[ae];omega
theorem Oi (z z':Nat)(r r':List UInt8)(_:sU z)(_:sU z')(e:elN z++r=elN z'++r'):r=r':=(ak (by decide) (by rw[ah];omega) (by rw[ah];omega) e).2
theorem Ew {s s':RS}{l:List Nat}{o:MV}{c:MC}(T:Took (fun ys=>val 16 (dY elN ys)) (fun ys=>(∀y∈ys,sU y)/\ys.length<=7/\(dY elN ys).length<=4194304) (fun ys=>(∀y∈ys,sU y)/\ys.length<=7/\(dY elN ys).length<=4194304) s l s')(hc:c.seen=l):StepX 101 s o c s' where
 yes:=fun h=>by
  obtain⟨a,b,-,-,g2⟩:=T.yes h;subst hc;exact⟨a,b,⟨fun e=>absurd e (by decide),fun e=>absurd e (by decide),fun e=>absurd e (by decide),fun e=>absurd e (by decide),fun e=>absurd e (by decide),fun _=>g2⟩⟩
 go:=fun hb W m d r h1 h2 h3 e=>by
  have hl:=h1.se.1;rw[jl] at hl;have h7:=h3.seen rfl;exact jv T (fun z r r' hz hg e=>(ak (by decide) hg.2.2 hz.2.2 e).2) hb (z:=d.seen) ⟨h2.seen,by omega,by rw[G8,oI];omega⟩ e
 le:=T.le
end Go.Proofs.YtfmmandlmbcncaaGreatDoor.Msg
