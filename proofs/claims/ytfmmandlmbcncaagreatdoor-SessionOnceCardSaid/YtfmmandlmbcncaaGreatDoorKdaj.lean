/-
  A part of the proof.
-/
import Derived.Deep.Cut
import Derived.Test.YtfmmandlmbcncaaGreatDoorKdag
import Derived.Test.YtfmmandlmbcncaaGreatDoorKdai
set_option maxHeartbeats 40000000
set_option maxRecDepth 100000
namespace Go.Proofs.YtfmmandlmbcncaaGreatDoor.Msg
open Go.RowKit Go.Lib Mem Tlv
def aC (l:List (ByteArray×ByteArray)):List UInt8:=l.flatMap fun x=>val 3 (val 1 x.1.data.toList++val 2 x.2.data.toList)
def dS (l:List ByteArray):List UInt8:=l.flatMap fun x=>val 1 x.data.toList
def gJ (v:OV)(c:OC)(l:UInt8):List UInt8:=
 if l=110 then val 2 v.name.data.toList else if l=116 then val 3 v.to.data.toList else if l=97 then val 4 (aC c.attrs) else if l=112 then val 5 (dS c.parts)
 else if l=99 then val 6 c.cursor else val 7 (az v.n.toNat)
def ig (v:OV)(c:OC)(l:List UInt8):List UInt8:=val 1 (az v.k.toNat)++l.flatMap (gJ v c)
def opL (v:OV)(c:OC):List UInt8:=ig v c (fieldsOf v.k)
theorem IQ (v:OV)(c:OC)(l:List UInt8)(j:Nat)(x:UInt8)(h:l[j]?=some x):ig v c (l.take (j+1))=ig v c (l.take j)++gJ v c x:=by
 obtain⟨hl,e⟩:=List.getElem?_eq_some_iff.1 h;rw[List.take_succ_eq_append_getElem hl,e];simp[ig]
def Gv (w:World)(l:List UInt8)(e:Ending)(w':World):Prop:=∃ao cap,e=.returned (.slice ao l.length cap)/\Rd w' 1 ao l.length cap (byV l)/\Below w.heap.size w w'/\∀a,ao=some a->w.heap.size<=a.block
structure Fits (v:OV)(c:OC):Prop where
 k0:0<=v.k
 k8:v.k<=8
 name:v.name.size<=1000
 to_:v.to.size<=1000
 cur:c.cursor.length<=4000
 n0:0<=v.n
 n1:v.n<=1000
 lens:∀x,(gJ v c x).length<=10000000
theorem xQ {α:Type}(f:α->List UInt8)(B:Nat)(h:∀x,(f x).length<=B):∀l:List α,(l.flatMap f).length<=l.length*B
 | []=>by simp
 | x::l=>by
  have h1:=h x;have h2:=xQ f B h l;rw[List.flatMap_cons,List.length_append,List.length_cons,Nat.add_mul];omega
theorem JM {v:OV}{c:OC}(h:Fits v c)(l:List UInt8)(hl:l.length<=3):(ig v c l).length<=100000000:=by
 have h1:=xQ (gJ v c) 10000000 h.lens l;have h2:=Nat.mul_le_mul_right 10000000 hl;simp only[ig,List.length_append,ae,ah];omega
structure PutAt (w:World)(it:Nat)(v:OV)(c:OC)(j:Nat)(wr:World):Prop where
 bel:Below w.heap.size w wr
 h1:wr.heap[w.heap.size]?=some v.box
 wr_:WrS (w.heap.size+1) (w.heap.size+1) ⟨ig v c ((fieldsOf v.k).take j),0⟩ wr
 hi:wr.heap[it]?=some (.stringIter ⟨(fieldsOf v.k).toArray⟩ j)
theorem PutAt.put {w wi w2:World}{it j:Nat}{v:OV}{c:OC}{x t:UInt8}{b:List UInt8}{e:Ending}(hb:Below w.heap.size w wi)(h1:wi.heap[w.heap.size]?=some v.box)(hi:wi.heap[it]?=some (.stringIter ⟨(fieldsOf v.k).toArray⟩ (j+1)))
  (hit:it≠w.heap.size+1) (hx:(fieldsOf v.k)[j]?=some x) (ht:t.toNat≠0) (hv:val t b=gJ v c x)
  (h:Turns (w.heap.size+1) (w.heap.size+1) (WS.put ⟨ig v c ((fieldsOf v.k).take j),0⟩ t b) wi e w2):PutAt w it v c (j+1) w2:=by
 obtain⟨-,h2,h3,h4⟩:=h;refine⟨hb.trans (h3.mono (by omega)),(h3.block _ (by omega)).trans h1,?_,h4 it _ hi hit (fun _ _ e=>by cases e)⟩;rw[IQ v c _ j x hx,<-hv];simpa [WS.put,ht] using h2
theorem PutAt.skip {w wr:World}{it j:Nat}{v:OV}{c:OC}(h:PutAt w it v c j wr)(hit:w.heap.size+1<it) :
  Below w.heap.size w (wr.iterAt it ⟨(fieldsOf v.k).toArray⟩ (j+1))/\(wr.iterAt it ⟨(fieldsOf v.k).toArray⟩ (j+1)).heap[w.heap.size]?=some v.box /\
   WrS (w.heap.size+1) (w.heap.size+1) ⟨ig v c ((fieldsOf v.k).take j),0⟩ (wr.iterAt it ⟨(fieldsOf v.k).toArray⟩ (j+1))/\(wr.iterAt it ⟨(fieldsOf v.k).toArray⟩ (j+1)).heap[it]?=some (.stringIter ⟨(fieldsOf v.k).toArray⟩ (j+1)):=by
 refine⟨below_iterAt h.bel (by omega) _ _,(iterAt_other _ _ _ _ _ (by omega)).trans h.h1,?_,iterAt_heap _ _ _ _ _ h.hi⟩;obtain⟨y,hy⟩:=h.wr_;refine⟨y,(iterAt_other _ _ _ _ _ (by omega)).trans hy.at_,hy.le,?_⟩;obtain⟨o1,o2⟩:=hy.own;refine⟨o1,?_⟩;rcases o2 with o2 | ⟨g',cap,cur,e1,e2,e3,e4⟩
 ·exact .inl o2
 refine .inr ⟨g',cap,cur,e1,e2,(iterAt_other _ _ _ _ _ (fun e=>?_)).trans e3,e4⟩;subst e;rw[h.hi] at e3;cases e3
theorem Nz {w W:World}{size:Nat}{ao:Option Addr}{n cap:Nat}{xs:List Value}(h:Rd w size ao n cap xs){a:Addr}(ha:ao=some a)(h0:0<cap){l:List UInt8}{bad:Int}{y:Value}(hy:WrAt (w.heap.size+1) (w.heap.size+1) l bad y W):some a.block≠y.ownBlock:=by
 have:=h.lt h0 a ha;rcases hy.own.2 with ⟨rfl,_⟩ | ⟨g',c,cur,rfl,hB,_⟩
 ·simp[Value.ownBlock]
 intro e;have:a.block=g':=by simpa [Value.ownBlock] using e
 omega
structure OpC (v:OV)(c:OC)(m:Bool)(bl:List UInt8):Prop where
 may:∀W,OpAt W v c->Calls Tryz.prog 40 #[v.val] W (aY m W)
 byts:m=true->∀W,OpAt W v c->Calls Tryz.prog 228 #[v.val] W (Gv W bl)
 len:bl.length<=4000000
structure RV where
 cl:Int
 nu:Int
 op:OV
def RV.cells (r:RV):Array Value:=#[.int .u64 r.cl,.int .u64 r.nu,.int .i64 r.op.k,.string r.op.name,.string r.op.to,.slice r.op.ao r.op.an r.op.ac,.slice r.op.bo r.op.bn r.op.bc,.slice r.op.co r.op.cn r.op.cc,.int .i64 r.op.n]
def RV.val (r:RV):Value:=.agg r.cells
def RV.box (r:RV):Obj:=.cells r.cells 55
theorem gq {W:World}{B:Nat}{r:RV}(h:W.heap[B]?=some r.box):W.cell? ⟨B,0,none⟩=some (.int .u64 r.cl)/\W.cell? ⟨B,1,none⟩=some (.int .u64 r.nu)/\W.cell? ⟨B,2,none⟩=some (.int .i64 r.op.k)/\W.cell? ⟨B,3,none⟩=some (.string r.op.name)/\W.cell? ⟨B,4,none⟩=some (.string r.op.to)/\W.cell? ⟨B,5,none⟩=some (.slice r.op.ao r.op.an r.op.ac)/\W.cell? ⟨B,6,none⟩=some (.slice r.op.bo r.op.bn r.op.bc)/\W.cell? ⟨B,7,none⟩=some (.slice r.op.co r.op.cn r.op.cc)/\W.cell? ⟨B,8,none⟩=some (.int .i64 r.op.n)/\∀i,W.frozen? ⟨B,i,none⟩=false:=by
 unfold RV.box RV.cells at h;simp[World.cell?,World.frozen?,h]
theorem qA (r:RV)(c:OC)(m:Bool)(bl:List UInt8)(w:World)(ho:OpAt w r.op c)(h:OpC r.op c m bl):Calls Tryz.prog 105 #[r.val] w (aY m w):=by
 have hb0:Below w.heap.size w (w.alloc r.box):=(Below.refl _ _).alloc (Nat.le_refl _) _;have hc:=h.may _ (ho.later hb0);unfold RV.box RV.cells at hb0 hc;unfold OV.val at hc;unfold RV.val RV.cells;go_in;go_wp2_with fail;refine hc.mono ?_;rintro e w1 ⟨rfl,hb1⟩;go_wp2_with fail;go_ret;exact⟨rfl,hb0.trans (hb1.mono hb0.size)⟩
def eQ (r:RV)(bl:List UInt8):List UInt8:=val 1 (az r.cl.toNat)++val 2 (az r.nu.toNat)++val 3 bl
theorem gp (r:RV)(bl:List UInt8):(eQ r bl).length=bl.length+31:=by simp only[eQ,List.length_append,ae,ah];omega
def Je (w:World)(l:List UInt8)(e:Ending)(w':World):Prop:=∃ao cap,e=.returned (.tuple #[.slice ao l.length cap,.int .i64 0])/\Rd w' 1 ao l.length cap (byV l)/\Below w.heap.size w w'/\∀a,ao=some a->w.heap.size<=a.block
theorem jF {W:World}{B n size:Nat}{e:TypeId}{ao:Option Addr}{cap:Nat}{xs:List Value}(h:W.ownsRow B e size (.slice ao n cap) n xs):∀a,ao=some a->B<=a.block:=by
 intro a ha;rcases h.2 with ⟨h1,-⟩ | ⟨g,c2,cur,h1,h2,-⟩
 ·cases h1;cases ha
 cases h1;cases ha;exact h2
def InBoxR (w:World)(r:RV)(W:World):Prop:=W.heap[w.heap.size]?=some r.box/\Below w.heap.size w W
theorem InBoxR.step {w W W':World}{r:RV}(h:InBoxR w r W)(hb:Below W.heap.size W W'):InBoxR w r W':=
 ⟨(hb.block _ (Array.getElem?_eq_some_iff.1 h.1).1).trans h.1,h.2.trans (hb.mono h.2.size)⟩
theorem InBoxR.turn {w W W':World}{r:RV}{B:Nat}(h:InBoxR w r W)(hb:Below B W W')(hB:w.heap.size<B):InBoxR w r W':=
 ⟨(hb.block _ hB).trans h.1,h.2.trans (hb.mono (by omega))⟩
theorem InBoxR.drew {w W:World}{r:RV}(h:InBoxR w r W):InBoxR w r W.drew:=⟨h.1,h.2.drew⟩
theorem tK (r:RV)(c:OC)(bl:List UInt8)(w:World)(ho:OpAt w r.op c)(h:OpC r.op c true bl)(h1:0<=r.cl)(h2:0<=r.nu):Calls Tryz.prog 191 #[r.val] w (Je w (eQ r bl)):=by
 have hmo:Tryz.prog.follows .mixedOrders=true:=by kernel_rfl
 obtain⟨cn,hcn⟩:∃n:Nat,r.cl=(n:Int):=⟨r.cl.toNat,by omega⟩
 obtain⟨nn,hnn⟩:∃n:Nat,r.nu=(n:Int):=⟨r.nu.toNat,by omega⟩
 have Hcn:=hid hcn;have Hnn:=hid hnn;clear hcn hnn;have s00:InBoxR w r (w.alloc r.box):=⟨by show (w.heap.push _)[w.heap.size]?=some _;exact Array.getElem?_push_size,(Below.refl _ _).alloc (Nat.le_refl _) _⟩
 have hc:=qA r c true bl _ (ho.later s00.2) h;unfold RV.val at hc;unfold RV.val;unfold RV.box at s00 hc;unfold RV.cells at s00 hc ⊢;go_in;go_wp2_with fail;refine hc.mono ?_;rintro e w1 ⟨rfl,hb1⟩;have s0:=(s00.step hb1).drew;go_wp2_with fail;refine wp_region_held (S:=InBoxR w r) hmo ?_;change wpAnyH _ _ _ _ _ _ _ _ (World.drew _);refine zHp 1 (.pointer (some ⟨w.heap.size,0,none⟩)) rfl s0 ?_;go_simp;refine zHa 2 (.int .u64 r.cl) rfl (by rintro w h;obtain⟨c0,c1,c2,c3,c4,c5,c6,c7,c8,-⟩:=gq h.1;go_simp) s0 ?_;go_simp;refine zHp 4 (.pointer (some ⟨w.heap.size,1,none⟩)) rfl s0 ?_;go_simp;refine zHa 5 (.int .u64 r.nu) rfl (by rintro w h;obtain⟨c0,c1,c2,c3,c4,c5,c6,c7,c8,-⟩:=gq h.1;go_simp) s0 ?_;go_simp;refine zHp 7 (.pointer (some ⟨w.heap.size,2,none⟩)) rfl s0 ?_;go_simp;refine zHa 8 (.agg #[.int .i64 r.op.k,.string r.op.name,.string r.op.to,.slice r.op.ao r.op.an r.op.ac,.slice r.op.bo r.op.bn r.op.bc,.slice r.op.co r.op.cn r.op.cc,.int .i64 r.op.n]) rfl (by rintro w h;obtain⟨c0,c1,c2,c3,c4,c5,c6,c7,c8,-⟩:=gq h.1;go_simp) s0 ?_;go_simp;refine zH1 0 rfl (fun K hK=>?_);go_simp;have g0:WrS w1.heap.size w1.heap.size ⟨[],0⟩ (w1.drew.alloc (.cells #[.slice none 0 0,.int .i64 0] 177)):=⟨_,by show (w1.drew.heap.push _)[w1.drew.heap.size]?=some _;exact Array.getElem?_push_size,Nat.le_refl _,World.ownsRow_nil _ _ _ _⟩
 have s1:InBoxR w r (w1.drew.alloc (.cells #[.slice none 0 0,.int .i64 0] 177)):=s0.step ((Below.refl _ _).alloc (Nat.le_refl _) _);have hlt:w.heap.size<w1.heap.size:=(Array.getElem?_eq_some_iff.1 s0.1).1;refine hK _ _ ⟨s1,?_⟩;clear hK K;refine zH1 3 rfl (fun K hK=>?_);go_simp;rw[Hcn.out];refine (oz w1.heap.size w1.heap.size ⟨[],0⟩ 1 cn _ g0 (by decide)).mono ?_;rintro e w2 ⟨rfl,g1,hb2,-⟩;have s2:=s1.turn hb2 hlt;go_simp;refine hK _ _ ⟨s2,?_⟩;clear hK K;refine zH1 6 rfl (fun K hK=>?_);go_simp;rw[Hnn.out];refine (oz w1.heap.size w1.heap.size _ 2 nn _ g1 (by simp[WS.put,ae,ah])).mono ?_;rintro e w3 ⟨rfl,g2,hb3,-⟩;have s3:=s2.turn hb3 hlt;go_simp;refine hK _ _ ⟨s3,?_⟩;clear hK K;refine zH1 9 rfl (fun K hK=>?_);go_simp;have hcb:=h.byts rfl _ (ho.later s3.2);unfold OV.val at hcb;refine hcb.mono ?_;rintro e w4 ⟨ao,cap,rfl,hr4,hb4,fr4⟩;have s4:=s3.step hb4;have g3:=g2.later hb4;go_simp;refine hK _ _ ⟨s4,?_⟩;clear hK K;refine zH1 10 rfl (fun K hK=>?_);go_simp;refine (jO w1.heap.size w1.heap.size _ 3 bl ao _ cap _ g3 (by simp[WS.put,ae,ah]) (by have:=h.len;omega) hr4 (fun h0 a ha v hv=>by have:=fr4 a ha;exact mJ g2 hb4 this hv)).mono ?_;rintro e w5 ⟨rfl,g4,hb5,-⟩;have s5:=s4.turn hb5 hlt;go_simp;refine hK _ _ ⟨s5,?_⟩;clear hK K;refine zH1 11 rfl (fun K hK=>?_);go_simp;have g5:WrS w1.heap.size w1.heap.size ⟨eQ r bl,0⟩ w5:=by simpa [WS.put,eQ,Hcn.out,Hnn.out] using g4
 obtain⟨y,hy⟩:=g5;refine (pU _ _ _ _ _ hy (by rw[gp];have:=h.len;omega)).mono ?_;rintro e w6 ⟨z,rfl,hz6,hb6⟩;obtain⟨ao6,cap6,rfl,hr6⟩:=Rd.of_own hz6;have s6:=s5.step hb6;go_simp;refine hK _ _ ⟨s6,?_⟩;clear hK K;refine zHa 12 (.slice ao6 (eQ r bl).length cap6) rfl (by rintro w h;obtain⟨c0,c1,c2,c3,c4,c5,c6,c7,c8,-⟩:=gq h.1;go_simp) s6 ?_;go_simp;refine zHa 13 (.int .i64 0) rfl (by rintro w h;obtain⟨c0,c1,c2,c3,c4,c5,c6,c7,c8,-⟩:=gq h.1;go_simp) s6 ?_;go_simp;refine zHp 14 (.slice ao6 (eQ r bl).length cap6) rfl s6 ?_;go_simp;refine zHp 15 (.int .i64 0) rfl s6 ?_;go_simp;refine wpAnyH_done (by kernel_rfl) ?_ _;go_wp2_with fail;go_ret2;exact⟨ao6,cap6,rfl,hr6,s6.2,fun a ha=>Nat.le_trans s5.2.size (jF hz6 a ha)⟩
def dN:RV:=⟨0,0,zeroV⟩
def jP (W:World)(b:Nat)(u:OV):World:=((((((W.setCell ⟨b,2,none⟩ (.int .i64 u.k)).setCell ⟨b,3,none⟩ (.string u.name)).setCell ⟨b,4,none⟩ (.string u.to)).setCell ⟨b,5,none⟩ (.slice u.ao u.an u.ac)).setCell ⟨b,6,none⟩ (.slice u.bo u.bn u.bc)).setCell ⟨b,7,none⟩ (.slice u.co u.cn u.cc)).setCell ⟨b,8,none⟩ (.int .i64 u.n)
theorem uq {W:World}{b:Nat}{r:RV}{u:OV}(h:W.heap[b]?=some r.box):(jP W b u).heap[b]?=some (RV.box ⟨r.cl,r.nu,u⟩):=by
 unfold RV.box RV.cells at h;have h0:=at_set (i:=2) (x:=.int .i64 u.k) h;have h1:=at_set (i:=3) (x:=.string u.name) h0;have h2:=at_set (i:=4) (x:=.string u.to) h1;have h3:=at_set (i:=5) (x:=.slice u.ao u.an u.ac) h2;have h4:=at_set (i:=6) (x:=.slice u.bo u.bn u.bc) h3;have h5:=at_set (i:=7) (x:=.slice u.co u.cn u.cc) h4;have h6:=at_set (i:=8) (x:=.int .i64 u.n) h5;unfold jP;refine h6.trans ?_
 kernel_rfl
theorem yS {W:World}{b:Nat}{u y:OV}{c:OC}(h:OpAt W y c)(fa:∀a,y.ao=some a->a.block≠b)(fb:∀a,y.bo=some a->a.block≠b)(fc:∀a,y.co=some a->a.block≠b):OpAt (jP W b u) y c:=
 ((((((h.set ⟨b,2,none⟩ _ fa fb fc).set ⟨b,3,none⟩ _ fa fb fc).set ⟨b,4,none⟩ _ fa fb fc).set ⟨b,5,none⟩ _ fa fb fc).set ⟨b,6,none⟩ _ fa fb fc).set ⟨b,7,none⟩ _ fa fb fc).set ⟨b,8,none⟩ _ fa fb fc
theorem kY {B:Nat}{w W:World}{b:Nat}{u:OV}(h:Below B w W)(hb:B<=b):Below B w (jP W b u):=
 ((((((h.setCell (p:=⟨b,2,none⟩) hb _).setCell (p:=⟨b,3,none⟩) hb _).setCell (p:=⟨b,4,none⟩) hb _).setCell (p:=⟨b,5,none⟩) hb _).setCell (p:=⟨b,6,none⟩) hb _).setCell (p:=⟨b,7,none⟩) hb _).setCell (p:=⟨b,8,none⟩) hb _
def tJ (W:World)(b:Nat)(r:RV):World:=jP ((W.setCell ⟨b,0,none⟩ (.int .u64 r.cl)).setCell ⟨b,1,none⟩ (.int .u64 r.nu)) b r.op
theorem Jj {W:World}{b:Nat}{r q:RV}(h:W.heap[b]?=some q.box):(tJ W b r).heap[b]?=some r.box:=by
 unfold RV.box RV.cells at h;have h0:=at_set (i:=0) (x:=.int .u64 r.cl) h;have h1:=at_set (i:=1) (x:=.int .u64 r.nu) h0;have h2:((W.setCell ⟨b,0,none⟩ (.int .u64 r.cl)).setCell ⟨b,1,none⟩ (.int .u64 r.nu)).heap[b]?=some (RV.box ⟨r.cl,r.nu,q.op⟩):=h1.trans (by kernel_rfl);exact uq (r:=⟨r.cl,r.nu,q.op⟩) (u:=r.op) h2
theorem Gz {W:World}{b:Nat}{r:RV}{y:OV}{c:OC}(h:OpAt W y c)(fa:∀a,y.ao=some a->a.block≠b)(fb:∀a,y.bo=some a->a.block≠b)(fc:∀a,y.co=some a->a.block≠b):OpAt (tJ W b r) y c:=
 yS ((h.set ⟨b,0,none⟩ _ fa fb fc).set ⟨b,1,none⟩ _ fa fb fc) fa fb fc
theorem Bl {B:Nat}{w W:World}{b:Nat}{r:RV}(h:Below B w W)(hb:B<=b):Below B w (tJ W b r):=
 kY ((h.setCell (p:=⟨b,0,none⟩) hb _).setCell (p:=⟨b,1,none⟩) hb _) hb
theorem CP {f:Func}{i:Nat}{tmps:Array Value}{W:World}{b:Nat}{r:RV}(hr:f.results=#[.cell i 55])(hp:tmps.getD i undef=.pointer (some ⟨b,0,none⟩))(h:W.heap[b]?=some r.box):(results f tmps).run Tryz.prog W=.ok r.val W:=by
 obtain⟨c0,c1,c2,c3,c4,c5,c6,c7,c8,-⟩:=gq h;simp only[results,hr];have hp':tmps[i]?.getD undef=.pointer (some ⟨b,0,none⟩):=by simpa using hp
 unfold RV.val RV.cells;simp[hp',asAddr];go_simp
def iE (r:RV)(c:OC)(w:World)(e:Ending)(w':World):Prop:=∃u:OV,e=.returned (RV.val ⟨r.cl,r.nu,u⟩)/\CopyOf w r.op u/\OpAt w' u c/\Below w.heap.size w w'
theorem CopyOf.low {w W:World}{v u:OV}(h:CopyOf W v u)(hb:w.heap.size<=W.heap.size):CopyOf w v u:=
 ⟨h.ek,h.ename,h.eto,h.en,h.ean,h.ebn,h.ecn,fun a ha=>Nat.le_trans hb (h.fa a ha),fun a ha=>Nat.le_trans hb (h.fb a ha),fun a ha=>Nat.le_trans hb (h.fc a ha),h.na,h.nb,h.nc⟩
theorem vV (r:RV)(c:OC)(w:World)(ho:OpAt w r.op c):Calls Tryz.prog 44 #[r.val] w (iE r c w):=by
 have hb0:Below w.heap.size w ((w.alloc r.box).alloc dN.box):=bU w _ _;obtain⟨k1,k2⟩:=bY w r.box dN.box;have hz:((w.alloc r.box).alloc dN.box).heap.size=w.heap.size+1+1:=by simp
 unfold RV.val RV.cells;go_in;go_wp2_with fail;generalize hg:(w.alloc _).alloc _=W0;have e:(w.alloc r.box).alloc dN.box=W0:=by simp only[RV.box,RV.cells,dN,zeroV];exact hg
 rw[e] at hb0 k1 k2 hz;clear hg e;have hc:=Ep r.op c _ (ho.later hb0);unfold OV.val at hc;refine hc.mono ?_;rintro e w1 ⟨u,rfl,hC,hO,hb1⟩;have q1:=(hb1.block w.heap.size (by omega)).trans k1;have q2:=(hb1.block (w.heap.size+1) (by omega)).trans k2;have hb2:=hb0.trans (hb1.mono hb0.size);obtain⟨c0,c1,c2,c3,c4,c5,c6,c7,c8,c9⟩:=gq q1;have ga:∀i,i<=1->∀a,u.ao=some a->a.block≠w.heap.size+i:=fun i hi a ha=>by have h2:=hC.fa a ha;omega
 have gb:∀i,i<=1->∀a,u.bo=some a->a.block≠w.heap.size+i:=fun i hi a ha=>by have h2:=hC.fb a ha;omega
 have gc:∀i,i<=1->∀a,u.co=some a->a.block≠w.heap.size+i:=fun i hi a ha=>by have h2:=hC.fc a ha;omega
 have HC:=hid (hC.low hb0.size);clear hC;unfold OV.val;go_upto_region 2 with fail;clear c0 c1 c2 c3 c4 c5 c6 c7 c8 c9;generalize hg:World.setCell _ _ _=W4;have e:jP w1 w.heap.size u=W4:=hg;clear hg;have p1:W4.heap[w.heap.size]?=some (RV.box ⟨r.cl,r.nu,u⟩):=by rw[<-e];exact uq q1
 have p2:W4.heap[w.heap.size+1]?=some dN.box:=by rw[<-e];exact af (af (af (af (af (af (af q2 (by omega)) (by omega)) (by omega)) (by omega)) (by omega)) (by omega)) (by omega)
 have p3:OpAt W4 u c:=by rw[<-e];exact yS hO (ga 0 (by omega)) (gb 0 (by omega)) (gc 0 (by omega))
 have p4:Below w.heap.size w W4:=by rw[<-e];exact kY hb2 (Nat.le_refl _)
 clear e;obtain⟨c0,c1,c2,c3,c4,c5,c6,c7,c8,-⟩:=gq p1;obtain⟨d0,d1,d2,d3,d4,d5,d6,d7,d8,d9⟩:=gq p2;dsimp only at c0 c1 c2 c3 c4 c5 c6 c7 c8;go_wp2_with fail;have hF:(tJ W4 (w.heap.size+1) ⟨r.cl,r.nu,u⟩).heap[w.heap.size+1]?=some (RV.box ⟨r.cl,r.nu,u⟩):=Jj p2;refine bodyPost_ret (w:=tJ W4 (w.heap.size+1) ⟨r.cl,r.nu,u⟩) (CP (i:=2) rfl rfl hF) rfl ⟨u,rfl,HC.out,Gz p3 (ga 1 (Nat.le_refl _)) (gb 1 (Nat.le_refl _)) (gc 1 (Nat.le_refl _)),Bl p4 (by omega)⟩
theorem jf (it:Nat->List UInt8)(B:Nat):∀n,(∀i,i<n->(it i).length<=B)->(bi it n).length<=n*B
 | 0,_=>by simp[bi]
 | n+1,h=>by
  have h1:=jf it B n (fun i hi=>h i (by omega));have h2:=h n (by omega);rw[dL,List.length_append,Nat.add_mul];omega
theorem fH (x:ByteArray):x.data.toList.length=x.size:=Utf.dC x
def sN (u:ByteArray×ByteArray)(k:Nat):List UInt8:=if k=0 then val 1 u.1.data.toList else val 2 u.2.data.toList
theorem BZ (u:ByteArray×ByteArray):bi (sN u) 2=val 1 u.1.data.toList++val 2 u.2.data.toList:=by
 simp[bi,sN,List.range_succ]
theorem IA (B g lb ib b1 o1 n cap i k:Nat)(st:WS)(u:ByteArray×ByteArray)(W:World)(hw:WrS B g st W)(hl:st.l.length<=100000000)(hk:k<2)
  (c1:W.cell? ⟨lb,0,none⟩=some (.slice (some ⟨b1,o1,none⟩) n cap)) (c2:W.cell? ⟨ib,0,none⟩=some (.int .i64 (i:Int))) (hi:i<n)
  (c3:W.cell? ⟨b1,o1+i*2,none⟩=some (.string u.1)) (c4:W.cell? ⟨b1,o1+i*2+1,none⟩=some (.string u.2)) (h1:u.1.size<=1000) (h2:u.2.size<=1000) :
  Calls Tryz.prog 234 (#[.pointer (some ⟨g,0,none⟩),.int .i64 (k:Int)]++#[.pointer (some ⟨lb,0,none⟩),.pointer (some ⟨ib,0,none⟩)]) W fun e w'=>(∃r,e=.returned r)/\WrS B g (st.put (if k=0 then 1 else 2) (if k=0 then u.1.data.toList else u.2.data.toList)) w'/\Below B W w':=by
 have i0:(0:Int)<=(i:Int):=by omega
 have i1:(i:Int)<(n:Int):=by omega
 rcases (by omega:k=0\/k=1) with rfl|rfl
 ·go_in;go_wp2_with fail;refine (kN B g st 1 u.1 W hw hl (by omega)).mono ?_;rintro e w' ⟨rfl,q1,q2,q3⟩;go_wp2;refine bodyPost_end (results_none rfl _ _ _) rfl ?_;exact⟨⟨_,rfl⟩,q1,q2⟩
 go_in;go_wp2_with fail;refine (kN B g st 2 u.2 W hw hl (by omega)).mono ?_;rintro e w' ⟨rfl,q1,q2,q3⟩;go_wp2;refine bodyPost_end (results_none rfl _ _ _) rfl ?_;exact⟨⟨_,rfl⟩,q1,q2⟩
theorem JH (B g lb b1 o1 n cap i:Nat)(st:WS)(u:ByteArray×ByteArray)(W:World)(hw:WrS B g st W)(hb:st.bad=0)(hl:st.l.length<=100000000)
  (c1:W.cell? ⟨lb,0,none⟩=some (.slice (some ⟨b1,o1,none⟩) n cap)) (hi:i<n)
  (c3:W.cell? ⟨b1,o1+i*2,none⟩=some (.string u.1)) (c4:W.cell? ⟨b1,o1+i*2+1,none⟩=some (.string u.2)) (h1:u.1.size<=1000) (h2:u.2.size<=1000) :
  Calls Tryz.prog 233 (#[.pointer (some ⟨g,0,none⟩),.int .i64 (i:Int)]++#[.pointer (some ⟨lb,0,none⟩)]) W fun e w'=>(∃r,e=.returned r)/\WrS B g (st.put 3 (val 1 u.1.data.toList++val 2 u.2.data.toList)) w'/\Below B W w':=by
 have hbx:Below W.heap.size W (W.alloc (.cells #[.int .i64 (i:Int)] 3)):=(Below.refl _ W).alloc (Nat.le_refl _) _;have hib:(W.alloc (.cells #[.int .i64 (i:Int)] 3)).cell? ⟨W.heap.size,0,none⟩=some (.int .i64 (i:Int)):=by
  rw[World.cell?_alloc_mark];rfl
 have kc:∀ {a:Addr} {x:Value},W.cell? a=some x->∀W',Below (W.alloc (.cells #[.int .i64 (i:Int)] 3)).heap.size (W.alloc (.cells #[.int .i64 (i:Int)] 3)) W'->W'.cell? a=some x:=fun {a x} h W' hb'=>by
  have e1:=(hbx.cell (World.block_lt_of_cell? W _ h)).trans h;exact (hb'.cell (World.block_lt_of_cell? _ _ e1)).trans e1
 have hW:=qZ B g st 3 2 234 #[.pointer (some ⟨lb,0,none⟩),.pointer (some ⟨W.heap.size,0,none⟩)] (sN u) _ (hw.later hbx) hb (by decide) (enters_of Tryz.func234 (by kernel_rfl) rfl)
  (fun k hk=>by
   unfold sN;rcases (by omega:k=0\/k=1) with rfl|rfl
   ·rw[if_pos rfl];exact⟨jm 1 _ (by decide) (by rw[fH];omega),by rw[ae];omega⟩
   rw[if_neg (by omega)];exact⟨jm 2 _ (by decide) (by rw[fH];omega),by rw[ae];omega⟩)
  (by rw[BZ,List.length_append,ae,ae,fH,fH];omega) hl
  (fun k W' hk hb' hwr=>by
   refine (IA _ _ lb W.heap.size b1 o1 n cap i k _ u W' hwr ?_ hk (kc c1 W' hb') ((hb'.cell (World.block_lt_of_cell? _ _ hib)).trans hib) hi (kc c3 W' hb') (kc c4 W' hb') h1 h2).mono ?_
   ·have:=jf (sN u) 2000 k (fun j hj=>by unfold sN;split<;>rw[ae,fH]<;>omega);dsimp only;omega
   rintro e w' ⟨q1,q2,q3⟩;refine⟨q1,?_,q3⟩;rw[dL];rcases (by omega:k=0\/k=1) with rfl|rfl
   ·simpa [WS.put,sN] using q2
   simpa [WS.put,sN] using q2)
 rw[BZ] at hW;go_in;go_wp2_with fail;refine hW.mono ?_;rintro e w' ⟨rfl,q1,q2,q3⟩;go_wp2;refine bodyPost_end (results_none rfl _ _ _) rfl ?_;exact⟨⟨_,rfl⟩,q1,(hbx.mono hw.le).trans q2⟩
def atE (x:List (ByteArray×ByteArray))(i:Nat):List UInt8:=val 3 (val 1 (x[i]?.getD (⟨#[]⟩,⟨#[]⟩)).1.data.toList++val 2 (x[i]?.getD (⟨#[]⟩,⟨#[]⟩)).2.data.toList)
theorem uU (x:List (ByteArray×ByteArray)):∀n,n<=x.length->bi (atE x) n=aC (x.take n)
 | 0,_=>by simp[bi,aC]
 | n+1,h=>by
  have e:∀(a:List (ByteArray×ByteArray)) u,aC (a++[u])=aC a++val 3 (val 1 u.1.data.toList++val 2 u.2.data.toList):=fun a u=>by simp[aC]
  rw[dL,uU x n (by omega),List.take_succ_eq_append_getElem (by omega),e];simp only[atE,List.getElem?_eq_getElem (show n<x.length by omega),Option.getD_some]
theorem wW (B g:Nat)(st:WS)(t:UInt8)(ao:Option Addr)(n cap:Nat)(x:List (ByteArray×ByteArray))(W:World)(hw:WrS B g st W)(hb:st.bad=0)(hl:st.l.length<=100000000)(hx:Rd W 2 ao n cap (atV x))(hn:n<=50)
  (hs:∀u∈x,u.1.size<=1000/\u.2.size<=1000) :
  Calls Tryz.prog 223 #[.pointer (some ⟨g,0,none⟩),.int .u8 (t.toNat:Int),.slice ao n cap] W fun e w'=>(∃r,e=.returned r)/\WrS B g (st.put t (aC x)) w'/\Below B W w'/\Stays g W w':=by
 have lx:x.length=n:=by have:=hx.1;rw[fE] at this;omega
 have hbx:Below W.heap.size W (W.alloc (.cells #[.slice ao n cap] 32)):=(Below.refl _ W).alloc (Nat.le_refl _) _;have hib:(W.alloc (.cells #[.slice ao n cap] 32)).cell? ⟨W.heap.size,0,none⟩=some (.slice ao n cap):=by
  rw[World.cell?_alloc_mark];rfl
 have hsz:∀i,i<n->∃u,x[i]?=some u/\u.1.size<=1000/\u.2.size<=1000:=fun i hi=>by
  have hi':i<x.length:=by omega
  exact⟨x[i],List.getElem?_eq_getElem hi',hs _ (List.getElem_mem hi')⟩
 have hle:∀i,i<n->(atE x i).length<=3000/\0<(atE x i).length/\jX (atE x i)=1:=fun i hi=>by
  obtain⟨u,hu,h1,h2⟩:=hsz i hi;have e:atE x i=val 3 (val 1 u.1.data.toList++val 2 u.2.data.toList):=by simp[atE,hu]
  rw[e];have hl2:(val 1 u.1.data.toList++val 2 u.2.data.toList).length<=2010:=by rw[List.length_append,ae,ae,fH,fH];omega
  exact⟨by rw[ae];omega,by rw[ae];omega,jm 3 _ (by decide) (by omega)⟩
 have hW:=qZ B g st t n 233 #[.pointer (some ⟨W.heap.size,0,none⟩)] (atE x) _ (hw.later hbx) hb (by omega) (enters_of Tryz.func233 (by kernel_rfl) rfl)
  (fun i hi=>⟨(hle i hi).2.2,(hle i hi).2.1⟩) (by have:=jf (atE x) 3000 n (fun i hi=>(hle i hi).1);omega) hl
  (fun i W' hi hb' hwr=>by
   obtain⟨u,hu,h1,h2⟩:=hsz i hi;have hx':=(hx.later hbx).later hb';obtain⟨b1,o1,rfl,hl1,hc1⟩:=hx'.some (by have:=hx.le;omega);obtain⟨v1,v2⟩:=jE x i u hu;have e:atE x i=val 3 (val 1 u.1.data.toList++val 2 u.2.data.toList):=by simp[atE,hu]
   refine (JH _ _ W.heap.size b1 o1 n cap i _ u W' hwr rfl ?_ ((hb'.cell (World.block_lt_of_cell? _ _ hib)).trans hib) hi (hc1 _ _ v1) (hc1 _ _ v2) h1 h2).mono ?_
   ·have:=jf (atE x) 3000 i (fun j hj=>(hle j (by omega)).1);dsimp only;omega
   rintro e' w' ⟨q1,q2,q3⟩;refine⟨q1,?_,q3⟩;rw[dL,e];simpa [WS.put] using q2)
 rw[uU x n (by omega),List.take_of_length_le (by omega)] at hW;go_in;go_wp2_with fail;refine hW.mono ?_;rintro e w' hT;have h2:=hT.after hw.le hbx;obtain⟨rfl,q1,q2,q3⟩:=h2;go_wp2;refine bodyPost_end (results_none rfl _ _ _) rfl ?_;exact⟨⟨_,rfl⟩,q1,q2,q3⟩
theorem Gy (B g:Nat)(st:WS)(t:UInt8)(ao:Option Addr)(n cap:Nat)(x:List (ByteArray×ByteArray))(W:World)(hw:WrS B g st W)(hb:st.bad=0)(hl:st.l.length<=100000000)(hx:Rd W 2 ao n cap (atV x))(hn:n<=50)
  (hs:∀u∈x,u.1.size<=1000/\u.2.size<=1000) :
  Calls Tryz.prog 236 #[.pointer (some ⟨g,0,none⟩),.int .u8 (t.toNat:Int),.slice ao n cap] W fun e w'=>(∃r,e=.returned r)/\WrS B g (st.put t (aC x)) w'/\Below B W w'/\Stays g W w':=by
 go_in;go_wp2_with fail;refine (wW B g st t ao n cap x W hw hb hl hx hn hs).mono ?_;rintro e w' ⟨⟨r,rfl⟩,q1,q2,q3⟩;go_wp2;refine bodyPost_end (results_none rfl _ _ _) rfl ?_;exact⟨⟨_,rfl⟩,q1,q2,q3⟩
def paE (x:List ByteArray)(i:Nat):List UInt8:=val 1 (x[i]?.getD ⟨#[]⟩).data.toList
theorem yj (x:List ByteArray):∀n,n<=x.length->bi (paE x) n=dS (x.take n)
 | 0,_=>by simp[bi,dS]
 | n+1,h=>by
  have e:∀(a:List ByteArray) u,dS (a++[u])=dS a++val 1 u.data.toList:=fun a u=>by simp[dS]
  rw[dL,yj x n (by omega),List.take_succ_eq_append_getElem (by omega),e];simp only[paE,List.getElem?_eq_getElem (show n<x.length by omega),Option.getD_some]
theorem JS (B g:Nat)(st:WS)(v:OV)(c:OC)(xb i:Nat)(u:ByteArray)(W:World)(hw:WrS B g st W)(hl:st.l.length<=100000000)(hx:W.heap[xb]?=some v.box)(ho:OpAt W v c)(hu:c.parts[i]?=some u)(h1:u.size<=1000) :
  Calls Tryz.prog 237 (#[.pointer (some ⟨g,0,none⟩),.int .i64 (i:Int)]++#[.pointer (some ⟨xb,0,none⟩)]) W fun e w'=>(∃r,e=.returned r)/\WrS B g (st.put 1 u.data.toList) w'/\Below B W w':=by
 obtain⟨-,-,-,-,c4,-,-,-⟩:=aO hx;have hlen:c.parts.length=v.bn:=by have:=ho.b.1;rw[iZ] at this;omega
 have hi:i<v.bn:=by have:=(List.getElem?_eq_some_iff.1 hu).1;omega
 obtain⟨b1,o1,hao,hl1,hc1⟩:=ho.b.some (by have:=ho.b.le;omega);rw[hao] at c4;have c5:=hc1 i _ (pW _ i u hu);have i0:(0:Int)<=(i:Int):=by omega
 have i1:(i:Int)<(v.bn:Int):=by omega
 clear hao;go_in;go_wp2_with fail;refine (kN B g st 1 u W hw hl (by omega)).mono ?_;rintro e w' ⟨rfl,q1,q2,q3⟩;go_wp2;refine bodyPost_end (results_none rfl _ _ _) rfl ?_;exact⟨⟨_,rfl⟩,q1,q2⟩
theorem Gm (B g:Nat)(st:WS)(t:UInt8)(v:OV)(c:OC)(xb:Nat)(W:World)(hw:WrS B g st W)(hb:st.bad=0)(hl:st.l.length<=100000000)(hx:W.heap[xb]?=some v.box)(ho:OpAt W v c)(hn:v.bn<=8)(hs:∀u∈c.parts,u.size<=1000) :
  Calls Tryz.prog 176 #[.pointer (some ⟨g,0,none⟩),.int .u8 (t.toNat:Int),.int .i64 (v.bn:Int),.func (.func 237) #[] #[.pointer (some ⟨xb,0,none⟩)]] W (Turns B g (st.put t (dS c.parts)) W):=by
 have hlen:c.parts.length=v.bn:=by have:=ho.b.1;rw[iZ] at this;omega
 have hsz:∀i,i<v.bn->∃u,c.parts[i]?=some u/\u.size<=1000:=fun i hi=>by
  have hi':i<c.parts.length:=by omega
  exact⟨c.parts[i],List.getElem?_eq_getElem hi',hs _ (List.getElem_mem hi')⟩
 have hle:∀i,i<v.bn->(paE c.parts i).length<=3000/\0<(paE c.parts i).length/\jX (paE c.parts i)=1:=fun i hi=>by
  obtain⟨u,hu,h1⟩:=hsz i hi;have e:paE c.parts i=val 1 u.data.toList:=by simp[paE,hu]
  rw[e];exact⟨by rw[ae,fH];omega,by rw[ae];omega,jm 1 _ (by decide) (by rw[fH];omega)⟩
 have hW:=qZ B g st t v.bn 237 #[.pointer (some ⟨xb,0,none⟩)] (paE c.parts) W hw hb (by omega) (enters_of Tryz.func237 (by kernel_rfl) rfl)
  (fun i hi=>⟨(hle i hi).2.2,(hle i hi).2.1⟩) (by have:=jf (paE c.parts) 3000 v.bn (fun i hi=>(hle i hi).1);omega) hl
  (fun i W' hi hb' hwr=>by
   obtain⟨u,hu,h1⟩:=hsz i hi;have e:paE c.parts i=val 1 u.data.toList:=by simp[paE,hu]
   refine (JS _ _ _ v c xb i u W' hwr ?_ ((hb'.block _ (Array.getElem?_eq_some_iff.1 hx).1).trans hx) (ho.later hb') hu h1).mono ?_
   ·have:=jf (paE c.parts) 3000 i (fun j hj=>(hle j (by omega)).1);dsimp only;omega
   rintro e' w' ⟨q1,q2,q3⟩;refine⟨q1,?_,q3⟩;rw[dL,e];simpa [WS.put] using q2)
 rw[yj _ _ (by omega),List.take_of_length_le (by omega)] at hW;exact hW
end Go.Proofs.YtfmmandlmbcncaaGreatDoor.Msg
