/-A part of the proof.-/
import Derived.Test.YtfmmandlmbcncaaGreatDoorKfaf
import Derived.Test.YtfmmandlmbcncaaGreatDoorKfai
set_option maxHeartbeats 40000000
set_option maxRecDepth 100000
set_option linter.all false
namespace Go.Proofs.YtfmmandlmbcncaaGreatDoor
namespace Msg
open Go.RowKit Mem
def xq (w:World)(size:Nat)(xs:List Value)(n:Nat)(ao0:Option Addr)(e:Ending)(w':World):Prop:=
 ∃ao cap,e=.returned (.slice ao n cap)/\Rd w' size ao n cap xs/\Below w.heap.size w w'/\(∀a,ao=some a->w.heap.size<=a.block)/\(ao0=none->ao=none/\cap=0)
theorem Qq (l:List ByteArray):∀u∈txV l,u.oneCell'=true:=by
 intro u hu;simp only[txV,ybM] at hu;obtain⟨c,_,rfl⟩:=hu;rfl
theorem Pg (l:List (ByteArray×ByteArray)):∀u∈atV l,u.oneCell'=true:=by
 intro u hu;simp only[atV,List.mem_flatMap,yas,yal,or_false] at hu;obtain⟨c,_,rfl|rfl⟩:=hu<;>rfl
theorem xU {w w1:World}{t:TypeId}{size:Nat}{xs:List Value}{n:Nat}{a0:Addr}{ao:Option Addr}{cap:Nat}(ho:w1.ownsRow w.heap.size t size (.slice ao (0+n) cap) (0+n) ([]++xs))(hb:Below w.heap.size w w1):xq w size xs n (some a0) (.returned (.slice ao n cap)) w1:=by
 rw[ybL,ybO] at ho;refine⟨ao,cap,rfl,Rd.of_own_slice ho,hb,fun a ha=>?_,fun h=>by cases h⟩;rcases ho.2 with ⟨h,_⟩ | ⟨g,c,cur,h,hg,_⟩
 ·have:=(ybC h).1;rw[ha] at this;cases this
 have:=(ybC h).1;rw[ha] at this;cases this;exact hg
theorem uC:SliceT Tryz.prog 33 9 (.string ⟨#[]⟩) 1 16:=⟨Tryz.underlying33,by kernel_rfl,rfl,by decide⟩
theorem LK (ao:Option Addr)(n cap:Nat)(l:List ByteArray)(w:World)(hr:Rd w 1 ao n cap (txV l))(hn:n<=1000000000) :
  Calls Tryz.prog 126 #[.slice ao n cap] w (xq w 1 (txV l) n ao):=by
 cases ao with
 | none=>
  have hc:=hr.2.2.2.1 rfl;obtain⟨h0,hx⟩:=hr.empty hc;subst hc;subst h0;have hn0:Sem.run Tryz.prog (binOp BinOp.eql 33 (.slice none 0 0) (.slice none 0 0)) w=.ok (.bool true) w:=by kernel_rfl
  go_in;go_wp2;go_ret;exact⟨none,0,rfl,hr,yaj _ _,(fun a ha=>by cases ha),fun _=>⟨rfl,rfl⟩⟩
 | some a=>
  have hn0:Sem.run Tryz.prog (binOp BinOp.eql 33 (.slice (some a) n cap) (.slice none 0 0)) w=.ok (.bool false) w:=by kernel_rfl
  go_in;have ho0:(w.alloc (.cells #[] 9)).ownsRow w.heap.size 9 1 (.slice (some ⟨w.heap.size,0,none⟩) 0 0) 0 []:=by
   refine⟨rfl,.inr ⟨w.heap.size,0,#[],rfl,?_⟩⟩;exact⟨yag _,(by show (w.heap.push _)[w.heap.size]?=some _;simp),yag _,yam _,rfl,rfl⟩
  go_wp2_with (at_builtin;refine dZ _ rfl (.tmp 5) (.tmp 6) 33 rfl w.heap.size 9 (.string ⟨#[]⟩) 1 16 uC _ 0 [] rfl ho0 (some a) n cap (txV l) rfl (hr.later ((yaj _ w).alloc (yag _) _)) (Qq _) (by unfold maxLen;omega) (by omega) (by simp) ?_;intro ao' cap' w1 ho1 _ hb1 _);go_ret;exact xU ho1 (((yaj _ w).alloc (yag _) _).trans hb1)
theorem Ip:SliceT Tryz.prog 34 5 (.int .u8 0) 1 1:=⟨Tryz.underlying34,by kernel_rfl,rfl,by decide⟩
theorem BD (ao:Option Addr)(n cap:Nat)(l:List UInt8)(w:World)(hr:Rd w 1 ao n cap (byV l))(hn:n<=1000000000) :
  Calls Tryz.prog 98 #[.slice ao n cap] w (xq w 1 (byV l) n ao):=by
 cases ao with
 | none=>
  have hc:=hr.2.2.2.1 rfl;obtain⟨h0,hx⟩:=hr.empty hc;subst hc;subst h0;have hn0:Sem.run Tryz.prog (binOp BinOp.eql 34 (.slice none 0 0) (.slice none 0 0)) w=.ok (.bool true) w:=by kernel_rfl
  go_in;go_wp2;go_ret;exact⟨none,0,rfl,hr,yaj _ _,(fun a ha=>by cases ha),fun _=>⟨rfl,rfl⟩⟩
 | some a=>
  have hn0:Sem.run Tryz.prog (binOp BinOp.eql 34 (.slice (some a) n cap) (.slice none 0 0)) w=.ok (.bool false) w:=by kernel_rfl
  go_in;have ho0:(w.alloc (.cells #[] 5)).ownsRow w.heap.size 5 1 (.slice (some ⟨w.heap.size,0,none⟩) 0 0) 0 []:=by
   refine⟨rfl,.inr ⟨w.heap.size,0,#[],rfl,?_⟩⟩;exact⟨yag _,(by show (w.heap.push _)[w.heap.size]?=some _;simp),yag _,yam _,rfl,rfl⟩
  go_wp2_with (at_builtin;refine dZ _ rfl (.tmp 5) (.tmp 6) 34 rfl w.heap.size 5 (.int .u8 0) 1 1 Ip _ 0 [] rfl ho0 (some a) n cap (byV l) rfl (hr.later ((yaj _ w).alloc (yag _) _)) (bM _) (by unfold maxLen;omega) (by omega) (by simp) ?_;intro ao' cap' w1 ho1 _ hb1 _);go_ret;exact xU ho1 (((yaj _ w).alloc (yag _) _).trans hb1)
theorem oP:SliceT Tryz.prog 32 106 (.agg #[.string ⟨#[]⟩,.string ⟨#[]⟩]) 2 32:=⟨Tryz.underlying32,by kernel_rfl,rfl,by decide⟩
theorem Bz (ao:Option Addr)(n cap:Nat)(l:List (ByteArray×ByteArray))(w:World)(hr:Rd w 2 ao n cap (atV l))(hn:n<=1000000000) :
  Calls Tryz.prog 125 #[.slice ao n cap] w (xq w 2 (atV l) n ao):=by
 cases ao with
 | none=>
  have hc:=hr.2.2.2.1 rfl;obtain⟨h0,hx⟩:=hr.empty hc;subst hc;subst h0;have hn0:Sem.run Tryz.prog (binOp BinOp.eql 32 (.slice none 0 0) (.slice none 0 0)) w=.ok (.bool true) w:=by kernel_rfl
  go_in;go_wp2;go_ret;exact⟨none,0,rfl,hr,yaj _ _,(fun a ha=>by cases ha),fun _=>⟨rfl,rfl⟩⟩
 | some a=>
  have hn0:Sem.run Tryz.prog (binOp BinOp.eql 32 (.slice (some a) n cap) (.slice none 0 0)) w=.ok (.bool false) w:=by kernel_rfl
  go_in;have ho0:(w.alloc (.cells #[] 106)).ownsRow w.heap.size 106 2 (.slice (some ⟨w.heap.size,0,none⟩) 0 0) 0 []:=by
   refine⟨rfl,.inr ⟨w.heap.size,0,#[],rfl,?_⟩⟩;exact⟨yag _,(by show (w.heap.push _)[w.heap.size]?=some _;simp),yag _,yam _,rfl,rfl⟩
  go_wp2_with (at_builtin;refine dZ _ rfl (.tmp 5) (.tmp 6) 32 rfl w.heap.size 106 (.agg #[.string ⟨#[]⟩,.string ⟨#[]⟩]) 2 32 oP _ 0 [] rfl ho0 (some a) n cap (atV l) rfl (hr.later ((yaj _ w).alloc (yag _) _)) (Pg _) (by unfold maxLen;omega) (by omega) (by simp) ?_;intro ao' cap' w1 ho1 _ hb1 _);go_ret;exact xU ho1 (((yaj _ w).alloc (yag _) _).trans hb1)
end Msg
namespace Msg
open Go.RowKit Go.Lib Mem
variable{W w:World}{b:Nat}{c:OC}{u v:OV}
structure CopyOf (w:World)(v u:OV):Prop where
 ek:u.k=v.k
 ename:u.name=v.name
 eto:u.to=v.to
 en:u.n=v.n
 ean:u.an=v.an
 ebn:u.bn=v.bn
 ecn:u.cn=v.cn
 fa:∀a,u.ao=some a->w.heap.size<=a.block
 fb:∀a,u.bo=some a->w.heap.size<=a.block
 fc:∀a,u.co=some a->w.heap.size<=a.block
 na:v.ao=none->u.ao=none/\u.ac=0
 nb:v.bo=none->u.bo=none/\u.bc=0
 nc:v.co=none->u.co=none/\u.cc=0
def Rw (v:OV)(c:OC)(w:World)(e:Ending)(w':World):Prop:=∃u:OV,e=.returned u.val/\CopyOf w v u/\OpAt w' u c/\Below w.heap.size w w'
def InTwo (w:World)(v:OV)(W:World):Prop:=InBox w v W/\W.heap[w.heap.size+1]?=some zeroV.box
theorem InTwo.step{W':World}(h:InTwo w v W)(hb:Below W.heap.size W W'):InTwo w v W':=
 ⟨h.1.step hb,(hb.q h.2)⟩
theorem sS{size:Nat}{ao:Option Addr}{n cap:Nat}{xs:List Value}(h:Rd W size ao n cap xs)(p:Addr)(x:Value)(hd:∀a,ao=some a->a.block≠p.block):Rd (W.setCell p x) size ao n cap xs:=by
 obtain⟨h1,h2,h3,h4,h5⟩:=h;refine⟨h1,h2,h3,h4,fun h0 a ha=>?_⟩;obtain⟨s,l,c⟩:=h5 h0 a ha;exact⟨s,by simpa using l,fun j u hu=>(yaK (a:=⟨a.block,a.off+j,none⟩) (yaA W p x _ (hd a ha))).trans (c j u hu)⟩
theorem OpAt.set(h:OpAt W u c)(p:Addr)(x:Value)(fa:∀a,u.ao=some a->a.block≠p.block)(fb:∀a,u.bo=some a->a.block≠p.block)(fc:∀a,u.co=some a->a.block≠p.block):OpAt (W.setCell p x) u c:=
 ⟨sS h.a p x fa,sS h.b p x fb,sS h.c p x fc,h.la,h.lb,h.lc⟩
def sU (W:World)(b:Nat)(u:OV):World:=((((((W.setCell ⟨b,0,none⟩ (.int .i64 u.k)).setCell ⟨b,1,none⟩ (.string u.name)).setCell ⟨b,2,none⟩ (.string u.to)).setCell ⟨b,3,none⟩ (.slice u.ao u.an u.ac)).setCell ⟨b,4,none⟩ (.slice u.bo u.bn u.bc)).setCell ⟨b,5,none⟩ (.slice u.co u.cn u.cc)).setCell ⟨b,6,none⟩ (.int .i64 u.n)
theorem Ll(h:W.heap[b]?=some v.box):(sU W b u).heap[b]?=some u.box:=
 by
 unfold OV.box at h;have h0:=at_set (i:=0) (x:=.int .i64 u.k) h;have h1:=at_set (i:=1) (x:=.string u.name) h0;have h2:=at_set (i:=2) (x:=.string u.to) h1;have h3:=at_set (i:=3) (x:=.slice u.ao u.an u.ac) h2;have h4:=at_set (i:=4) (x:=.slice u.bo u.bn u.bc) h3;have h5:=at_set (i:=5) (x:=.slice u.co u.cn u.cc) h4;have h6:=at_set (i:=6) (x:=.int .i64 u.n) h5;unfold sU;refine h6.trans ?_
 kernel_rfl
theorem JG{y:OV}(h:OpAt W y c)(fa:∀a,y.ao=some a->a.block≠b)(fb:∀a,y.bo=some a->a.block≠b)(fc:∀a,y.co=some a->a.block≠b):OpAt (sU W b u) y c:=
 ((((((h.set ⟨b,0,none⟩ _ fa fb fc).set ⟨b,1,none⟩ _ fa fb fc).set ⟨b,2,none⟩ _ fa fb fc).set ⟨b,3,none⟩ _ fa fb fc).set ⟨b,4,none⟩ _ fa fb fc).set ⟨b,5,none⟩ _ fa fb fc).set ⟨b,6,none⟩ _ fa fb fc
theorem Ej{B:Nat}(h:Below B w W)(hb:B<=b):Below B w (sU W b u):=
 ((((((h.setCell (p:=⟨b,0,none⟩) hb _).setCell (p:=⟨b,1,none⟩) hb _).setCell (p:=⟨b,2,none⟩) hb _).setCell (p:=⟨b,3,none⟩) hb _).setCell (p:=⟨b,4,none⟩) hb _).setCell (p:=⟨b,5,none⟩) hb _).setCell (p:=⟨b,6,none⟩) hb _
theorem Gs(v:OV)(c:OC)(w:World)(ho:OpAt w v c):Calls Tryz.prog 81 #[v.val] w (Rw v c w):=by
 have hmo:=hmO
 have s0:InTwo w v ((w.alloc v.box).alloc zeroV.box).drew:=by
  obtain⟨h1,h2⟩:=dh w v.box zeroV.box;exact⟨⟨h1,(cu w _ _).drew⟩,h2⟩
 unfold OV.val;go_in;go_wp2_with fail;refine dN (k:=10) (S:=InTwo w v) hmo ?_;change bV _ _ _ _ _ _ _ _ _ (World.drew _);have zf0:=fun (w0:World) (h:InTwo w v w0)=>aC h.1.1;refine ztp 0 (pp w.heap.size 3) rfl ?_;go_simp;refine ztv 1 (.slice v.ao v.an v.ac) rfl ?_;go_simp;refine ztp 3 (pp w.heap.size 4) rfl ?_;go_simp;refine ztv 4 (.slice v.bo v.bn v.bc) rfl ?_;go_simp;refine ztp 6 (pp w.heap.size 5) rfl ?_;go_simp;refine ztv 7 (.slice v.co v.cn v.cc) rfl ?_;go_simp;refine zT1 2 rfl (fun K hK=>?_);go_simp;have o0:=ho.later s0.1.2;refine (Bz _ _ _ c.attrs _ o0.a o0.la).mono ?_;rintro e W1 ⟨a1,k1,rfl,r1,hb1,fr1,nl1⟩;have s1:=s0.step hb1;have l0:=s0.1.2.size;go_simp;refine hK _ _ ⟨.inr s1,?_⟩;clear hK K;refine ztp 9 (pp w.heap.size 3) rfl ?_;go_simp;refine zT1 5 rfl (fun K hK=>?_);go_simp;have o1:=ho.later s1.1.2;refine (LK _ _ _ c.parts _ o1.b o1.lb).mono ?_;rintro e W2 ⟨a2,k2,rfl,r2,hb2,fr2,nl2⟩;have s2:=s1.step hb2;have l1:=s1.1.2.size;go_simp;refine hK _ _ ⟨.inr s2,?_⟩;clear hK K;refine zT1 8 rfl (fun K hK=>?_);go_simp;have o2:=ho.later s2.1.2;refine (BD _ _ _ c.cursor _ o2.c o2.lc).mono ?_;rintro e W3 ⟨a3,k3,rfl,r3,hb3,fr3,nl3⟩;have s3:=s2.step hb3;have l2:=s2.1.2.size;go_simp;refine hK _ _ ⟨.inr s3,?_⟩;clear hK K;obtain⟨b0,b1,b2,b3,b4,b5,b6,b7⟩:=aC s3.1.1;refine nM (by kernel_rfl) (by kernel_rfl) ?_;refine zA1 10 rfl (fun K hK=>?_);go_simp;refine hK _ _ ?_;clear hK K;refine zA1 11 rfl (fun K hK=>?_);go_simp;refine hK _ _ ?_;clear hK K;refine zA1 12 rfl (fun K hK=>?_);go_simp;refine hK _ _ ?_;clear hK K;refine zA1 13 rfl (fun K hK=>?_);go_simp;refine hK _ _ ?_;clear hK K;refine zA1 14 rfl (fun K hK=>?_);go_simp;refine hK _ _ ?_;clear hK K;refine yby (by kernel_rfl) ?_ _;have hW:=at_set (i:=5) (x:=.slice a3 v.cn k3) (at_set (i:=4) (x:=.slice a2 v.bn k2) (at_set (i:=3) (x:=.slice a1 v.an k1) s3.1.1));obtain⟨u,hu⟩:∃u:OV,u=⟨v.k,v.name,v.to,a1,v.an,k1,a2,v.bn,k2,a3,v.cn,k3,v.n⟩:=⟨_,rfl⟩
 have hU:(((W3.setCell ⟨w.heap.size,3,none⟩ (.slice a1 v.an k1)).setCell ⟨w.heap.size,4,none⟩ (.slice a2 v.bn k2)).setCell ⟨w.heap.size,5,none⟩ (.slice a3 v.cn k3)).heap[w.heap.size]?=some u.box:=by rw[hu];exact hW
 have hZ:(((W3.setCell ⟨w.heap.size,3,none⟩ (.slice a1 v.an k1)).setCell ⟨w.heap.size,4,none⟩ (.slice a2 v.bn k2)).setCell ⟨w.heap.size,5,none⟩ (.slice a3 v.cn k3)).heap[w.heap.size+1]?=some zeroV.box:=ah (ah (ah s3.2 (by omega)) (by omega)) (by omega);have hlow:∀i,w.heap.size<=(⟨w.heap.size,i,none⟩:Addr).block:=fun i=>yag _;have hB:=((s3.1.2.setCell (hlow 3) (.slice a1 v.an k1)).setCell (hlow 4) (.slice a2 v.bn k2)).setCell (hlow 5) (.slice a3 v.cn k3);have hC:CopyOf w v u:=by
  subst hu;exact⟨rfl,rfl,rfl,rfl,rfl,rfl,rfl,fun a ha=>yae l0 (fr1 a ha),fun a ha=>yae l1 (fr2 a ha),fun a ha=>yae l2 (fr3 a ha),nl1,nl2,nl3⟩
 have hz:((w.alloc v.box).alloc zeroV.box).drew.heap.size=w.heap.size+1+1:=by simp
 have lz:w.heap.size+1+1<=W1.heap.size:=yae (yaR hz.symm) hb1.size;have lz2:=hb2.size;have ga:∀i,i<=1->∀a,u.ao=some a->a.block≠w.heap.size+i:=fun i hi a ha=>by subst hu;have h1:=fr1 a ha;have h2:=yae (yaR hz.symm) h1;omega
 have gb:∀i,i<=1->∀a,u.bo=some a->a.block≠w.heap.size+i:=fun i hi a ha=>by subst hu;have h1:=fr2 a ha;omega
 have gc:∀i,i<=1->∀a,u.co=some a->a.block≠w.heap.size+i:=fun i hi a ha=>by subst hu;have h1:=fr3 a ha;omega
 have hO:OpAt W3 u c:=by
  subst hu;exact⟨(r1.later hb2).later hb3,r2.later hb3,r3,ho.la,ho.lb,ho.lc⟩
 have hO4:=((hO.set ⟨w.heap.size,3,none⟩ (.slice a1 v.an k1) (ga 0 (by omega)) (gb 0 (by omega)) (gc 0 (by omega))).set ⟨w.heap.size,4,none⟩ (.slice a2 v.bn k2) (ga 0 (by omega)) (gb 0 (by omega)) (gc 0 (by omega))).set ⟨w.heap.size,5,none⟩ (.slice a3 v.cn k3) (ga 0 (by omega)) (gb 0 (by omega)) (gc 0 (by omega));obtain⟨d0,d1,d2,d3,d4,d5,d6,-⟩:=aC hU;obtain⟨e0,e1,e2,e3,e4,e5,e6,e7⟩:=aC hZ;have HC:=hid hC;clear hu hC b0 b1 b2 b3 b4 b5 b6 b7 hU hW hlow;generalize ((W3.setCell ⟨w.heap.size,3,none⟩ (.slice a1 v.an k1)).setCell ⟨w.heap.size,4,none⟩ (.slice a2 v.bn k2)).setCell ⟨w.heap.size,5,none⟩ (.slice a3 v.cn k3)=W4 at *;go_wp2_with fail;have hF:(sU W4 (w.heap.size+1) u).heap[w.heap.size+1]?=some u.box:=Ll hZ;refine yay (w:=sU W4 (w.heap.size+1) u) (zu (i:=2) rfl rfl hF) rfl ⟨u,rfl,HC.out,JG hO4 (ga 1 (yag _)) (gb 1 (yag _)) (gc 1 (yag _)),Ej hB (by omega)⟩
end Msg
namespace Msg
open Go.RowKit Go.Lib Mem Tlv
variable{B cap it j n size:Nat}{W W' w:World}{ao:Option Addr}{c:OC}{v:OV}{xs:List Value}
def aI (l:List (ByteArray×ByteArray)):List UInt8:=l.flatMap fun x=>val 3 (val 1 x.1.data.toList++val 2 x.2.data.toList)
def bT (l:List ByteArray):List UInt8:=l.flatMap fun x=>val 1 x.data.toList
def dV (v:OV)(c:OC)(l:UInt8):List UInt8:=
 if l=110 then val 2 v.name.data.toList else if l=116 then val 3 v.to.data.toList else if l=97 then val 4 (aI c.attrs) else if l=112 then val 5 (bT c.parts)
 else if l=99 then val 6 c.cursor else val 7 (au v.n.toNat)
def iK (v:OV)(c:OC)(l:List UInt8):List UInt8:=val 1 (au v.k.toNat)++l.flatMap (dV v c)
def opL (v:OV)(c:OC):List UInt8:=iK v c (fieldsOf v.k)
theorem Jw(v:OV)(c:OC)(l:List UInt8)(j:Nat)(x:UInt8)(h:l[j]?=some x):iK v c (l.take (j+1))=iK v c (l.take j)++dV v c x:=by
 obtain⟨hl,e⟩:=yao.1 h;rw[yau hl,e];simp[iK]
def Ju (w:World)(l:List UInt8)(e:Ending)(w':World):Prop:=∃ao cap,e=.returned (.slice ao l.length cap)/\Rd w' 1 ao l.length cap (byV l)/\Below w.heap.size w w'/\∀a,ao=some a->w.heap.size<=a.block
structure Fits (v:OV)(c:OC):Prop where
 k0:0<=v.k
 k8:v.k<=8
 name:v.name.size<=1000
 to_:v.to.size<=1000
 cur:c.cursor.length<=4000
 n0:0<=v.n
 n1:v.n<=1000
 lens:∀x,(dV v c x).length<=10000000
theorem Ap{α:Type}(f:α->List UInt8)(B:Nat)(h:∀x,(f x).length<=B):∀l:List α,(l.flatMap f).length<=l.length*B
 | []=>by simp
 | x::l=>by
  have h1:=h x;have h2:=Ap f B h l;rw[yaH,yab,yaF,Nat.add_mul];omega
theorem MN(h:Fits v c)(l:List UInt8)(hl:l.length<=3):(iK v c l).length<=100000000:=by
 have h1:=Ap (dV v c) 10000000 h.lens l;have h2:=ybc 10000000 hl;simp only[iK,yab,ae,ai];omega
structure PutAt (w:World)(it:Nat)(v:OV)(c:OC)(j:Nat)(wr:World):Prop where
 bel:Below w.heap.size w wr
 h1:wr.heap[w.heap.size]?=some v.box
 wr_:WrS (w.heap.size+1) (w.heap.size+1) ⟨iK v c ((fieldsOf v.k).take j),0⟩ wr
 hi:wr.heap[it]?=some (.stringIter ⟨(fieldsOf v.k).toArray⟩ j)
theorem PutAt.put{wi w2:World}{x t:UInt8}{b:List UInt8}{e:Ending}(hb:Below w.heap.size w wi)(h1:wi.heap[w.heap.size]?=some v.box)(hi:wi.heap[it]?=some (.stringIter ⟨(fieldsOf v.k).toArray⟩ (j+1)))
  (hit:it≠w.heap.size+1) (hx:(fieldsOf v.k)[j]?=some x) (ht:t.toNat≠0) (hv:val t b=dV v c x)
  (h:Turns (w.heap.size+1) (w.heap.size+1) (WS.put ⟨iK v c ((fieldsOf v.k).take j),0⟩ t b) wi e w2):PutAt w it v c (j+1) w2:=by
 obtain⟨-,h2,h3,h4⟩:=h;refine⟨hb.trans (h3.mono (by omega)),(h3.block _ (by omega)).trans h1,?_,h4 it _ hi hit (fun _ _ e=>by cases e)⟩;rw[Jw v c _ j x hx,<-hv];simpa [WS.put,ht] using h2
theorem PutAt.skip{wr:World}(h:PutAt w it v c j wr)(hit:w.heap.size+1<it) :
  Below w.heap.size w (wr.iterAt it ⟨(fieldsOf v.k).toArray⟩ (j+1))/\(wr.iterAt it ⟨(fieldsOf v.k).toArray⟩ (j+1)).heap[w.heap.size]?=some v.box /\
   WrS (w.heap.size+1) (w.heap.size+1) ⟨iK v c ((fieldsOf v.k).take j),0⟩ (wr.iterAt it ⟨(fieldsOf v.k).toArray⟩ (j+1))/\(wr.iterAt it ⟨(fieldsOf v.k).toArray⟩ (j+1)).heap[it]?=some (.stringIter ⟨(fieldsOf v.k).toArray⟩ (j+1)):=by
 refine⟨below_iterAt h.bel (by omega) _ _,(iterAt_other _ _ _ _ _ (by omega)).trans h.h1,?_,iterAt_heap _ _ _ _ _ h.hi⟩;obtain⟨y,hy⟩:=h.wr_;refine⟨y,(iterAt_other _ _ _ _ _ (by omega)).trans hy.at_,hy.le,?_⟩;obtain⟨o1,o2⟩:=hy.own;refine⟨o1,?_⟩;rcases o2 with o2 | ⟨g',cap,cur,e1,e2,e3,e4⟩
 ·exact .inl o2
 refine .inr ⟨g',cap,cur,e1,e2,(iterAt_other _ _ _ _ _ (fun e=>?_)).trans e3,e4⟩;subst e;rw[h.hi] at e3;cases e3
theorem Rf(h:Rd w size ao n cap xs){a:Addr}(ha:ao=some a)(h0:0<cap){l:List UInt8}{bad:Int}{y:Value}(hy:WrAt (w.heap.size+1) (w.heap.size+1) l bad y W):some a.block≠y.ownBlock:=by
 have:=h.lt h0 a ha;rcases hy.own.2 with ⟨rfl,_⟩ | ⟨g',c,cur,rfl,hB,_⟩
 ·simp[Value.ownBlock]
 intro e;have:a.block=g':=by simpa [Value.ownBlock] using e
 omega
theorem ku(it:Nat->List UInt8)(B:Nat):∀n,(∀i,i<n->(it i).length<=B)->(bK it n).length<=n*B
 | 0,_=>by simp[bK]
 | n+1,h=>by
  have h1:=ku it B n (fun i hi=>h i (by omega));have h2:=h n (by omega);rw[ed,yab,Nat.add_mul];omega
theorem gV(x:ByteArray):x.data.toList.length=x.size:=Utf.dI x
def wO (u:ByteArray×ByteArray)(k:Nat):List UInt8:=if k=0 then val 1 u.1.data.toList else val 2 u.2.data.toList
theorem Ci(u:ByteArray×ByteArray):bK (wO u) 2=val 1 u.1.data.toList++val 2 u.2.data.toList:=by
 simp[bK,wO,List.range_succ]
theorem JZ(B g lb ib b1 o1 n cap i k:Nat)(st:WS)(u:ByteArray×ByteArray)(W:World)(hw:WrS B g st W)(hl:st.l.length<=100000000)(hk:k<2)
  (c1:W.cell? ⟨lb,0,none⟩=some (.slice (some ⟨b1,o1,none⟩) n cap)) (c2:W.cell? ⟨ib,0,none⟩=some (.int .i64 (i:Int))) (hi:i<n)
  (c3:W.cell? ⟨b1,o1+i*2,none⟩=some (.string u.1)) (c4:W.cell? ⟨b1,o1+i*2+1,none⟩=some (.string u.2)) (h1:u.1.size<=1000) (h2:u.2.size<=1000) :
  Calls Tryz.prog 234 (#[.pointer (some ⟨g,0,none⟩),.int .i64 (k:Int)]++#[.pointer (some ⟨lb,0,none⟩),.pointer (some ⟨ib,0,none⟩)]) W fun e w'=>(∃r,e=.returned r)/\WrS B g (st.put (if k=0 then 1 else 2) (if k=0 then u.1.data.toList else u.2.data.toList)) w'/\Below B W w':=by
 have i0:(0:Int)<=(i:Int):=by omega
 have i1:(i:Int)<(n:Int):=by omega
 rcases (by omega:k=0\/k=1) with rfl|rfl
 ·go_in;go_wp2_with fail;refine (mJ B g st 1 u.1 W hw hl (by omega)).mono ?_;rintro e w' ⟨rfl,q1,q2,q3⟩;go_wp2;refine yaL (yaJ rfl _ _ _) rfl ?_;exact⟨⟨_,rfl⟩,q1,q2⟩
 go_in;go_wp2_with fail;refine (mJ B g st 2 u.2 W hw hl (by omega)).mono ?_;rintro e w' ⟨rfl,q1,q2,q3⟩;go_wp2;refine yaL (yaJ rfl _ _ _) rfl ?_;exact⟨⟨_,rfl⟩,q1,q2⟩
theorem Oe(B g lb b1 o1 n cap i:Nat)(st:WS)(u:ByteArray×ByteArray)(W:World)(hw:WrS B g st W)(hb:st.bad=0)(hl:st.l.length<=100000000)
  (c1:W.cell? ⟨lb,0,none⟩=some (.slice (some ⟨b1,o1,none⟩) n cap)) (hi:i<n)
  (c3:W.cell? ⟨b1,o1+i*2,none⟩=some (.string u.1)) (c4:W.cell? ⟨b1,o1+i*2+1,none⟩=some (.string u.2)) (h1:u.1.size<=1000) (h2:u.2.size<=1000) :
  Calls Tryz.prog 233 (#[.pointer (some ⟨g,0,none⟩),.int .i64 (i:Int)]++#[.pointer (some ⟨lb,0,none⟩)]) W fun e w'=>(∃r,e=.returned r)/\WrS B g (st.put 3 (val 1 u.1.data.toList++val 2 u.2.data.toList)) w'/\Below B W w':=by
 have hbx:Below W.heap.size W (W.alloc (.cells #[.int .i64 (i:Int)] 3)):=(yaj _ W).alloc (yag _) _;have hib:(W.alloc (.cells #[.int .i64 (i:Int)] 3)).cell? ⟨W.heap.size,0,none⟩=some (.int .i64 (i:Int)):=by
  rw[yco];rfl
 have kc:∀ {a:Addr} {x:Value},W.cell? a=some x->∀W',Below (W.alloc (.cells #[.int .i64 (i:Int)] 3)).heap.size (W.alloc (.cells #[.int .i64 (i:Int)] 3)) W'->W'.cell? a=some x:=fun {a x} h W' hb'=>by
  have e1:=(hbx.cell (yaO W _ h)).trans h;exact (hb'.cell (yaO _ _ e1)).trans e1
 have hW:=uF B g st 3 2 234 #[.pointer (some ⟨lb,0,none⟩),.pointer (some ⟨W.heap.size,0,none⟩)] (wO u) _ (hw.later hbx) hb (by decide) (enters_of Tryz.func234 (by kernel_rfl) rfl)
  (fun k hk=>by
   unfold wO;rcases (by omega:k=0\/k=1) with rfl|rfl
   ·rw[if_pos rfl];exact⟨kD 1 _ (by decide) (by rw[gV];omega),by rw[ae];omega⟩
   rw[if_neg (by omega)];exact⟨kD 2 _ (by decide) (by rw[gV];omega),by rw[ae];omega⟩)
  (by rw[Ci,yab,ae,ae,gV,gV];omega) hl
  (fun k W' hk hb' hwr=>by
   refine (JZ _ _ lb W.heap.size b1 o1 n cap i k _ u W' hwr ?_ hk (kc c1 W' hb') ((hb'.cell (yaO _ _ hib)).trans hib) hi (kc c3 W' hb') (kc c4 W' hb') h1 h2).mono ?_
   ·have:=ku (wO u) 2000 k (fun j hj=>by unfold wO;split<;>rw[ae,gV]<;>omega);dsimp only;omega
   rintro e w' ⟨q1,q2,q3⟩;refine⟨q1,?_,q3⟩;rw[ed];rcases (by omega:k=0\/k=1) with rfl|rfl
   ·simpa [WS.put,wO] using q2
   simpa [WS.put,wO] using q2)
 rw[Ci] at hW;go_in;go_wp2_with fail;refine hW.mono ?_;rintro e w' ⟨rfl,q1,q2,q3⟩;go_wp2;refine yaL (yaJ rfl _ _ _) rfl ?_;exact⟨⟨_,rfl⟩,q1,(hbx.mono hw.le).trans q2⟩
def atE (x:List (ByteArray×ByteArray))(i:Nat):List UInt8:=val 3 (val 1 (x[i]?.getD (⟨#[]⟩,⟨#[]⟩)).1.data.toList++val 2 (x[i]?.getD (⟨#[]⟩,⟨#[]⟩)).2.data.toList)
theorem xx(x:List (ByteArray×ByteArray)):∀n,n<=x.length->bK (atE x) n=aI (x.take n)
 | 0,_=>by simp[bK,aI]
 | n+1,h=>by
  have e:∀(a:List (ByteArray×ByteArray)) u,aI (a++[u])=aI a++val 3 (val 1 u.1.data.toList++val 2 u.2.data.toList):=fun a u=>by simp[aI]
  rw[ed,xx x n (by omega),yau (by omega),e];simp only[atE,yac (show n<x.length by omega),ybD]
theorem zG(B g:Nat)(st:WS)(t:UInt8)(ao:Option Addr)(n cap:Nat)(x:List (ByteArray×ByteArray))(W:World)(hw:WrS B g st W)(hb:st.bad=0)(hl:st.l.length<=100000000)(hx:Rd W 2 ao n cap (atV x))(hn:n<=50)
  (hs:∀u∈x,u.1.size<=1000/\u.2.size<=1000) :
  Calls Tryz.prog 223 #[.pointer (some ⟨g,0,none⟩),.int .u8 (t.toNat:Int),.slice ao n cap] W fun e w'=>(∃r,e=.returned r)/\WrS B g (st.put t (aI x)) w'/\Below B W w'/\Stays g W w':=by
 have lx:x.length=n:=by have:=hx.1;rw[fG] at this;omega
 have hbx:Below W.heap.size W (W.alloc (.cells #[.slice ao n cap] 32)):=(yaj _ W).alloc (yag _) _;have hib:(W.alloc (.cells #[.slice ao n cap] 32)).cell? ⟨W.heap.size,0,none⟩=some (.slice ao n cap):=by
  rw[yco];rfl
 have hsz:∀i,i<n->∃u,x[i]?=some u/\u.1.size<=1000/\u.2.size<=1000:=fun i hi=>by
  have hi':i<x.length:=by omega
  exact⟨x[i],yac hi',hs _ (ybK hi')⟩
 have hle:∀i,i<n->(atE x i).length<=3000/\0<(atE x i).length/\lH (atE x i)=1:=fun i hi=>by
  obtain⟨u,hu,h1,h2⟩:=hsz i hi;have e:atE x i=val 3 (val 1 u.1.data.toList++val 2 u.2.data.toList):=by simp[atE,hu]
  rw[e];have hl2:(val 1 u.1.data.toList++val 2 u.2.data.toList).length<=2010:=by rw[yab,ae,ae,gV,gV];omega
  exact⟨by rw[ae];omega,by rw[ae];omega,kD 3 _ (by decide) (by omega)⟩
 have hW:=uF B g st t n 233 #[.pointer (some ⟨W.heap.size,0,none⟩)] (atE x) _ (hw.later hbx) hb (by omega) (enters_of Tryz.func233 (by kernel_rfl) rfl)
  (fun i hi=>⟨(hle i hi).2.2,(hle i hi).2.1⟩) (by have:=ku (atE x) 3000 n (fun i hi=>(hle i hi).1);omega) hl
  (fun i W' hi hb' hwr=>by
   obtain⟨u,hu,h1,h2⟩:=hsz i hi;have hx':=(hx.later hbx).later hb';obtain⟨b1,o1,rfl,hl1,hc1⟩:=hx'.some (by have:=hx.le;omega);obtain⟨v1,v2⟩:=kH x i u hu;have e:atE x i=val 3 (val 1 u.1.data.toList++val 2 u.2.data.toList):=by simp[atE,hu]
   refine (Oe _ _ W.heap.size b1 o1 n cap i _ u W' hwr rfl ?_ ((hb'.cell (yaO _ _ hib)).trans hib) hi (hc1 _ _ v1) (hc1 _ _ v2) h1 h2).mono ?_
   ·have:=ku (atE x) 3000 i (fun j hj=>(hle j (by omega)).1);dsimp only;omega
   rintro e' w' ⟨q1,q2,q3⟩;refine⟨q1,?_,q3⟩;rw[ed,e];simpa [WS.put] using q2)
 rw[xx x n (by omega),yak (by omega)] at hW;go_in;go_wp2_with fail;refine hW.mono ?_;rintro e w' hT;have h2:=hT.after hw.le hbx;obtain⟨rfl,q1,q2,q3⟩:=h2;go_wp2;refine yaL (yaJ rfl _ _ _) rfl ?_;exact⟨⟨_,rfl⟩,q1,q2,q3⟩
theorem JX(B g:Nat)(st:WS)(t:UInt8)(ao:Option Addr)(n cap:Nat)(x:List (ByteArray×ByteArray))(W:World)(hw:WrS B g st W)(hb:st.bad=0)(hl:st.l.length<=100000000)(hx:Rd W 2 ao n cap (atV x))(hn:n<=50)
  (hs:∀u∈x,u.1.size<=1000/\u.2.size<=1000) :
  Calls Tryz.prog 236 #[.pointer (some ⟨g,0,none⟩),.int .u8 (t.toNat:Int),.slice ao n cap] W fun e w'=>(∃r,e=.returned r)/\WrS B g (st.put t (aI x)) w'/\Below B W w'/\Stays g W w':=by
 go_in;go_wp2_with fail;refine (zG B g st t ao n cap x W hw hb hl hx hn hs).mono ?_;rintro e w' ⟨⟨r,rfl⟩,q1,q2,q3⟩;go_wp2;refine yaL (yaJ rfl _ _ _) rfl ?_;exact⟨⟨_,rfl⟩,q1,q2,q3⟩
def paE (x:List ByteArray)(i:Nat):List UInt8:=val 1 (x[i]?.getD ⟨#[]⟩).data.toList
theorem Am(x:List ByteArray):∀n,n<=x.length->bK (paE x) n=bT (x.take n)
 | 0,_=>by simp[bK,bT]
 | n+1,h=>by
  have e:∀(a:List ByteArray) u,bT (a++[u])=bT a++val 1 u.data.toList:=fun a u=>by simp[bT]
  rw[ed,Am x n (by omega),yau (by omega),e];simp only[paE,yac (show n<x.length by omega),ybD]
theorem OE(B g:Nat)(st:WS)(v:OV)(c:OC)(xb i:Nat)(u:ByteArray)(W:World)(hw:WrS B g st W)(hl:st.l.length<=100000000)(hx:W.heap[xb]?=some v.box)(ho:OpAt W v c)(hu:c.parts[i]?=some u)(h1:u.size<=1000) :
  Calls Tryz.prog 237 (#[.pointer (some ⟨g,0,none⟩),.int .i64 (i:Int)]++#[.pointer (some ⟨xb,0,none⟩)]) W fun e w'=>(∃r,e=.returned r)/\WrS B g (st.put 1 u.data.toList) w'/\Below B W w':=by
 obtain⟨-,-,-,-,c4,-,-,-⟩:=aC hx;have hlen:c.parts.length=v.bn:=by have:=ho.b.1;rw[ig] at this;omega
 have hi:i<v.bn:=by have:=(yao.1 hu).1;omega
 obtain⟨b1,o1,hao,hl1,hc1⟩:=ho.b.some (by have:=ho.b.le;omega);rw[hao] at c4;have c5:=hc1 i _ (oC _ i u hu);have i0:(0:Int)<=(i:Int):=by omega
 have i1:(i:Int)<(v.bn:Int):=by omega
 clear hao;go_in;go_wp2_with fail;refine (mJ B g st 1 u W hw hl (by omega)).mono ?_;rintro e w' ⟨rfl,q1,q2,q3⟩;go_wp2;refine yaL (yaJ rfl _ _ _) rfl ?_;exact⟨⟨_,rfl⟩,q1,q2⟩
theorem JF(B g:Nat)(st:WS)(t:UInt8)(v:OV)(c:OC)(xb:Nat)(W:World)(hw:WrS B g st W)(hb:st.bad=0)(hl:st.l.length<=100000000)(hx:W.heap[xb]?=some v.box)(ho:OpAt W v c)(hn:v.bn<=8)(hs:∀u∈c.parts,u.size<=1000) :
  Calls Tryz.prog 176 #[.pointer (some ⟨g,0,none⟩),.int .u8 (t.toNat:Int),.int .i64 (v.bn:Int),.func (.func 237) #[] #[.pointer (some ⟨xb,0,none⟩)]] W (Turns B g (st.put t (bT c.parts)) W):=by
 have hlen:c.parts.length=v.bn:=by have:=ho.b.1;rw[ig] at this;omega
 have hsz:∀i,i<v.bn->∃u,c.parts[i]?=some u/\u.size<=1000:=fun i hi=>by
  have hi':i<c.parts.length:=by omega
  exact⟨c.parts[i],yac hi',hs _ (ybK hi')⟩
 have hle:∀i,i<v.bn->(paE c.parts i).length<=3000/\0<(paE c.parts i).length/\lH (paE c.parts i)=1:=fun i hi=>by
  obtain⟨u,hu,h1⟩:=hsz i hi;have e:paE c.parts i=val 1 u.data.toList:=by simp[paE,hu]
  rw[e];exact⟨by rw[ae,gV];omega,by rw[ae];omega,kD 1 _ (by decide) (by rw[gV];omega)⟩
 have hW:=uF B g st t v.bn 237 #[.pointer (some ⟨xb,0,none⟩)] (paE c.parts) W hw hb (by omega) (enters_of Tryz.func237 (by kernel_rfl) rfl)
  (fun i hi=>⟨(hle i hi).2.2,(hle i hi).2.1⟩) (by have:=ku (paE c.parts) 3000 v.bn (fun i hi=>(hle i hi).1);omega) hl
  (fun i W' hi hb' hwr=>by
   obtain⟨u,hu,h1⟩:=hsz i hi;have e:paE c.parts i=val 1 u.data.toList:=by simp[paE,hu]
   refine (OE _ _ _ v c xb i u W' hwr ?_ ((hb'.q hx)) (ho.later hb') hu h1).mono ?_
   ·have:=ku (paE c.parts) 3000 i (fun j hj=>(hle j (by omega)).1);dsimp only;omega
   rintro e' w' ⟨q1,q2,q3⟩;refine⟨q1,?_,q3⟩;rw[ed,e];simpa [WS.put] using q2)
 rw[Am _ _ (by omega),yak (by omega)] at hW;exact hW
structure OpC (v:OV)(c:OC)(m:Bool)(bl:List UInt8):Prop where
 may:∀W,OpAt W v c->Calls Tryz.prog 40 #[v.val] W (GivesB m W)
 byts:m=true->∀W,OpAt W v c->Calls Tryz.prog 228 #[v.val] W (Ju W bl)
 len:bl.length<=4000000
structure RV where
 cl:Int
 nu:Int
 op:OV
def RV.cells (r:RV):Array Value:=#[.int .u64 r.cl,.int .u64 r.nu,.int .i64 r.op.k,.string r.op.name,.string r.op.to,.slice r.op.ao r.op.an r.op.ac,.slice r.op.bo r.op.bn r.op.bc,.slice r.op.co r.op.cn r.op.cc,.int .i64 r.op.n]
def RV.val (r:RV):Value:=.agg r.cells
def RV.box (r:RV):Obj:=.cells r.cells 55
theorem gY{r:RV}(h:W.heap[B]?=some r.box):W.cell? ⟨B,0,none⟩=some (.int .u64 r.cl)/\W.cell? ⟨B,1,none⟩=some (.int .u64 r.nu)/\W.cell? ⟨B,2,none⟩=some (.int .i64 r.op.k)/\W.cell? ⟨B,3,none⟩=some (.string r.op.name)/\W.cell? ⟨B,4,none⟩=some (.string r.op.to)/\W.cell? ⟨B,5,none⟩=some (.slice r.op.ao r.op.an r.op.ac)/\W.cell? ⟨B,6,none⟩=some (.slice r.op.bo r.op.bn r.op.bc)/\W.cell? ⟨B,7,none⟩=some (.slice r.op.co r.op.cn r.op.cc)/\W.cell? ⟨B,8,none⟩=some (.int .i64 r.op.n)/\∀i,W.frozen? ⟨B,i,none⟩=false:=by
 unfold RV.box RV.cells at h;simp[World.cell?,World.frozen?,h]
theorem tC(r:RV)(c:OC)(m:Bool)(bl:List UInt8)(w:World)(ho:OpAt w r.op c)(h:OpC r.op c m bl):Calls Tryz.prog 105 #[r.val] w (GivesB m w):=by
 have hb0:=bN w r.box;have hc:=h.may _ (ho.later hb0);unfold RV.box RV.cells at hb0 hc;unfold OV.val at hc;unfold RV.val RV.cells;go_in;go_wp2_with fail;refine hc.mono ?_;rintro e w1 ⟨rfl,hb1⟩;go_wp2_with fail;go_ret;exact⟨rfl,hb0.trans (hb1.mono hb0.size)⟩
def dG (r:RV)(bl:List UInt8):List UInt8:=val 1 (au r.cl.toNat)++val 2 (au r.nu.toNat)++val 3 bl
theorem gX(r:RV)(bl:List UInt8):(dG r bl).length=bl.length+31:=by simp only[dG,yab,ae,ai];omega
def JJ (w:World)(l:List UInt8)(e:Ending)(w':World):Prop:=∃ao cap,e=.returned (.tuple #[.slice ao l.length cap,.int .i64 0])/\Rd w' 1 ao l.length cap (byV l)/\Below w.heap.size w w'/\∀a,ao=some a->w.heap.size<=a.block
theorem kR{e:TypeId}(h:W.ownsRow B e size (.slice ao n cap) n xs):∀a,ao=some a->B<=a.block:=by
 intro a ha;rcases h.2 with ⟨h1,-⟩ | ⟨g,c2,cur,h1,h2,-⟩
 ·cases h1;cases ha
 cases h1;cases ha;exact h2
def InBoxR (w:World)(r:RV)(W:World):Prop:=W.heap[w.heap.size]?=some r.box/\Below w.heap.size w W
theorem InBoxR.step{r:RV}(h:InBoxR w r W)(hb:Below W.heap.size W W'):InBoxR w r W':=
 ⟨(hb.q h.1),h.2.trans (hb.mono h.2.size)⟩
theorem InBoxR.turn{r:RV}(h:InBoxR w r W)(hb:Below B W W')(hB:w.heap.size<B):InBoxR w r W':=
 ⟨(hb.block _ hB).trans h.1,h.2.trans (hb.mono (by omega))⟩
theorem InBoxR.drew{r:RV}(h:InBoxR w r W):InBoxR w r W.drew:=⟨h.1,h.2.drew⟩
theorem wF(r:RV)(c:OC)(bl:List UInt8)(w:World)(ho:OpAt w r.op c)(h:OpC r.op c true bl)(h1:0<=r.cl)(h2:0<=r.nu):Calls Tryz.prog 191 #[r.val] w (JJ w (dG r bl)):=by
 have hmo:=hmO
 obtain⟨cn,hcn⟩:∃n:Nat,r.cl=(n:Int):=⟨r.cl.toNat,by omega⟩
 obtain⟨nn,hnn⟩:∃n:Nat,r.nu=(n:Int):=⟨r.nu.toNat,by omega⟩
 have Hcn:=hid hcn;have Hnn:=hid hnn;clear hcn hnn;have s00:InBoxR w r (w.alloc r.box):=⟨aN _ _,bN _ _⟩
 have hc:=tC r c true bl _ (ho.later s00.2) h;unfold RV.val at hc;unfold RV.val;unfold RV.box at s00 hc;unfold RV.cells at s00 hc ⊢;go_in;go_wp2_with fail;refine hc.mono ?_;rintro e w1 ⟨rfl,hb1⟩;have s0:=(s00.step hb1).drew;go_wp2_with fail;refine yaB (S:=InBoxR w r) hmo ?_;change wpAnyH _ _ _ _ _ _ _ _ (World.drew _);have zf0:=fun (w0:World) (h:InBoxR w r w0)=>gY h.1;refine zp 1 (pp w.heap.size 0) rfl ?_;go_simp;refine zv 2 (.int .u64 r.cl) rfl ?_;go_simp;refine zp 4 (pp w.heap.size 1) rfl ?_;go_simp;refine zv 5 (.int .u64 r.nu) rfl ?_;go_simp;refine zp 7 (pp w.heap.size 2) rfl ?_;go_simp;refine zv 8 (.agg #[.int .i64 r.op.k,.string r.op.name,.string r.op.to,.slice r.op.ao r.op.an r.op.ac,.slice r.op.bo r.op.bn r.op.bc,.slice r.op.co r.op.cn r.op.cc,.int .i64 r.op.n]) rfl ?_;go_simp;refine zH1 0 rfl (fun K hK=>?_);go_simp;have g0:WrS w1.heap.size w1.heap.size ⟨[],0⟩ (w1.drew.alloc (.cells #[.slice none 0 0,.int .i64 0] 177)):=⟨_,by show (w1.drew.heap.push _)[w1.drew.heap.size]?=some _;exact ybH,yag _,yaC _ _ _ _⟩
 have s1:InBoxR w r (w1.drew.alloc (.cells #[.slice none 0 0,.int .i64 0] 177)):=s0.step (bN _ _);have hlt:w.heap.size<w1.heap.size:=lA s0.1;refine hK _ _ ⟨s1,?_⟩;clear hK K;refine zH1 3 rfl (fun K hK=>?_);go_simp;rw[Hcn.out];refine (qg w1.heap.size w1.heap.size ⟨[],0⟩ 1 cn _ g0 (by decide)).mono ?_;rintro e w2 ⟨rfl,g1,hb2,-⟩;have s2:=s1.turn hb2 hlt;go_simp;refine hK _ _ ⟨s2,?_⟩;clear hK K;refine zH1 6 rfl (fun K hK=>?_);go_simp;rw[Hnn.out];refine (qg w1.heap.size w1.heap.size _ 2 nn _ g1 (by simp[WS.put,ae,ai])).mono ?_;rintro e w3 ⟨rfl,g2,hb3,-⟩;have s3:=s2.turn hb3 hlt;go_simp;refine hK _ _ ⟨s3,?_⟩;clear hK K;have hcb:=h.byts rfl _ (ho.later s3.2);unfold OV.val at hcb;refine zC 9 rfl hcb ?_;rintro e w4 ⟨ao,cap,rfl,hr4,hb4,fr4⟩;have s4:=s3.step hb4;have g3:=g2.later hb4;refine⟨s4,?_⟩;go_simp;refine zH1 10 rfl (fun K hK=>?_);go_simp;refine (kV w1.heap.size w1.heap.size _ 3 bl ao _ cap _ g3 (by simp[WS.put,ae,ai]) (by have:=h.len;omega) hr4 (fun h0 a ha v hv=>by have:=fr4 a ha;exact ou g2 hb4 this hv)).mono ?_;rintro e w5 ⟨rfl,g4,hb5,-⟩;have s5:=s4.turn hb5 hlt;go_simp;refine hK _ _ ⟨s5,?_⟩;clear hK K;refine zH1 11 rfl (fun K hK=>?_);go_simp;have g5:WrS w1.heap.size w1.heap.size ⟨dG r bl,0⟩ w5:=by simpa [WS.put,dG,Hcn.out,Hnn.out] using g4
 obtain⟨y,hy⟩:=g5;refine (sD _ _ _ _ _ hy (by rw[gX];have:=h.len;omega)).mono ?_;rintro e w6 ⟨z,rfl,hz6,hb6⟩;obtain⟨ao6,cap6,rfl,hr6⟩:=Rd.of_own hz6;have s6:=s5.step hb6;go_simp;refine hK _ _ ⟨s6,?_⟩;clear hK K;refine zv 12 (.slice ao6 (dG r bl).length cap6) rfl ?_;go_simp;refine zv 13 (.int .i64 0) rfl ?_;go_simp;refine zp 14 (.slice ao6 (dG r bl).length cap6) rfl (zp 15 (.int .i64 0) rfl ?_);go_simp;refine zd ?_;go_wp2_with fail;go_ret2;exact⟨ao6,cap6,rfl,hr6,s6.2,fun a ha=>yae s5.2.size (kR hz6 a ha)⟩
structure FitsA (v:OV)(c:OC):Prop where
 an:v.an<=50
 attrs:∀u∈c.attrs,u.1.size<=1000/\u.2.size<=1000
 bn:v.bn<=8
 parts:∀u∈c.parts,u.size<=1000
theorem F5(v:OV)(c:OC)(w:World)(ho:OpAt w v c)(hf:Fits v c)(hg:FitsA v c):Calls Tryz.prog 228 #[v.val] w (Ju w (opL v c)):=by
 obtain⟨kn,hkn⟩:∃kn:Nat,v.k=(kn:Int):=⟨v.k.toNat,by have:=hf.k0;omega⟩
 obtain⟨nn,hnn⟩:∃nn:Nat,v.n=(nn:Int):=⟨v.n.toNat,by have:=hf.n0;omega⟩
 have Hkn:=hid hkn;have Hnn:=hid hnn;have hw1:IntKind.wrap .u64 v.k=(kn:Int):=by rw[hkn];have h8:=hf.k8;rw[hkn] at h8;show ((kn:Int) % 18446744073709551616)=kn;omega
 have hw2:IntKind.wrap .u64 v.n=(nn:Int):=by rw[hnn];have h8:=hf.n1;rw[hnn] at h8;show ((nn:Int) % 18446744073709551616)=nn;omega
 clear hkn hnn;have hff:=fun W=>oN v.k W;have hus:Tryz.prog.underlying 9=some .string:=Tryz.underlying9;have hl3:=uz v.k;have hb0:Below w.heap.size w ((w.alloc v.box).alloc (.cells #[.slice none 0 0,.int .i64 0] 177)):=cu w _ _;obtain⟨k1,k2⟩:=dh w v.box (.cells #[.slice none 0 0,.int .i64 0] 177);have hz:((w.alloc v.box).alloc (.cells #[.slice none 0 0,.int .i64 0] 177)).heap.size=w.heap.size+1+1:=by simp
 have hs0:WrS (w.heap.size+1) (w.heap.size+1) ⟨[],0⟩ ((w.alloc v.box).alloc (.cells #[.slice none 0 0,.int .i64 0] 177)):=⟨_,k2,yag _,yaC _ _ _ _⟩
 unfold OV.val;go_in;go_wp2_with fail;refine (qg (w.heap.size+1) (w.heap.size+1) ⟨[],0⟩ 1 kn _ hs0 (by decide)).mono ?_;rintro e w1 ⟨rfl,hs1,hb1,-⟩;have hb2:Below w.heap.size w w1:=hb0.trans (hb1.mono (by omega));have q1:=(hb1.block w.heap.size (by omega)).trans k1;obtain⟨c0,-,-,-,-,-,-,-⟩:=aC q1;go_wp2_with fail;refine (hff _).mono ?_;rintro e w2 ⟨rfl,hb3⟩;have hb4:=hb2.trans (hb3.mono hb2.size);have hs2:=hs1.later hb3;have q2:=(hb3.block w.heap.size (lA q1)).trans q1;have hit:w.heap.size+1<w2.heap.size:=by obtain⟨y,hy⟩:=hs2;exact hy.lt
 have hr:=run_range_string (P:=Tryz.prog) w2 9 ⟨(fieldsOf v.k).toArray⟩ hus;clear c0;go_wp2_with fail;go_loopw [] (fun wr=>∃j,PutAt w w2.heap.size v c j wr) (fun wr=>(fieldsOf v.k).length-wr.iterPos w2.heap.size)
 case atStart=>
  have hbi:Below w2.heap.size w2 (w2.iter ⟨(fieldsOf v.k).toArray⟩ 0):=bN _ _;refine⟨0,hb4.trans (hbi.mono hb4.size),(hbi.block _ (by omega)).trans q2,?_,aN _ _⟩;have:=hs2.later hbi;simpa [WS.put,iK,Hkn.out] using this
 case round=>
  obtain⟨j,hB⟩:=hrel;have hlen:(iK v c ((fieldsOf v.k).take j)).length<=100000000:=MN hf _ (by rw[yaV];omega);by_cases hj:j<(fieldsOf v.k).length
  ·obtain⟨x,hc⟩:∃x,(fieldsOf v.k)[j]?=some x:=⟨_,yac hj⟩
   have hcl:=letters v.k j x hc;have hm:wr.iterPos w2.heap.size=j:=by simp[World.iterPos,hB.hi]
   obtain⟨hbi,g1,gw,gi⟩:=hB.skip hit;have goi:=ho.later hbi;obtain⟨-,c1,c2,c3,c4,c5,c6,-⟩:=aC g1;rcases hcl with rfl|rfl|rfl|rfl|rfl|rfl
   ·have hn:=fun ty=>dm (P:=Tryz.prog) wr w2.heap.size (fieldsOf v.k) j 110 ty hB.hi hc (by decide);go_wp2_with fail;refine (mJ (w.heap.size+1) (w.heap.size+1) ⟨iK v c ((fieldsOf v.k).take j),0⟩ 2 v.name _ gw hlen (by have:=hf.name;omega)).mono ?_;rintro e w3 hT;have hN:=PutAt.put hbi g1 gi (by omega) hc (by decide) (by simp[dV]) hT;obtain⟨rfl,-⟩:=hT;go_wp2_with fail;go_roundw
    case rel=>exact⟨j+1,hN⟩
    case measure=>rw[hm];simp[World.iterPos,hN.hi];omega
   ·have hn:=fun ty=>dm (P:=Tryz.prog) wr w2.heap.size (fieldsOf v.k) j 116 ty hB.hi hc (by decide);go_wp2_with fail;refine (mJ (w.heap.size+1) (w.heap.size+1) ⟨iK v c ((fieldsOf v.k).take j),0⟩ 3 v.to _ gw hlen (by have:=hf.to_;omega)).mono ?_;rintro e w3 hT;have hN:=PutAt.put hbi g1 gi (by omega) hc (by decide) (by simp[dV]) hT;obtain⟨rfl,-⟩:=hT;go_wp2_with fail;go_roundw
    case rel=>exact⟨j+1,hN⟩
    case measure=>rw[hm];simp[World.iterPos,hN.hi];omega
   ·have hn:=fun ty=>dm (P:=Tryz.prog) wr w2.heap.size (fieldsOf v.k) j 97 ty hB.hi hc (by decide);go_wp2_with fail;refine (JX (w.heap.size+1) (w.heap.size+1) ⟨iK v c ((fieldsOf v.k).take j),0⟩ 4 v.ao v.an v.ac c.attrs _ gw rfl hlen goi.a hg.an hg.attrs).mono ?_;rintro e w3 ⟨⟨r,rfl⟩,q1,q2,q3⟩;have hN:=PutAt.put hbi g1 gi (by omega) hc (by decide) (by simp[dV]) (e:=.returned (.pointer (some ⟨w.heap.size+1,0,none⟩))) ⟨rfl,q1,q2,q3⟩;go_wp2_with fail;go_roundw
    case rel=>exact⟨j+1,hN⟩
    case measure=>rw[hm];simp[World.iterPos,hN.hi];omega
   ·have hn:=fun ty=>dm (P:=Tryz.prog) wr w2.heap.size (fieldsOf v.k) j 112 ty hB.hi hc (by decide);go_wp2_with fail;refine (JF (w.heap.size+1) (w.heap.size+1) ⟨iK v c ((fieldsOf v.k).take j),0⟩ 5 v c w.heap.size _ gw rfl hlen g1 goi hg.bn hg.parts).mono ?_;rintro e w3 hT;have hN:=PutAt.put hbi g1 gi (by omega) hc (by decide) (by simp[dV]) hT;obtain⟨rfl,-⟩:=hT;go_wp2_with fail;go_roundw
    case rel=>exact⟨j+1,hN⟩
    case measure=>rw[hm];simp[World.iterPos,hN.hi];omega
   ·have hn:=fun ty=>dm (P:=Tryz.prog) wr w2.heap.size (fieldsOf v.k) j 99 ty hB.hi hc (by decide);go_wp2_with fail;refine (kV (w.heap.size+1) (w.heap.size+1) ⟨iK v c ((fieldsOf v.k).take j),0⟩ 6 c.cursor v.co v.cn v.cc _ gw hlen (by have:=hf.cur;have:=goi.c.1;rw[aV] at this;omega) goi.c (fun h0 a ha y hy=>Rf ho.c ha h0 hy)).mono ?_;rintro e w3 hT;have hN:=PutAt.put hbi g1 gi (by omega) hc (by decide) (by simp[dV]) hT;obtain⟨rfl,-⟩:=hT;go_wp2_with fail;go_roundw
    case rel=>exact⟨j+1,hN⟩
    case measure=>rw[hm];simp[World.iterPos,hN.hi];omega
   have hn:=fun ty=>dm (P:=Tryz.prog) wr w2.heap.size (fieldsOf v.k) j 107 ty hB.hi hc (by decide);go_wp2_with fail;refine (qg (w.heap.size+1) (w.heap.size+1) ⟨iK v c ((fieldsOf v.k).take j),0⟩ 7 nn _ gw hlen).mono ?_;rintro e w3 hT;have hN:=PutAt.put hbi g1 gi (by omega) hc (by decide) (by simp[dV,Hnn.out]) hT;obtain⟨rfl,-⟩:=hT;go_wp2_with fail;go_roundw
   case rel=>exact⟨j+1,hN⟩
   case measure=>rw[hm];simp[World.iterPos,hN.hi];omega
  have hn:=fun ty=>run_next_end_at (P:=Tryz.prog) wr w2.heap.size ⟨(fieldsOf v.k).toArray⟩ j ty hB.hi hj;have hw:=hB.wr_;rw[yak (by omega)] at hw hlen;obtain⟨y,hy⟩:=hw;go_wp2_with fail;refine (sD _ _ _ _ _ hy hlen).mono ?_;rintro e w3 ⟨z,rfl,hz3,hb3'⟩;obtain⟨ao,cap,rfl,hr3⟩:=Rd.of_own hz3;go_wp2_with fail;go_ret;refine⟨ao,cap,rfl,hr3,hB.bel.trans (hb3'.mono hB.bel.size),fun a ha=>?_⟩;rcases hz3.2 with ⟨h,_⟩ | ⟨g,cc,cur,h,hg,_⟩
  ·have:=(ybC h).1;rw[ha] at this;cases this
  have:=(ybC h).1;rw[ha] at this;cases this;exact yae hB.bel.size hg
def aA (v:OV)(c:OC):Bool:=dX v c (bI c.attrs)
def vT (v:OV)(c:OC):List UInt8:=if aA v c then opL v c else []
theorem ny{x:ByteArray}(h:aT x=true):x.size<=1000:=by
 unfold aT at h;simp only[yaq,yaG] at h;exact h.1
theorem yP{u:ByteArray×ByteArray}(h:aQ u=true):u.1.size<=1000/\u.2.size<=1000:=by
 unfold aQ eH at h;simp only[yaq,yaG] at h;exact⟨by have:=h.1.1.1.2;omega,ny h.2⟩
theorem mM(W:World)(ho:OpAt W v c)(h:aA v c=true):Fits v c/\FitsA v c/\∀x,(dV v c x).length<=200000:=by
 have la:c.attrs.length=v.an:=by have:=ho.a.1;rw[fG] at this;omega
 have lb:c.parts.length=v.bn:=by have:=ho.b.1;rw[ig] at this;omega
 have lc:c.cursor.length=v.cn:=by have:=ho.c.1;rw[aV] at this;omega
 unfold aA dX at h;simp only[yaq,yaG,ybz] at h;obtain⟨⟨⟨⟨⟨⟨h1,h2⟩,h3⟩,h4⟩,h5⟩,h6⟩,h7⟩:=h;have hname:=ny h3;have hto:=ny h4;have hattr:∀u∈c.attrs,u.1.size<=1000/\u.2.size<=1000:=fun u hu=>by
  refine yP ?_;have:=yaS.1 h6 u hu;simpa using this
 have hk:v.k=1\/v.k=2\/v.k=3\/v.k=4\/v.k=5\/v.k=6\/v.k=7\/v.k=8:=by
  rcases Classical.em (v.k=1\/v.k=2\/v.k=3\/v.k=4\/v.k=5\/v.k=6\/v.k=7\/v.k=8) with h | h
  ·exact h
  refine absurd ?_ h1;simp only[not_or] at h;obtain⟨a1,a2,a3,a4,a5,a6,a7,a8⟩:=h;simp only[fieldsOf,a1,a2,a3,a4,a5,a6,a7,a8,if_false]
 unfold bg at h2;simp only[yaG] at h2;obtain⟨-,-,-,e4,e5,e6,e7⟩:=h2;have hrest:v.bn<=8/\(∀u∈c.parts,u.size<=1000)/\c.cursor.length<=4000/\0<=v.n/\v.n<=1000:=by
  by_cases h78:v.k=7\/v.k=8
  ·have k1:¬v.k=1:=by omega
   have k5:¬v.k=5:=by omega
   unfold oD at h7;rw[if_neg k1,if_neg k5] at h7;simp only[yaq,yaG,ybz] at h7;obtain⟨⟨⟨⟨r1,r2⟩,r3⟩,r4⟩,r5⟩:=h7;refine⟨r1,fun u hu=>ny ?_,by omega,r4,r5⟩;have:=yaS.1 r2 u hu;simpa using this
  have hl:(112:UInt8)∉fieldsOf v.k/\(99:UInt8)∉fieldsOf v.k/\(107:UInt8)∉fieldsOf v.k:=by
   rcases hk with h | h | h | h | h | h | h | h<;>rw[h]<;>first | omega | decide
  have f1:c.parts=[]:=by rw[e5];unfold iQ;rw[if_neg hl.1]
  have f2:c.cursor=[]:=by rw[e6];unfold iQ;rw[if_neg hl.2.1]
  have f3:v.n=0:=by rw[e7];unfold bP;rw[if_neg hl.2.2]
  rw[f1] at lb;rw[f1,f2,f3];exact⟨by simp at lb;omega,fun u hu=>by simp at hu,by simp,by omega,by omega⟩
 obtain⟨r1,r2,r3,r4,r5⟩:=hrest;have hL:∀x,(dV v c x).length<=200000:=?_
 ·exact⟨⟨by omega,by omega,hname,hto,r3,r4,r5,fun x=>yae (hL x) (by decide)⟩,⟨h5,hattr,r1,r2⟩,hL⟩
 intro x;have ha:(aI c.attrs).length<=50*2015:=by
  have:=xx c.attrs c.attrs.length (yag _);rw[ybG] at this;rw[<-this];have h9:=ku (atE c.attrs) 2015 c.attrs.length (fun i hi=>by
   have:=hattr c.attrs[i] (ybK hi);simp only[atE,yac hi,ybD,ae,yab,gV];omega)
  exact yae h9 (ybc 2015 (show c.attrs.length<=50 by omega))
 have hp:(bT c.parts).length<=8*1005:=by
  have:=Am c.parts c.parts.length (yag _);rw[ybG] at this;rw[<-this];have h9:=ku (paE c.parts) 1005 c.parts.length (fun i hi=>by
   have:=r2 c.parts[i] (ybK hi);simp only[paE,yac hi,ybD,ae,gV];omega)
  exact yae h9 (ybc 1005 (show c.parts.length<=8 by omega))
 unfold dV
 repeat' split
 all_goals simp only[ae,gV,ai]
 all_goals omega
theorem jI(W:World)(v:OV)(c:OC)(ho:OpAt W v c):OpC v c (aA v c) (vT v c):=by
 refine⟨fun W' ho'=>JD v c _ W' ho' (fun _ W2 h2=>qj _ _ _ _ _ h2.a (yae h2.la (by decide))),fun hm W' ho'=>?_,?_⟩
 ·obtain⟨f1,f2,-⟩:=mM W ho hm;unfold vT;rw[if_pos hm];exact F5 v c W' ho' f1 f2
 unfold vT;split
 ·rename_i hm;obtain⟨-,-,f3⟩:=mM W ho hm;have h1:=Ap (dV v c) 200000 f3 (fieldsOf v.k);have h2:=ybc 200000 (uz v.k);unfold opL iK;rw[yab,ae,ai];omega
 simp
