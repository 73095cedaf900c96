/-
  A part of the proof.
-/
import Derived.Test.YtfmmandlmbcncaaGreatDoorKdaw
set_option maxHeartbeats 40000000
set_option maxRecDepth 100000
namespace Go.Proofs.YtfmmandlmbcncaaGreatDoor.Msg
open Go.RowKit Go.Lib Mem Tlv
structure EV where
 name:ByteArray
 ao:Option Addr
 an:Nat
 ac:Nat
def EV.cells (v:EV):Array Value:=#[.string v.name,.slice v.ao v.an v.ac]
def EV.val (v:EV):Value:=.agg v.cells
def EV.box (v:EV):Obj:=.cells v.cells 124
structure EAt (W:World)(v:EV)(x:List (ByteArray×ByteArray)):Prop where
 a:Rd W 2 v.ao v.an v.ac (atV x)
 la:v.an<=9223372036854775807
theorem EAt.later {W W':World}{v:EV}{x:List (ByteArray×ByteArray)}(h:EAt W v x)(hb:Below W.heap.size W W'):EAt W' v x:=⟨h.a.later hb,h.la⟩
theorem dF {W:World}{B:Nat}{v:EV}(h:W.heap[B]?=some v.box):W.cell? ⟨B,0,none⟩=some (.string v.name)/\W.cell? ⟨B,1,none⟩=some (.slice v.ao v.an v.ac)/\∀i,W.frozen? ⟨B,i,none⟩=false:=by
 unfold EV.box EV.cells at h;simp[World.cell?,World.frozen?,h]
def bJ (v:EV)(x:List (ByteArray×ByteArray))(v':EV)(x':List (ByteArray×ByteArray)):Bool:=decide (v.name=v'.name)&&decide (x=x')
def au (v:EV)(x:List (ByteArray×ByteArray)):Bool:=bg v.name&&bH x
theorem zV (v v':EV)(x x':List (ByteArray×ByteArray))(w:World)(h:EAt w v x)(h':EAt w v' x'):Calls Tryz.prog 173 #[v.val,v'.val] w (aY (bJ v x v' x') w):=by
 have hb0:Below w.heap.size w ((w.alloc v.box).alloc v'.box):=bU w _ _;obtain⟨k1,k2⟩:=bY w v.box v'.box;have hsame:=zA v.ao v'.ao v.an v'.an v.ac v'.ac x x' _ (h.a.later hb0) (h'.a.later hb0) h.la;unfold EV.box EV.cells at hb0 k1 k2 hsame;unfold EV.val EV.cells;by_cases e1:v.name=v'.name
 case neg=>
  have f1:(v.name.toList==v'.name.toList)=false:=lw e1;have Hs:Hid (bJ v x v' x'=false):=hid (by unfold bJ;rw[decide_eq_false e1];simp);clear e1 hsame;go_in;go_wp2_with fail;go_ret;exact⟨by rw[Hs.out];rfl,hb0⟩
 have f1:(v.name.toList==v'.name.toList)=true:=by simp[e1]
 have Hs:Hid (bJ v x v' x'=decide (x=x')):=hid (by unfold bJ;rw[decide_eq_true e1];simp);clear e1;go_in;go_wp2_with fail;refine hsame.mono ?_;rintro e w1 ⟨rfl,hb1⟩;rw[<-Hs.out];go_wp2_with fail;go_ret;exact⟨rfl,hb0.trans (hb1.mono hb0.size)⟩
theorem yC (v v':EV)(x x':List (ByteArray×ByteArray))(w:World)(h:EAt w v x)(h':EAt w v' x'):Calls Tryz.prog 57 #[v.val,v'.val] w (aY (bJ v x v' x') w):=by
 have hb0:Below w.heap.size w ((w.alloc v.box).alloc v'.box):=bU w _ _;obtain⟨k1,k2⟩:=bY w v.box v'.box;have hsame:=pR v.ao v'.ao v.an v'.an v.ac v'.ac x x' _ (h.a.later hb0) (h'.a.later hb0) h.la;unfold EV.box EV.cells at hb0 k1 k2 hsame;unfold EV.val EV.cells;by_cases e1:v.name=v'.name
 case neg=>
  have f1:(v.name.toList==v'.name.toList)=false:=lw e1;have Hs:Hid (bJ v x v' x'=false):=hid (by unfold bJ;rw[decide_eq_false e1];simp);clear e1 hsame;go_in;go_wp2_with fail;go_ret;exact⟨by rw[Hs.out];rfl,hb0⟩
 have f1:(v.name.toList==v'.name.toList)=true:=by simp[e1]
 have Hs:Hid (bJ v x v' x'=decide (x=x')):=hid (by unfold bJ;rw[decide_eq_true e1];simp);clear e1;go_in;go_wp2_with fail;refine hsame.mono ?_;rintro e w1 ⟨rfl,hb1⟩;rw[<-Hs.out];go_wp2_with fail;go_ret;exact⟨rfl,hb0.trans (hb1.mono hb0.size)⟩
theorem nZ (v:EV)(x:List (ByteArray×ByteArray))(w:World)(h:EAt w v x):Calls Tryz.prog 145 #[v.val] w (aY (au v x) w):=by
 have hb0:Below w.heap.size w (w.alloc v.box):=(Below.refl _ _).alloc (Nat.le_refl _) _;have k0:(w.alloc v.box).heap[w.heap.size]?=some v.box:=by show (w.heap.push _)[w.heap.size]?=some _;exact Array.getElem?_push_size
 unfold EV.box EV.cells at hb0 k0;unfold EV.val EV.cells;go_in;go_upto_region 1 with fail;generalize hg:w.alloc _=W0 at *;have k0f:W0.heap[w.heap.size]?=some v.box:=k0;clear hg k0;obtain⟨c0,c1,-⟩:=dF k0f;go_wp2_with fail;refine (pI v.name W0).mono ?_;rintro e W1 ⟨rfl,hb1⟩;have k1f:=(hb1.block _ (Array.getElem?_eq_some_iff.1 k0f).1).trans k0f;have hb1':=hb0.trans (hb1.mono hb0.size);clear c0 c1;obtain⟨c0,c1,-⟩:=dF k1f;cases hm:bg v.name with
 | false=>
  have HM:=hid hm;clear hm;go_wp2_with fail;go_ret;exact⟨by unfold au;rw[HM.out];rfl,hb1'⟩
 | true=>
  have HM:=hid hm;clear hm;go_wp2_with fail;refine (nN v.ao v.an v.ac x W1 (h.a.later hb1') h.la).mono ?_;rintro e W2 ⟨rfl,hb2⟩;go_wp2_with fail;go_ret;exact⟨by unfold au;rw[HM.out];rfl,hb1'.trans (hb2.mono hb1'.size)⟩
theorem sF (v:EV)(x:List (ByteArray×ByteArray))(w:World)(h:EAt w v x):Calls Tryz.prog 129 #[v.val] w (aY (au v x) w):=by
 have hb0:Below w.heap.size w (w.alloc v.box):=(Below.refl _ _).alloc (Nat.le_refl _) _;have k0:(w.alloc v.box).heap[w.heap.size]?=some v.box:=by show (w.heap.push _)[w.heap.size]?=some _;exact Array.getElem?_push_size
 unfold EV.box EV.cells at hb0 k0;unfold EV.val EV.cells;go_in;go_upto_region 1 with fail;generalize hg:w.alloc _=W0 at *;have k0f:W0.heap[w.heap.size]?=some v.box:=k0;clear hg k0;obtain⟨c0,c1,-⟩:=dF k0f;go_wp2_with fail;refine (tC v.name W0).mono ?_;rintro e W1 ⟨rfl,hb1⟩;have k1f:=(hb1.block _ (Array.getElem?_eq_some_iff.1 k0f).1).trans k0f;have hb1':=hb0.trans (hb1.mono hb0.size);clear c0 c1;obtain⟨c0,c1,-⟩:=dF k1f;cases hm:bg v.name with
 | false=>
  have HM:=hid hm;clear hm;go_wp2_with fail;go_ret;exact⟨by unfold au;rw[HM.out];rfl,hb1'⟩
 | true=>
  have HM:=hid hm;clear hm;go_wp2_with fail;refine (zY v.ao v.an v.ac x W1 (h.a.later hb1')).mono ?_;rintro e W2 ⟨rfl,hb2⟩;go_wp2_with fail;go_ret;exact⟨by unfold au;rw[HM.out];rfl,hb1'.trans (hb2.mono hb1'.size)⟩
theorem yz (v:EV)(x:List (ByteArray×ByteArray))(w:World)(h:EAt w v x):Calls Tryz.prog 144 #[v.val] w (aY (!au v x) w):=by
 have hb0:Below w.heap.size w (w.alloc v.box):=(Below.refl _ _).alloc (Nat.le_refl _) _;have k0:(w.alloc v.box).heap[w.heap.size]?=some v.box:=by show (w.heap.push _)[w.heap.size]?=some _;exact Array.getElem?_push_size
 have hc:=nZ v x _ (h.later hb0);unfold EV.box EV.cells at hb0 k0 hc;unfold EV.val EV.cells at hc;unfold EV.val EV.cells;go_in;go_wp2_with fail;refine hc.mono ?_;rintro e W1 ⟨rfl,hb1⟩;go_wp2_with fail;go_ret;exact⟨rfl,hb0.trans (hb1.mono hb0.size)⟩
def eu (v:EV)(x:List (ByteArray×ByteArray)):List UInt8:=val 1 v.name.data.toList++val 2 (aC x)
structure FitE (v:EV)(x:List (ByteArray×ByteArray)):Prop where
 name:v.name.size<=1000
 n:x.length<=50
 attrs:∀u∈x,u.1.size<=1000/\u.2.size<=1000
 len:(aC x).length<=100750
theorem I7 {x:List (ByteArray×ByteArray)}(h1:x.length<=50)(h2:∀u∈x,u.1.size<=1000/\u.2.size<=1000):(aC x).length<=100750:=by
 have:=uU x x.length (Nat.le_refl _);rw[List.take_length] at this;rw[<-this];have h9:=jf (atE x) 2015 x.length (fun i hi=>by
  have:=h2 x[i] (List.getElem_mem hi);simp only[atE,List.getElem?_eq_getElem hi,Option.getD_some,ae,List.length_append,fH];omega)
 exact Nat.le_trans h9 (Nat.mul_le_mul_right 2015 h1)
theorem FitE.of {v:EV}{x:List (ByteArray×ByteArray)}(h:au v x=true):FitE v x:=by
 unfold au bH at h;simp only[Bool.and_eq_true,decide_eq_true_eq] at h;obtain⟨h1,⟨h2,-⟩,h3⟩:=h;have ha:∀u∈x,u.1.size<=1000/\u.2.size<=1000:=fun u hu=>xB (List.all_eq_true.1 h2 u hu);exact⟨kZ h1,h3,ha,I7 h3 ha⟩
theorem iL {v:EV}{x:List (ByteArray×ByteArray)}(h:au v x=true):(eu v x).length<=101760:=by
 have f:=FitE.of h;have h1:=f.name;have h2:=f.len;have h3:v.name.data.toList.length=v.name.size:=fH _;unfold eu;rw[List.length_append,ae,ae];omega
def O3 (v:EV)(x:List (ByteArray×ByteArray))(w:World)(e:Ending)(w':World):Prop:=∃(l:List UInt8) (ax:Option Addr) (cx:Nat) (ex:Int),e=.returned (.tuple #[.slice ax l.length cx,.int .i64 ex])/\Rd w' 1 ax l.length cx (byV l)/\Below w.heap.size w w'/\(∀a,ax=some a->w.heap.size<=a.block)/\(au v x=true->l=eu v x/\ex=0)/\(au v x=false->l=[]/\ex=2)
theorem Ba (v:EV)(x:List (ByteArray×ByteArray))(w:World)(h:EAt w v x):Calls Tryz.prog 178 #[v.val] w (O3 v x w):=by
 have lx:x.length=v.an:=by have:=h.a.1;rw[fE] at this;omega
 have hb0:Below w.heap.size w (w.alloc v.box):=(Below.refl _ _).alloc (Nat.le_refl _) _;have k0:(w.alloc v.box).heap[w.heap.size]?=some v.box:=by show (w.heap.push _)[w.heap.size]?=some _;exact Array.getElem?_push_size
 unfold EV.box EV.cells at hb0 k0;unfold EV.val EV.cells;go_in;go_upto_region 1 with fail;generalize hg:w.alloc _=W0 at *;have k0f:W0.heap[w.heap.size]?=some v.box:=k0;have hh:=h.later hb0;clear hg k0;have hc:=nZ v x W0 hh;unfold EV.val EV.cells at hc;obtain⟨c0,c1,-⟩:=dF k0f;go_wp2_with fail;refine hc.mono ?_;rintro e W1 ⟨rfl,hb1⟩;have k1f:=(hb1.block _ (Array.getElem?_eq_some_iff.1 k0f).1).trans k0f;have hb1':=hb0.trans (hb1.mono hb0.size);clear hc c0 c1;cases hm:au v x with
 | false=>
  have HM:=hid hm;clear hm;go_wp2_with fail;go_ret2;exact⟨[],none,0,2,rfl,Rd.nil _ _,hb1',(fun a ha=>by cases ha),fun h=>(by rw[HM.out] at h;cases h),fun _=>⟨rfl,rfl⟩⟩
 | true=>
  have HM:=hid hm;have F:=FitE.of hm;have f1:=F.name;clear hm;obtain⟨c0,c1,-⟩:=dF k1f;have hw:WrS W1.heap.size W1.heap.size ⟨[],0⟩ (W1.alloc (.cells #[.slice none 0 0,.int .i64 0] 177)):=⟨_,by show (W1.heap.push _)[W1.heap.size]?=some _;exact Array.getElem?_push_size,Nat.le_refl _,World.ownsRow_nil _ _ _ _⟩
  have hbw:Below W1.heap.size W1 (W1.alloc (.cells #[.slice none 0 0,.int .i64 0] 177)):=(Below.refl _ _).alloc (Nat.le_refl _) _;have k2f:=(hbw.block _ (Array.getElem?_eq_some_iff.1 k1f).1).trans k1f;obtain⟨g0,g1,-⟩:=dF k2f;go_wp2_with fail;refine (kN W1.heap.size W1.heap.size ⟨[],0⟩ 1 v.name _ hw (by decide) (by omega)).mono ?_;rintro e W3 ⟨rfl,hw3,hb3,-⟩;have hb13:=hbw.trans hb3;have k3f:=(hb13.block _ (Array.getElem?_eq_some_iff.1 k1f).1).trans k1f;clear c0 c1 g0 g1;obtain⟨c0,c1,-⟩:=dF k3f;go_wp2_with fail;have e1:(WS.put ⟨[],0⟩ 1 v.name.data.toList)=⟨val 1 v.name.data.toList,0⟩:=rfl;rw[e1] at hw3;have h3:=hh.later (hb1.trans (hb13.mono hb1.size));refine (wW W1.heap.size W1.heap.size _ 2 v.ao v.an v.ac x W3 hw3 rfl (by dsimp only;rw[ae,fH];omega) h3.a (by rw[<-lx];exact F.n) F.attrs).mono ?_;rintro e W4 ⟨⟨r,rfl⟩,hw4,hb4,-⟩;have hb14:=hb13.trans hb4;have e2:(WS.put ⟨val 1 v.name.data.toList,0⟩ 2 (aC x))=⟨eu v x,0⟩:=rfl;rw[e2] at hw4;obtain⟨vw,hw4⟩:=hw4;have hln:=iL HM.out;go_wp2_with fail;refine (pU _ _ _ _ _ hw4 (by omega)).mono ?_;rintro e W5 ⟨v5,rfl,ho5,hb5⟩;obtain⟨a5,c5,rfl,hr5⟩:=Rd.of_own ho5;have hf5:=jF ho5;have hz:=(hb1'.trans (hb14.mono hb1'.size))
  go_wp2_with fail;go_ret2;exact⟨_,a5,c5,0,rfl,hr5,hz.trans (hb5.mono hz.size),fun a ha=>Nat.le_trans hz.size (hf5 a ha),fun _=>⟨rfl,rfl⟩,fun h=>(by rw[HM.out] at h;cases h)⟩
end Go.Proofs.YtfmmandlmbcncaaGreatDoor.Msg
namespace Go.Proofs.YtfmmandlmbcncaaGreatDoor.Msg
open Go.RowKit Go.Lib Mem Utf Tlv
structure EbAt (w:World)(v:EV)(W:World):Prop where
 o:W.heap[w.heap.size]?=some v.box
 bel:Below w.heap.size w W
theorem EbAt.step {w W W':World}{v:EV}(h:EbAt w v W)(hb:Below W.heap.size W W'):EbAt w v W':=⟨(hb.block _ (Array.getElem?_eq_some_iff.1 h.o).1).trans h.o,h.bel.trans (hb.mono h.bel.size)⟩
theorem EbAt.turn {w W W':World}{v:EV}{B:Nat}(h:EbAt w v W)(hb:Below B W W')(hB:w.heap.size<B):EbAt w v W':=⟨(hb.block _ hB).trans h.o,h.bel.trans (hb.mono (by omega))⟩
theorem IE (v:EV)(x:List (ByteArray×ByteArray))(w:World)(h:EAt w v x)(hf:FitE v x):Calls Tryz.prog 130 #[v.val] w (kz w (eu v x)):=by
 have hmo:Tryz.prog.follows .mixedOrders=true:=by kernel_rfl
 have lx:x.length=v.an:=by have:=h.a.1;rw[fE] at this;omega
 have hmn:v.name.size<=maxLen:=by have:=hf.name;unfold maxLen;omega
 have hnN:v.name.size<=4194304:=by have:=hf.name;omega
 have han:v.an<=1000:=by have:=hf.n;omega
 have hattr:=hf.attrs;have hA1:(aC x).length<=200000:=by have:=hf.len;omega
 obtain⟨Vn,hVn⟩:∃V,val 1 v.name.data.toList=V:=⟨_,rfl⟩
 obtain⟨Va,hVa⟩:∃V,val 2 (aC x)=V:=⟨_,rfl⟩
 have ln:Vn.length<=300000:=by rw[<-hVn,ae,dC];have:=hf.name;omega
 have lA:Va.length<=300000:=by rw[<-hVa,ae];omega
 have hent:eu v x=Vn++Va:=by unfold eu;rw[hVn,hVa]
 have HE:=hid hent;have HVn:=hid hVn;have HVa:=hid hVa;clear hent hVn hVa hf lx;have hb0:Below w.heap.size w (w.alloc v.box):=(Below.refl _ _).alloc (Nat.le_refl _) _;have k0:(w.alloc v.box).heap[w.heap.size]?=some v.box:=by show (w.heap.push _)[w.heap.size]?=some _;exact Array.getElem?_push_size
 unfold EV.box EV.cells at hb0 k0;unfold EV.val EV.cells;go_in;go_upto_region 1 with fail;generalize hg:w.alloc _=W0 at *;have s0:EbAt w v W0.drew:=(⟨k0,hb0⟩:EbAt w v W0).step (Below.refl _ _).drew;clear hg k0 hb0;refine wp_region_held (S:=EbAt w v) hmo ?_;change wpAnyH _ _ _ _ _ _ _ _ (World.drew W0);generalize World.drew W0=X0 at *;refine zHp 0 (.pointer (some ⟨w.heap.size,0,none⟩)) rfl s0 ?_;go_simp;refine zHa 1 (.string v.name) rfl (by rintro w2 h2;obtain⟨c0,c1,-⟩:=dF h2.o;go_simp) s0 ?_;go_simp;refine zHp 4 (.pointer (some ⟨w.heap.size,1,none⟩)) rfl s0 ?_;go_simp;refine zHa 5 (.slice v.ao v.an v.ac) rfl (by rintro w2 h2;obtain⟨c0,c1,-⟩:=dF h2.o;go_simp) s0 ?_;go_simp;refine zH1 2 rfl (fun K hK=>?_);obtain⟨k2,X1,hrun,r2,hb1⟩:=lU v.name hmn X0;go_simp;have s1:=s0.step hb1;clear hrun;refine hK _ _ ⟨s1,?_⟩;clear hK K;refine zH1 3 rfl (fun K hK=>?_);go_simp;refine (di 1 v.name.data.toList _ _ _ X1 hnN r2).mono ?_;rintro e X2 ⟨v3,rfl,o3,hb2⟩;rw[HVn.out] at o3;have s2:=s1.step hb2;have hB:w.heap.size<X1.heap.size:=(Array.getElem?_eq_some_iff.1 s1.o).1;go_simp;refine hK _ _ ⟨s2,?_⟩;clear hK K;refine zH1 6 rfl (fun K hK=>?_);go_simp;refine (FQ 2 _ _ _ x X2 (h.later s2.bel).a han hattr hA1).mono ?_;rintro e X3 ⟨v6,rfl,o6,hb3⟩;rw[HVa.out] at o6;have s3:=s2.step hb3;have o4:=aF o3 hb3;have z3:X1.heap.size<=X3.heap.size:=Nat.le_trans hb2.size hb3.size;go_simp;refine hK _ _ ⟨s3,?_⟩;clear hK K;refine zH1 7 rfl (fun K hK=>?_);obtain⟨ya,yk,e6,yr⟩:=Rd.of_own o6;subst e6;refine gX rfl (.tmp 6) (.tmp 9) 34 rfl X1.heap.size 5 (.int .u8 0) 1 1 Tlv.byT v3 _ _ rfl o4 ya _ yk _ rfl yr (eP _) (by unfold maxLen;omega) (by omega) z3 ?_;intro a7 k7 X4 x7 _ hb4 _;have s4:=s3.turn hb4 hB;refine hK _ _ ⟨s4,?_⟩;clear hK K;refine zHp 8 (.slice a7 (Vn.length+Va.length) k7) rfl s4 ?_;go_simp;refine wpAnyH_done (by kernel_rfl) ?_ _;go_wp2_with fail;go_ret;refine⟨_,rfl,own_base ?_ (Nat.le_of_lt hB),s4.bel⟩;rw[HE.out];simp only[List.length_append,iy];exact x7
def zeroE:EV:=⟨⟨#[]⟩,none,0,0⟩
def MH (v:EV)(x:List (ByteArray×ByteArray))(w:World)(e:Ending)(w':World):Prop:=∃u:EV,e=.returned u.val/\u.name=v.name/\u.an=v.an/\EAt w' u x/\(∀a,u.ao=some a->w.heap.size<=a.block)/\Below w.heap.size w w'
structure EcAt (w:World)(v:EV)(W:World):Prop where
 o:W.heap[w.heap.size]?=some v.box
 z:W.heap[w.heap.size+1]?=some zeroE.box
 bel:Below w.heap.size w W
theorem EcAt.step {w W W':World}{v:EV}(h:EcAt w v W)(hb:Below W.heap.size W W'):EcAt w v W':=⟨(hb.block _ (Array.getElem?_eq_some_iff.1 h.o).1).trans h.o,(hb.block _ (Array.getElem?_eq_some_iff.1 h.z).1).trans h.z,h.bel.trans (hb.mono h.bel.size)⟩
theorem Cf {f:Func}{i:Nat}{tmps:Array Value}{W:World}{b:Nat}{r:EV}(hr:f.results=#[.cell i 124])(hp:tmps.getD i undef=.pointer (some ⟨b,0,none⟩))(h:W.heap[b]?=some r.box):(results f tmps).run Tryz.prog W=.ok r.val W:=by
 obtain⟨c0,c1,-⟩:=dF h;simp only[results,hr];have hp':tmps[i]?.getD undef=.pointer (some ⟨b,0,none⟩):=by simpa using hp
 unfold EV.val EV.cells;simp[hp',asAddr];go_simp
theorem Cm (v:EV)(x:List (ByteArray×ByteArray))(w:World)(h:EAt w v x)(hla:v.an<=1000000000):Calls Tryz.prog 97 #[v.val] w (MH v x w):=by
 have hmo:Tryz.prog.follows .mixedOrders=true:=by kernel_rfl
 have hb0:Below w.heap.size w ((w.alloc v.box).alloc zeroE.box):=bU w _ _;obtain⟨k1,k2⟩:=bY w v.box zeroE.box;unfold zeroE EV.box EV.cells at hb0 k1 k2;unfold EV.val EV.cells;go_in;go_upto_region 1 with fail;generalize hg:World.alloc _ _=W0 at *;have s0:EcAt w v W0.drew:=(⟨k1,k2,hb0⟩:EcAt w v W0).step (Below.refl _ _).drew;clear hg k1 k2 hb0;refine ed (k:=6) (S:=EcAt w v) hmo ?_;change dh _ _ _ _ _ _ _ _ _ (World.drew W0);generalize World.drew W0=X0 at *;refine zTp 0 (.pointer (some ⟨w.heap.size,0,none⟩)) rfl s0 ?_;go_simp;refine zTa 1 (.string v.name) rfl (by rintro w2 h2;obtain⟨c0,c1,-⟩:=dF h2.o;go_simp) s0 ?_;go_simp;refine zTp 2 (.pointer (some ⟨w.heap.size,1,none⟩)) rfl s0 ?_;go_simp;refine zTa 3 (.slice v.ao v.an v.ac) rfl (by rintro w2 h2;obtain⟨c0,c1,-⟩:=dF h2.o;go_simp) s0 ?_;go_simp;refine zT1 4 rfl (fun K hK=>?_);go_simp;refine (zl v.ao v.an v.ac x X0 (h.later s0.bel).a hla).mono ?_;rintro e X1 ⟨a4,k4,rfl,r4,hb1,hf4,-⟩;have s1:=s0.step hb1;go_simp;refine hK _ _ ⟨.inr s1,?_⟩;clear hK K;refine zTa 5 (.agg #[.string v.name,.slice a4 v.an k4]) rfl (by rintro w2 h2;obtain⟨c0,c1,-⟩:=dF h2.o;go_simp) s1 ?_;go_simp;refine dH (by kernel_rfl) (by kernel_rfl) ?_;refine zA1 6 rfl (fun K hK=>?_);go_simp;obtain⟨d0,d1,d2⟩:=dF s1.z;unfold zeroE at d0 d1;dsimp only at d0 d1;go_simp;refine hK _ _ ?_;clear hK K;refine wpAny_done (by kernel_rfl) ?_ _;have hB:w.heap.size+1<X0.heap.size:=(Array.getElem?_eq_some_iff.1 s0.z).1;have hz:=s0.bel.size;have hF:((X1.setCell ⟨w.heap.size+1,0,none⟩ (.string v.name)).setCell ⟨w.heap.size+1,1,none⟩ (.slice a4 v.an k4)).heap[w.heap.size+1]?=some (EV.box ⟨v.name,a4,v.an,k4⟩):=(at_set (at_set s1.z)).trans (by kernel_rfl);have hne:∀a,a4=some a->a.block≠w.heap.size+1:=fun a ha=>by have:=hf4 a ha;omega
 have hR:=qm (qm r4 ⟨w.heap.size+1,0,none⟩ (.string v.name) hne) ⟨w.heap.size+1,1,none⟩ (.slice a4 v.an k4) hne;have hB2:=(s1.bel.setCell (p:=⟨w.heap.size+1,0,none⟩) (Nat.le_succ _) (.string v.name)).setCell (p:=⟨w.heap.size+1,1,none⟩) (Nat.le_succ _) (.slice a4 v.an k4);generalize World.setCell _ _ _=W4 at *;go_wp2_with fail;exact bodyPost_ret (w:=W4) (Cf (i:=2) rfl rfl hF) rfl ⟨⟨v.name,a4,v.an,k4⟩,rfl,rfl,rfl,⟨hR,h.la⟩,fun a ha=>Nat.le_trans hz (hf4 a ha),hB2⟩
end Go.Proofs.YtfmmandlmbcncaaGreatDoor.Msg
namespace Go.Proofs.YtfmmandlmbcncaaGreatDoor.Msg
open Go.RowKit Go.Lib Mem Tlv
abbrev EP:=EV×List (ByteArray×ByteArray)
def enV (l:List EP):List Value:=l.flatMap fun p=>p.1.cells.toList
theorem Oz (l:List EP):(enV l).length=l.length*2:=by
 induction l with
 | nil=>rfl
 | cons p l ih=>simp only[enV,List.flatMap_cons,List.length_append,EV.cells,List.length_cons] at ih ⊢;simp only[List.length_nil];omega
theorem kT:∀(l:List EP) (k:Nat) (p:EP),l[k]?=some p->(enV l)[k*2]?=some (.string p.1.name)/\(enV l)[k*2+1]?=some (.slice p.1.ao p.1.an p.1.ac)
 | [],k,p,h=>by simp at h
 | q::l,0,p,h=>by
  obtain rfl:q=p:=by simpa using h
  exact⟨rfl,rfl⟩
 | q::l,k+1,p,h=>by
  obtain⟨h1,h2⟩:=kT l k p (by simpa using h);have e1:(k+1)*2=k*2+1+1:=by omega
  have e:enV (q::l)=.string q.1.name::.slice q.1.ao q.1.an q.1.ac::enV l:=rfl;rw[e,e1];exact⟨h1,h2⟩
structure EnAt (W:World)(ao:Option Addr)(n cap:Nat)(l:List EP):Prop where
 r:Rd W 2 ao n cap (enV l)
 each:∀p∈l,EAt W p.1 p.2
theorem EnAt.later {W W':World}{ao:Option Addr}{n cap:Nat}{l:List EP}(h:EnAt W ao n cap l)(hb:Below W.heap.size W W'):EnAt W' ao n cap l:=⟨h.r.later hb,fun p hp=>(h.each p hp).later hb⟩
theorem EnAt.len {W:World}{ao:Option Addr}{n cap:Nat}{l:List EP}(h:EnAt W ao n cap l):l.length=n:=by have:=h.r.1;rw[Oz] at this;omega
theorem Ig (ao:Option Addr)(n cap:Nat)(x:List EP)(w:World)(h:EnAt w ao n cap x) :
  Calls Tryz.prog 174 #[.slice ao n cap,.func (.func 144) #[] #[]] w (xx (x.any fun u=>!au u.1 u.2) w):=by
 have lx:=h.len;have hx:=h.r;have LX:=hid lx;have hcap:n<=9223372036854775807:=by have:=hx.2.1;have:=hx.2.2.1;unfold maxLen at this;omega
 clear lx;go_in;go_wp2_with fail;go_loopw [8] (fun p wr=>∃k:Nat,k<=n/\p=.int .i64 (k:Int)/\Hid ((x.take k).any (fun u=>!au u.1 u.2)=false)/\Below w.heap.size w wr) (fun p _=>n-(intOf p).toNat)
 case atStart=>exact⟨0,Nat.zero_le _,rfl,hid rfl,Below.refl _ _⟩
 case round=>
  obtain⟨k,hk,rfl,Ht,hbr⟩:=hrel;by_cases hkn:k<n
  ·obtain⟨b1,o1,rfl,hl1,hc1⟩:=hx.some (by have:=hx.le;omega);obtain⟨u,hu⟩:∃u,x[k]?=some u:=⟨_,List.getElem?_eq_getElem (by rw[LX.out];exact hkn)⟩
   obtain⟨v1,v2⟩:=kT x k u hu;have c1:=(hbr.cell (p:=⟨b1,o1+k*2,none⟩) hl1).trans (hc1 (k*2) _ v1);have c2:wr.cell? ⟨b1,o1+k*2+1,none⟩=_:=(hbr.cell (p:=⟨b1,o1+(k*2+1),none⟩) hl1).trans (hc1 (k*2+1) _ v2);have hE:=(h.each u (List.mem_of_getElem? hu)).later hbr;have hc:=fun W (hb:Below wr.heap.size wr W)=>yz u.1 u.2 W (hE.later hb);unfold EV.val EV.cells at hc;clear v1 v2;have i0:(0:Int)<=(k:Int):=by omega
   have i1:(k:Int)<(n:Int):=by omega
   go_wp2_with fail;refine (hc _ (by first | exact Below.refl _ _ | exact (Below.refl _ _).alloc (Nat.le_refl _) _)).mono ?_;rintro e w1 ⟨rfl,hb1⟩;have hb2:=hbr.trans (hb1.mono hbr.size);by_cases hm:(!au u.1 u.2)=true
   ·have Hs:=hid (qY (fun u:EP=>!au u.1 u.2) x k u hu hm);rw[hm];go_wp2_with fail;go_ret;exact⟨k,rfl,by rw[Hs.out];simp,hb2⟩
   have hm2:(!au u.1 u.2)=false:=by simpa using hm
   have Hs:=hid (oC (fun u:EP=>!au u.1 u.2) x k u hu Ht.out hm2);rw[hm2];go_wp2_with fail;go_roundw
   case rel=>exact⟨k+1,by omega,by go_num,Hs,hb2⟩
   case measure=>simp[intOf];omega
  have Hs:Hid (x.any (fun u=>!au u.1 u.2)=false):=hid (by have:=Ht.out;rw[List.take_of_length_le (by rw[LX.out];omega)] at this;exact this);have hkn2:k=n:=by omega
  subst hkn2;go_wp2_with fail;go_ret;exact⟨-1,rfl,by rw[Hs.out];rfl,hbr⟩
theorem BF (ao:Option Addr)(n cap:Nat)(x:List EP)(w:World)(hx:EnAt w ao n cap x) :
  Calls Tryz.prog 143 #[.slice ao n cap,.func (.func 144) #[] #[]] w (aY (x.any fun u=>!au u.1 u.2) w):=by
 go_in;go_wp2_with fail;refine (Ig _ _ _ x _ hx).mono ?_;rintro e w1 ⟨r,rfl,hr,hb1⟩;have Hr:=hid hr;clear hr;go_wp2_with fail;go_ret;exact⟨by rw[<-Hr.out];rfl,hb1⟩
def aH:List EP->List EP->Bool
 | [],[]=>true
 | p::l,q::m=>bJ p.1 p.2 q.1 q.2&&aH l m
 | _,_=>false
theorem jG:∀ {l m:List EP},aH l m=true->l.length=m.length
 | [],[],_=>rfl
 | p::l,q::m,h=>by
  unfold aH at h;simp only[Bool.and_eq_true] at h;simp[jG h.2]
 | [],_::_,h=>by cases h
 | _::_,[],h=>by cases h
theorem nU:∀(l m:List EP) (k:Nat),aH (l.take k) (m.take k)=false->l.length=m.length->aH l m=false
 | [],[],_,h,_=>by simp[aH] at h
 | p::l,q::m,0,h,_=>by simp[aH] at h
 | p::l,q::m,k+1,h,hl=>by
  rw[List.take_succ_cons,List.take_succ_cons] at h;unfold aH at h ⊢;cases h1:bJ p.1 p.2 q.1 q.2 with
  | false=>rfl
  | true=>
   rw[h1,Bool.true_and] at h;rw[Bool.true_and];exact nU l m k h (by simpa using hl)
 | [],_::_,_,_,hl=>by simp at hl
 | _::_,[],_,_,hl=>by simp at hl
theorem kG:∀(l m:List EP) (k:Nat) (p q:EP),l[k]?=some p->m[k]?=some q->aH (l.take (k+1)) (m.take (k+1))=(aH (l.take k) (m.take k)&&bJ p.1 p.2 q.1 q.2)
 | [],_,k,p,q,h,_=>by simp at h
 | _::_,[],k,p,q,_,h=>by simp at h
 | a::l,b::m,0,p,q,h1,h2=>by
  obtain rfl:a=p:=by simpa using h1
  obtain rfl:b=q:=by simpa using h2
  simp[aH]
 | a::l,b::m,k+1,p,q,h1,h2=>by
  have:=kG l m k p q (by simpa using h1) (by simpa using h2);rw[List.take_succ_cons,List.take_succ_cons,List.take_succ_cons,List.take_succ_cons];unfold aH;rw[this,Bool.and_assoc]
theorem G6 (ao bo:Option Addr)(n m cap cbp:Nat)(x y:List EP)(w:World)(hx:EnAt w ao n cap x)(hy:EnAt w bo m cbp y) :
  Calls Tryz.prog 172 #[.slice ao n cap,.slice bo m cbp,.func (.func 173) #[] #[]] w (aY (aH x y) w):=by
 have lx:=hx.len;have ly:=hy.len;have hcap:n<=9223372036854775807:=by have:=hx.r.2.1;have:=hx.r.2.2.1;unfold maxLen at this;omega
 by_cases hnm:n=m
 case neg=>
  have f1:((n:Int)==(m:Int))=false:=by rw[beq_eq_false_iff_ne];omega
  have Hs:Hid (aH x y=false):=hid (by
   cases h:aH x y with
   | false=>rfl
   | true=>have:=jG h;omega)
  clear lx ly;go_in;go_wp2_with fail;go_ret;exact⟨by rw[Hs.out];rfl,Below.refl _ _⟩
 subst hnm;have LX:=hid lx;have LY:=hid ly;clear lx ly;go_in;go_wp2_with fail;go_loopw [17] (fun p wr=>∃k:Nat,k<=n/\p=.int .i64 (k:Int)/\Hid (aH (x.take k) (y.take k)=true)/\Below w.heap.size w wr) (fun p _=>n-(intOf p).toNat)
 case atStart=>exact⟨0,Nat.zero_le _,rfl,hid rfl,Below.refl _ _⟩
 case round=>
  obtain⟨k,hk,rfl,Ht,hbr⟩:=hrel;by_cases hkn:k<n
  ·obtain⟨b1,o1,rfl,hl1,hc1⟩:=hx.r.some (by have:=hx.r.le;omega);obtain⟨b2,o2,rfl,hl2,hc2⟩:=hy.r.some (by have:=hy.r.le;omega);obtain⟨u,hu⟩:∃u,x[k]?=some u:=⟨_,List.getElem?_eq_getElem (by rw[LX.out];exact hkn)⟩
   obtain⟨v,hv⟩:∃v,y[k]?=some v:=⟨_,List.getElem?_eq_getElem (by rw[LY.out];exact hkn)⟩
   obtain⟨v1,v2⟩:=kT x k u hu;obtain⟨v3,v4⟩:=kT y k v hv;have c1:=(hbr.cell (p:=⟨b1,o1+k*2,none⟩) hl1).trans (hc1 (k*2) _ v1);have c2:wr.cell? ⟨b1,o1+k*2+1,none⟩=_:=(hbr.cell (p:=⟨b1,o1+(k*2+1),none⟩) hl1).trans (hc1 (k*2+1) _ v2);have hbA:Below wr.heap.size wr (wr.alloc u.1.box):=(Below.refl _ _).alloc (Nat.le_refl _) _;have c3:=((hbr.trans (hbA.mono hbr.size)).cell (p:=⟨b2,o2+k*2,none⟩) hl2).trans (hc2 (k*2) _ v3);have c4:(wr.alloc u.1.box).cell? ⟨b2,o2+k*2+1,none⟩=_:=((hbr.trans (hbA.mono hbr.size)).cell (p:=⟨b2,o2+(k*2+1),none⟩) hl2).trans (hc2 (k*2+1) _ v4);have hb0:Below wr.heap.size wr ((wr.alloc u.1.box).alloc v.1.box):=bU wr _ _;obtain⟨k1,k2⟩:=bY wr u.1.box v.1.box;have hE1:=(hx.each u (List.mem_of_getElem? hu)).later hbr;have hE2:=(hy.each v (List.mem_of_getElem? hv)).later hbr;have hc:=zV u.1 v.1 u.2 v.2 _ (hE1.later hb0) (hE2.later hb0);have hnx:=kG x y k u v hu hv;rw[Ht.out,Bool.true_and] at hnx;have HN:=hid hnx;unfold EV.val EV.box EV.cells at hc;unfold EV.box EV.cells at c3 c4 hb0 k1 k2 hbA;clear v1 v2 v3 v4 hnx;have i0:(0:Int)<=(k:Int):=by omega
   have i1:(k:Int)<(n:Int):=by omega
   go_wp2_with fail;refine hc.mono ?_;rintro e w1 ⟨rfl,hb1⟩;have hb2:=hbr.trans ((hb0.trans (hb1.mono hb0.size)).mono hbr.size);cases hm:bJ u.1 u.2 v.1 v.2 with
   | false=>
    have Hs:Hid (aH x y=false):=hid (nU x y (k+1) (by rw[HN.out];exact hm) (by rw[LX.out,LY.out]));clear hm;go_wp2_with fail;go_ret;exact⟨by rw[Hs.out];rfl,hb2⟩
   | true=>
    have Hs:Hid (aH (x.take (k+1)) (y.take (k+1))=true):=hid (by rw[HN.out];exact hm);clear hm;go_wp2_with fail;go_roundw
    case rel=>exact⟨k+1,by omega,by go_num,Hs,hb2⟩
    case measure=>simp[intOf];omega
  have Hs:Hid (aH x y=true):=hid (by have:=Ht.out;rw[List.take_of_length_le (by rw[LX.out];omega),List.take_of_length_le (by rw[LY.out];omega)] at this;exact this);have hkn2:k=n:=by omega
  subst hkn2;go_wp2_with fail;go_ret;exact⟨by rw[Hs.out];rfl,hbr⟩
structure QV where
 code:Int
 yes:Bool
 eo:Option Addr
 en:Nat
 ec:Nat
 co:Option Addr
 cn:Nat
 cc:Nat
def QV.cells (v:QV):Array Value:=#[.int .i64 v.code,.bool v.yes,.slice v.eo v.en v.ec,.slice v.co v.cn v.cc]
def QV.val (v:QV):Value:=.agg v.cells
def QV.box (v:QV):Obj:=.cells v.cells 39
structure QC where
 ents:List EP
 cursor:List UInt8
structure QAt (W:World)(v:QV)(c:QC):Prop where
 e:EnAt W v.eo v.en v.ec c.ents
 c:Rd W 1 v.co v.cn v.cc (byV c.cursor)
 lc:v.cn<=1000000000
theorem QAt.later {W W':World}{v:QV}{c:QC}(h:QAt W v c)(hb:Below W.heap.size W W'):QAt W' v c:=⟨h.e.later hb,h.c.later hb,h.lc⟩
theorem aj {W:World}{B:Nat}{v:QV}(h:W.heap[B]?=some v.box):W.cell? ⟨B,0,none⟩=some (.int .i64 v.code)/\W.cell? ⟨B,1,none⟩=some (.bool v.yes)/\W.cell? ⟨B,2,none⟩=some (.slice v.eo v.en v.ec)/\W.cell? ⟨B,3,none⟩=some (.slice v.co v.cn v.cc)/\∀i,W.frozen? ⟨B,i,none⟩=false:=by
 unfold QV.box QV.cells at h;simp[World.cell?,World.frozen?,h]
def aN (v:QV)(c:QC)(v':QV)(c':QC):Bool:=decide (v.code=v'.code)&&(decide (v.yes=v'.yes)&&(aH c.ents c'.ents&&decide (c.cursor=c'.cursor)))
theorem sG {w W W':World}{v v':QV}(h1:W.heap[w.heap.size]?=some v.box)(h2:W.heap[w.heap.size+1]?=some v'.box)(hb:Below W.heap.size W W'):W'.heap[w.heap.size]?=some v.box/\W'.heap[w.heap.size+1]?=some v'.box:=
 ⟨(hb.block _ (Array.getElem?_eq_some_iff.1 h1).1).trans h1,(hb.block _ (Array.getElem?_eq_some_iff.1 h2).1).trans h2⟩
theorem vT (v v':QV)(c c':QC)(w:World)(h:QAt w v c)(h':QAt w v' c'):Calls Tryz.prog 139 #[v.val,v'.val] w (aY (aN v c v' c') w):=by
 have hb0:Below w.heap.size w ((w.alloc v.box).alloc v'.box):=bU w _ _;obtain⟨k1,k2⟩:=bY w v.box v'.box;have hE:=G6 v.eo v'.eo v.en v'.en v.ec v'.ec c.ents c'.ents _ (h.e.later hb0) (h'.e.later hb0);unfold QV.box QV.cells at hb0 k1 k2 hE;unfold QV.val QV.cells;by_cases e1:v.code=v'.code
 case neg=>
  have f1:(v.code==v'.code)=false:=by simp[e1]
  have Hs:Hid (aN v c v' c'=false):=hid (by unfold aN;rw[decide_eq_false e1];simp);clear e1 hE;go_in;go_wp2_with fail;go_ret;exact⟨by rw[Hs.out];rfl,hb0⟩
 have f1:(v.code==v'.code)=true:=by simp[e1]
 by_cases e2:v.yes=v'.yes
 case neg=>
  have f2:(v.yes==v'.yes)=false:=by simp[e2]
  have Hs:Hid (aN v c v' c'=false):=hid (by unfold aN;rw[decide_eq_false e2];simp);clear e1 e2 hE;go_in;go_wp2_with fail;go_ret;exact⟨by rw[Hs.out];rfl,hb0⟩
 have f2:(v.yes==v'.yes)=true:=by simp[e2]
 have Hs:Hid (aN v c v' c'=(aH c.ents c'.ents&&decide (c.cursor=c'.cursor))):=hid (by unfold aN;rw[decide_eq_true e1,decide_eq_true e2];simp);clear e1 e2;go_in;go_upto_region 1 with fail;generalize hg:World.alloc _ _=W0 at *;have q1:W0.heap[w.heap.size]?=some v.box:=k1;have q2:W0.heap[w.heap.size+1]?=some v'.box:=k2;clear hg k1 k2;obtain⟨c0,c1,c2,c3,-⟩:=aj q1;obtain⟨d0,d1,d2,d3,-⟩:=aj q2;go_wp2_with fail;refine hE.mono ?_;rintro e W1 ⟨rfl,hb1⟩;obtain⟨q1',q2'⟩:=sG q1 q2 hb1;have hbel:=hb0.trans (hb1.mono hb0.size);clear c0 c1 c2 c3 d0 d1 d2 d3 hE q1 q2;obtain⟨c0,c1,c2,c3,-⟩:=aj q1';obtain⟨d0,d1,d2,d3,-⟩:=aj q2';cases hm:aH c.ents c'.ents with
 | false=>
  have HM:=hid hm;clear hm;go_wp2_with fail;go_ret;exact⟨by rw[Hs.out,HM.out];rfl,hbel⟩
 | true=>
  have HM:=hid hm;clear hm;go_wp2_with fail;refine (sW v.co v'.co v.cn v'.cn v.cc v'.cc c.cursor c'.cursor W1 (h.c.later hbel) (h'.c.later hbel) h.lc).mono ?_;rintro e W2 ⟨rfl,hb2⟩;go_wp2_with fail;go_ret;exact⟨by rw[Hs.out,HM.out,Bool.true_and];rfl,hbel.trans (hb2.mono hbel.size)⟩
end Go.Proofs.YtfmmandlmbcncaaGreatDoor.Msg
