/-
  A part of the proof.
-/
import Derived.Laws.CopyOwn
import Derived.Test.YtfmmandlmbcncaaGreatDoorKcal
set_option maxHeartbeats 40000000
set_option maxRecDepth 100000
namespace Go.Proofs.YtfmmandlmbcncaaGreatDoor.Msg
open Go.RowKit Go.Lib Mem Utf
structure InBare (w:World)(v u:OV)(W:World):Prop where
 o:W.heap[w.heap.size]?=some v.box
 r:W.heap[w.heap.size+1]?=some zeroV.box
 b:W.heap[w.heap.size+1+1]?=some u.box
 bel:Below w.heap.size w W
def G6 (v:OV)(w:World)(e:Ending)(w':World):Prop:=e=.returned (.tuple #[(bI (fieldsOf v.k) v).val,.bool (decide (fieldsOf v.k≠[]))])/\Below w.heap.size w w'
theorem InBare.set {w W:World}{v u:OV}(h:InBare w v u W)(i:Nat)(x:Value)(u':OV)(hc:∀cs,u.box=.cells cs 36->u'.box=.cells (cs.setIfInBounds i x) 36):InBare w v u' (W.setCell ⟨w.heap.size+1+1,i,none⟩ x):=by
 obtain⟨h1,h2,h3,h4⟩:=h;refine⟨ai h1 (by omega),ai h2 (by omega),?_,h4.setCell (p:=⟨w.heap.size+1+1,i,none⟩) (by dsimp only;omega) x⟩;have e:=hc _ rfl;rw[e];unfold OV.box at h3;exact at_set h3
theorem InBare.done {w W:World}{v u:OV}(h:InBare w v u W)(cs:Array Value)(_hc:u.box=.cells cs 36):(W.setRow (w.heap.size+1) cs).heap[w.heap.size+1]?=some (.cells cs 36)/\Below w.heap.size w (W.setRow (w.heap.size+1) cs):=by
 have hr:=h.r;unfold OV.box at hr;exact⟨bf hr,below_setRow h.bel (by omega) _⟩
theorem GY (v:OV)(w:World):Calls Tryz.prog 46 #[v.val] w (G6 v w):=by
 have hmo:Tryz.prog.follows .mixedOrders=true:=by kernel_rfl
 have s0:InBare w v (bI [] v) (((w.alloc v.box).alloc zeroV.box).alloc (bI [] v).box):=by
  obtain⟨k1,k2,k3⟩:=qH w v.box zeroV.box (bI [] v).box;exact⟨k1,k2,k3,qG w _ _ _⟩
 unfold OV.box at s0;unfold OV.val;by_cases hk:1<=v.k/\v.k<=8
 case neg=>
  have HF:Hid (fieldsOf v.k=[]):=hid (by unfold fieldsOf;(repeat rw[if_neg (by omega)]));have g1:(v.k==1)=false:=by simp;omega
  have g3:(v.k==3)=false:=by simp;omega
  have g5:(v.k==5)=false:=by simp;omega
  have g2:(v.k==2)=false:=by simp;omega
  have g6:(v.k==6)=false:=by simp;omega
  have g4:(v.k==4)=false:=by simp;omega
  have g7:(v.k==7)=false:=by simp;omega
  have g8:(v.k==8)=false:=by simp;omega
  clear hk;go_in;go_upto_region 2 with (refine zNr rfl ?_;go_simp);generalize hg:((w.alloc _).alloc _).alloc _=W0;have s9:InBare w v (bI [] v) W0:=by rw[<-hg];exact s0
  clear hg s0;obtain⟨c0,c1,c2,c3,c4,c5,c6,-⟩:=au s9.o;go_wp2_with (first | (refine zLr rfl s9.b ?_;go_simp) | (refine zSr rfl s9.r ?_;go_simp));obtain⟨f1,f2⟩:=s9.done _ rfl;exact bodyPost_ret (az (i:=2) (j:=3) (t:=36) rfl rfl rfl (by kernel_rfl) (by kernel_rfl) f1) rfl ⟨by rw[HF.out];rfl,f2⟩
 rcases (by omega:v.k=1\/v.k=3\/v.k=5\/v.k=2\/v.k=6\/v.k=4\/v.k=7\/v.k=8) with hv | hv | hv | hv | hv | hv | hv | hv
 all_goals
  clear hk
  first | have g1:(v.k==1)=true:=by simp;omega | have g1:(v.k==1)=false:=by simp;omega
  first | have g3:(v.k==3)=true:=by simp;omega | have g3:(v.k==3)=false:=by simp;omega
  first | have g5:(v.k==5)=true:=by simp;omega | have g5:(v.k==5)=false:=by simp;omega
  first | have g2:(v.k==2)=true:=by simp;omega | have g2:(v.k==2)=false:=by simp;omega
  first | have g6:(v.k==6)=true:=by simp;omega | have g6:(v.k==6)=false:=by simp;omega
  first | have g4:(v.k==4)=true:=by simp;omega | have g4:(v.k==4)=false:=by simp;omega
  first | have g7:(v.k==7)=true:=by simp;omega | have g7:(v.k==7)=false:=by simp;omega
  first | have g8:(v.k==8)=true:=by simp;omega | have g8:(v.k==8)=false:=by simp;omega
  have HV:=hid hv;clear hv;go_in;go_upto_region 2 with (refine zNr rfl ?_;go_simp);generalize hg:((w.alloc _).alloc _).alloc _=W0;have s1:InBare w v (bI [] v) W0:=by rw[<-hg];exact s0
  clear hg s0;obtain⟨c0,c1,c2,c3,c4,c5,c6,-⟩:=au s1.o;obtain⟨b0,b1,b2,b3,b4,b5,b6,b7⟩:=au s1.b
 iterate 3
  focus
   have HF:Hid (fieldsOf v.k=[110,97]):=hid (by rw[HV.out];rfl);go_upto_region 7 with fail;have d0:InBare w v (bI [] v) W0.drew:=⟨s1.o,s1.r,s1.b,s1.bel.drew⟩
   refine wp_region_held (S:=fun W=>W.heap[w.heap.size]?=some v.box) hmo ?_;change wpAnyH _ _ _ _ _ _ _ _ (World.drew _);refine zHp 0 (.pointer (some ⟨w.heap.size,1,none⟩)) rfl d0.o ?_;go_simp;refine zHa 1 (.string v.name) rfl (by rintro w h;obtain⟨c0,c1,c2,c3,c4,c5,c6,-⟩:=au h;go_simp) d0.o ?_;go_simp;refine zHp 2 (.pointer (some ⟨w.heap.size,3,none⟩)) rfl d0.o ?_;go_simp;refine zHa 3 (.slice v.ao v.an v.ac) rfl (by rintro w h;obtain⟨c0,c1,c2,c3,c4,c5,c6,-⟩:=au h;go_simp) d0.o ?_;go_simp;refine zHp 4 (.pointer (some ⟨w.heap.size+1+1,1,none⟩)) rfl d0.o ?_;go_simp;refine zH1 5 rfl (fun K hK=>?_);go_simp;have d1:=d0.set 1 (.string v.name) (bI [110] v) (fun cs h=>by cases h;rfl);refine hK _ _ ⟨d1.o,?_⟩;clear hK K;refine zHp 6 (.pointer (some ⟨w.heap.size+1+1,3,none⟩)) rfl d1.o ?_;go_simp;refine zH1 7 rfl (fun K hK=>?_);go_simp;have d2:=d1.set 3 (.slice v.ao v.an v.ac) (bI [110,97] v) (fun cs h=>by cases h;rfl);refine hK _ _ ⟨d2.o,?_⟩;clear hK K;refine wpAnyH_done (by kernel_rfl) ?_ _;have s9:=d2;clear c0 c1 c2 c3 c4 c5 c6 b0 b1 b2 b3 b4 b5 b6 b7
  rotate_left
 iterate 2
  focus
   have HF:Hid (fieldsOf v.k=[110]):=hid (by rw[HV.out];rfl);go_upto_region 17 with fail;have s2:=s1.set 1 (.string v.name) (bI [110] v) (fun cs h=>by cases h;rfl);have s9:=s2;clear c0 c1 c2 c3 c4 c5 c6 b0 b1 b2 b3 b4 b5 b6 b7
  rotate_left
 focus
  have HF:Hid (fieldsOf v.k=[110,116]):=hid (by rw[HV.out];rfl);go_upto_region 12 with fail;have d0:InBare w v (bI [] v) W0.drew:=⟨s1.o,s1.r,s1.b,s1.bel.drew⟩
  refine wp_region_held (S:=fun W=>W.heap[w.heap.size]?=some v.box) hmo ?_;change wpAnyH _ _ _ _ _ _ _ _ (World.drew _);refine zHp 0 (.pointer (some ⟨w.heap.size,1,none⟩)) rfl d0.o ?_;go_simp;refine zHa 1 (.string v.name) rfl (by rintro w h;obtain⟨c0,c1,c2,c3,c4,c5,c6,-⟩:=au h;go_simp) d0.o ?_;go_simp;refine zHp 2 (.pointer (some ⟨w.heap.size,2,none⟩)) rfl d0.o ?_;go_simp;refine zHa 3 (.string v.to) rfl (by rintro w h;obtain⟨c0,c1,c2,c3,c4,c5,c6,-⟩:=au h;go_simp) d0.o ?_;go_simp;refine zHp 4 (.pointer (some ⟨w.heap.size+1+1,1,none⟩)) rfl d0.o ?_;go_simp;refine zH1 5 rfl (fun K hK=>?_);go_simp;have d1:=d0.set 1 (.string v.name) (bI [110] v) (fun cs h=>by cases h;rfl);refine hK _ _ ⟨d1.o,?_⟩;clear hK K;refine zHp 6 (.pointer (some ⟨w.heap.size+1+1,2,none⟩)) rfl d1.o ?_;go_simp;refine zH1 7 rfl (fun K hK=>?_);go_simp;have d2:=d1.set 2 (.string v.to) (bI [110,116] v) (fun cs h=>by cases h;rfl);refine hK _ _ ⟨d2.o,?_⟩;clear hK K;refine wpAnyH_done (by kernel_rfl) ?_ _;have s9:=d2;clear c0 c1 c2 c3 c4 c5 c6 b0 b1 b2 b3 b4 b5 b6 b7
 rotate_left
 focus
  have HF:Hid (fieldsOf v.k=[112,99,107]):=hid (by rw[HV.out];rfl);go_upto_region 14 with fail;have d0:InBare w v (bI [] v) W0.drew:=⟨s1.o,s1.r,s1.b,s1.bel.drew⟩
  refine wp_region_held (S:=fun W=>W.heap[w.heap.size]?=some v.box) hmo ?_;change wpAnyH _ _ _ _ _ _ _ _ (World.drew _);refine zHp 0 (.pointer (some ⟨w.heap.size,4,none⟩)) rfl d0.o ?_;go_simp;refine zHa 1 (.slice v.bo v.bn v.bc) rfl (by rintro w h;obtain⟨c0,c1,c2,c3,c4,c5,c6,-⟩:=au h;go_simp) d0.o ?_;go_simp;refine zHp 2 (.pointer (some ⟨w.heap.size,5,none⟩)) rfl d0.o ?_;go_simp;refine zHa 3 (.slice v.co v.cn v.cc) rfl (by rintro w h;obtain⟨c0,c1,c2,c3,c4,c5,c6,-⟩:=au h;go_simp) d0.o ?_;go_simp;refine zHp 4 (.pointer (some ⟨w.heap.size,6,none⟩)) rfl d0.o ?_;go_simp;refine zHa 5 (.int .i64 v.n) rfl (by rintro w h;obtain⟨c0,c1,c2,c3,c4,c5,c6,-⟩:=au h;go_simp) d0.o ?_;go_simp;refine zHp 6 (.pointer (some ⟨w.heap.size+1+1,4,none⟩)) rfl d0.o ?_;go_simp;refine zH1 7 rfl (fun K hK=>?_);go_simp;have d1:=d0.set 4 (.slice v.bo v.bn v.bc) (bI [112] v) (fun cs h=>by cases h;rfl);refine hK _ _ ⟨d1.o,?_⟩;clear hK K;refine zHp 8 (.pointer (some ⟨w.heap.size+1+1,5,none⟩)) rfl d1.o ?_;go_simp;refine zH1 9 rfl (fun K hK=>?_);go_simp;have d2:=d1.set 5 (.slice v.co v.cn v.cc) (bI [112,99] v) (fun cs h=>by cases h;rfl);refine hK _ _ ⟨d2.o,?_⟩;clear hK K;refine zHp 10 (.pointer (some ⟨w.heap.size+1+1,6,none⟩)) rfl d2.o ?_;go_simp;refine zH1 11 rfl (fun K hK=>?_);go_simp;have d3:=d2.set 6 (.int .i64 v.n) (bI [112,99,107] v) (fun cs h=>by cases h;rfl);refine hK _ _ ⟨d3.o,?_⟩;clear hK K;refine wpAnyH_done (by kernel_rfl) ?_ _;have s9:=d3;clear c0 c1 c2 c3 c4 c5 c6 b0 b1 b2 b3 b4 b5 b6 b7
 rotate_left
 focus
  have HF:Hid (fieldsOf v.k=[99,107]):=hid (by rw[HV.out];rfl);go_upto_region 16 with fail;have d0:InBare w v (bI [] v) W0.drew:=⟨s1.o,s1.r,s1.b,s1.bel.drew⟩
  refine wp_region_held (S:=fun W=>W.heap[w.heap.size]?=some v.box) hmo ?_;change wpAnyH _ _ _ _ _ _ _ _ (World.drew _);refine zHp 0 (.pointer (some ⟨w.heap.size,5,none⟩)) rfl d0.o ?_;go_simp;refine zHa 1 (.slice v.co v.cn v.cc) rfl (by rintro w h;obtain⟨c0,c1,c2,c3,c4,c5,c6,-⟩:=au h;go_simp) d0.o ?_;go_simp;refine zHp 2 (.pointer (some ⟨w.heap.size,6,none⟩)) rfl d0.o ?_;go_simp;refine zHa 3 (.int .i64 v.n) rfl (by rintro w h;obtain⟨c0,c1,c2,c3,c4,c5,c6,-⟩:=au h;go_simp) d0.o ?_;go_simp;refine zHp 4 (.pointer (some ⟨w.heap.size+1+1,5,none⟩)) rfl d0.o ?_;go_simp;refine zH1 5 rfl (fun K hK=>?_);go_simp;have d1:=d0.set 5 (.slice v.co v.cn v.cc) (bI [99] v) (fun cs h=>by cases h;rfl);refine hK _ _ ⟨d1.o,?_⟩;clear hK K;refine zHp 6 (.pointer (some ⟨w.heap.size+1+1,6,none⟩)) rfl d1.o ?_;go_simp;refine zH1 7 rfl (fun K hK=>?_);go_simp;have d2:=d1.set 6 (.int .i64 v.n) (bI [99,107] v) (fun cs h=>by cases h;rfl);refine hK _ _ ⟨d2.o,?_⟩;clear hK K;refine wpAnyH_done (by kernel_rfl) ?_ _;have s9:=d2;clear c0 c1 c2 c3 c4 c5 c6 b0 b1 b2 b3 b4 b5 b6 b7
 rotate_left
 all_goals
  go_wp2_with (first | (refine zLr rfl s9.b ?_;go_simp) | (refine zSr rfl s9.r ?_;go_simp));obtain⟨f1,f2⟩:=s9.done _ rfl;exact bodyPost_ret (az (i:=2) (j:=3) (t:=36) rfl rfl rfl (by kernel_rfl) (by kernel_rfl) f1) rfl ⟨by rw[HF.out];rfl,f2⟩
def fA (v:OV)(c:OC):Bool:=
 decide (fieldsOf v.k≠[])&&bU v c (bI (fieldsOf v.k) v) (iR (fieldsOf v.k) c)&&aV v.name&&aV v.to&&decide (v.an<=50)&&decide (v.bn<=8)&&decide (v.cn<=4000)&&decide (0<=v.n)&&decide (v.n<=1000) &&
  (c.attrs.all aK&&c.parts.all aV&&(!decide (v.k=1)||bC c.attrs)&&(!decide (v.k=5)||decide (v.an=1)))
theorem NE (l:List ByteArray):(!l.any fun u=>!aV u)=l.all aV:=by
 rw[List.all_eq_not_any_not]
theorem Jf (l:List (ByteArray×ByteArray)):(!l.any fun u=>!aK u)=l.all aK:=by
 rw[List.all_eq_not_any_not]
theorem lU (k:Int):fieldsOf k=[]\/(k=1/\fieldsOf k=[110,97])\/(k=2/\fieldsOf k=[110])\/(k=3/\fieldsOf k=[110,97])\/(k=4/\fieldsOf k=[110,116])\/(k=5/\fieldsOf k=[110,97])\/(k=6/\fieldsOf k=[110])\/(k=7/\fieldsOf k=[112,99,107])\/(k=8/\fieldsOf k=[99,107]):=by
 by_cases h:1<=k/\k<=8
 ·rcases (by omega:k=1\/k=2\/k=3\/k=4\/k=5\/k=6\/k=7\/k=8) with rfl|rfl|rfl|rfl|rfl|rfl|rfl|rfl<;>simp[fieldsOf]
 left;unfold fieldsOf
 repeat rw[if_neg (by omega)]
theorem Ic (v:OV)(c:OC)(W:World)(h:OpAt W v c):fA v c=aF v c:=by
 have lb:c.parts.length=v.bn:=by have:=h.b.1;rw[gG] at this;omega
 have lc:c.cursor.length=v.cn:=by have:=h.c.1;rw[aP] at this;omega
 unfold fA aF dW nD;rw[Jf,NE];rcases lU v.k with hf | ⟨hk,hf⟩ | ⟨hk,hf⟩ | ⟨hk,hf⟩ | ⟨hk,hf⟩ | ⟨hk,hf⟩ | ⟨hk,hf⟩ | ⟨hk,hf⟩ | ⟨hk,hf⟩
 ·rw[hf];simp
 all_goals
  by_cases hs:bU v c (bI (fieldsOf v.k) v) (iR (fieldsOf v.k) c)=true
  case neg=>rw[Bool.not_eq_true] at hs;rw[hs];simp
  rw[hs];rw[hf] at hs ⊢;have h2:=of_decide_eq_true hs;simp[bI,iR] at h2;rw[Bool.eq_iff_iff];have hn:(0:Int)<=v.n/\v.n<=1000\/¬((0:Int)<=v.n/\v.n<=1000):=by omega
  simp only[hk,<-lb,<-lc,Bool.and_eq_true,decide_eq_true_eq,Bool.or_eq_true,Bool.not_eq_true',decide_eq_false_iff_not];simp[h2]
  try grind
structure MayAt (w:World)(v:OV)(bb:Nat)(W:World):Prop where
 o:W.heap[w.heap.size]?=some v.box
 b:W.heap[bb]?=some (bI (fieldsOf v.k) v).box
 bel:Below w.heap.size w W
theorem MayAt.step {w W W':World}{v:OV}{bb:Nat}(h:MayAt w v bb W)(hb:Below W.heap.size W W'):MayAt w v bb W':=
 ⟨(hb.block _ (Array.getElem?_eq_some_iff.1 h.o).1).trans h.o,(hb.block _ (Array.getElem?_eq_some_iff.1 h.b).1).trans h.b,h.bel.trans (hb.mono h.bel.size)⟩
theorem rJ (v:OV)(c:OC)(w:World)(ho:OpAt w v c):Calls Tryz.prog 12 #[v.val] w (aN (aF v c) w):=by
 rw[<-Ic v c w ho];have la:c.attrs.length=v.an:=by have:=ho.a.1;rw[fG] at this;omega
 have lb:c.parts.length=v.bn:=by have:=ho.b.1;rw[gG] at this;omega
 have LA:=hid la;have LB:=hid lb;clear la lb;have hb0:Below w.heap.size w (w.alloc v.box):=(Below.refl _ _).alloc (Nat.le_refl _) _;have k0:(w.alloc v.box).heap[w.heap.size]?=some v.box:=by show (w.heap.push _)[w.heap.size]?=some _;exact Array.getElem?_push_size
 unfold OV.box at hb0 k0;unfold OV.val;go_in;go_upto_region 1 with fail;generalize hg:w.alloc _=W0 at *;have k0f:W0.heap[w.heap.size]?=some v.box:=k0;clear hg k0;go_wp2_with (refine zLr rfl k0f ?_;go_simp);obtain⟨ok,hok⟩:∃ok,decide (fieldsOf v.k≠[])=ok:=⟨_,rfl⟩
 have HOK:=hid hok;clear hok;refine (GY v W0).mono ?_;rintro e w1 ⟨rfl,hb1⟩;rw[HOK.out];go_upto_region 2 with (refine zNr rfl ?_;go_simp);generalize hg:w1.alloc _=W2;have hb2:Below w1.heap.size w1 W2:=by rw[<-hg];exact (Below.refl _ _).alloc (Nat.le_refl _) _
 have q2:W2.heap[w1.heap.size]?=some (bI (fieldsOf v.k) v).box:=by rw[<-hg];show (w1.heap.push _)[w1.heap.size]?=some _;exact Array.getElem?_push_size
 have s2:MayAt w v w1.heap.size W2:=⟨(hb2.block _ (Nat.lt_of_lt_of_le (Array.getElem?_eq_some_iff.1 k0f).1 hb1.size)).trans ((hb1.block _ (Array.getElem?_eq_some_iff.1 k0f).1).trans k0f),q2,(hb0.trans (hb1.mono hb0.size)).trans (hb2.mono (Nat.le_trans hb0.size hb1.size))⟩
 clear hg hb2 q2 hb1 hb0 k0f;generalize w1.heap.size=bb at *;have o2:=ho.later s2.bel;have hsame:=vO v (bI (fieldsOf v.k) v) c (iR (fieldsOf v.k) c) W2 o2 (Du o2 _);cases ok with
 | false=>
  have Hs:Hid (fA v c=false):=hid (by unfold fA;rw[HOK.out];simp);clear hsame;go_wp2_with fail;go_ret;exact⟨by rw[Hs.out];rfl,s2.bel⟩
 | true=>
 have HD:=HOK;go_wp2_with (first | (refine zLr rfl s2.o ?_;go_simp) | (refine zLr rfl s2.b ?_;go_simp));refine hsame.mono ?_;rintro e w3 ⟨rfl,hb3⟩;have s3:=s2.step hb3;clear hsame;by_cases h1:bU v c (bI (fieldsOf v.k) v) (iR (fieldsOf v.k) c)=true
 case neg=>
  rw[Bool.not_eq_true] at h1;have Hs:Hid (fA v c=false):=hid (by unfold fA;rw[h1];simp);rw[h1];clear h1;go_wp2_with fail;go_ret;exact⟨by rw[Hs.out];rfl,s3.bel⟩
 have H1:=hid h1;rw[h1];clear h1;obtain⟨c0,c1,c2,c3,c4,c5,c6,-⟩:=au s3.o;go_wp2_with fail;refine (kC v.name w3).mono ?_;rintro e w4 ⟨rfl,hb4⟩;have s4:=s3.step hb4;clear c0 c1 c2 c3 c4 c5 c6;by_cases h2:aV v.name=true
 case neg=>
  rw[Bool.not_eq_true] at h2;have Hs:Hid (fA v c=false):=hid (by unfold fA;rw[h2];simp);rw[h2];clear h2;go_wp2_with fail;go_ret;exact⟨by rw[Hs.out];rfl,s4.bel⟩
 have H2:=hid h2;rw[h2];clear h2;obtain⟨c0,c1,c2,c3,c4,c5,c6,-⟩:=au s4.o;go_wp2_with fail;refine (kC v.to w4).mono ?_;rintro e w5 ⟨rfl,hb5⟩;have s5:=s4.step hb5;clear c0 c1 c2 c3 c4 c5 c6;by_cases h3:aV v.to=true
 case neg=>
  rw[Bool.not_eq_true] at h3;have Hs:Hid (fA v c=false):=hid (by unfold fA;rw[h3];simp);rw[h3];clear h3;go_wp2_with fail;go_ret;exact⟨by rw[Hs.out];rfl,s5.bel⟩
 have H3:=hid h3;rw[h3];clear h3;obtain⟨c0,c1,c2,c3,c4,c5,c6,-⟩:=au s5.o;by_cases h4:v.an<=50/\v.bn<=8/\v.cn<=4000/\0<=v.n/\v.n<=1000
 case neg=>
  have Hs:Hid (fA v c=false):=hid (by
   cases hq:fA v c with
   | false=>rfl
   | true=>
    unfold fA at hq;simp only[Bool.and_eq_true,decide_eq_true_eq] at hq;omega)
  by_cases g1:v.an<=50
  case neg=>
   have f1:decide ((50:Int)<(v.an:Int))=true:=decide_eq_true (by omega);clear h4 g1;go_wp2_with fail;go_ret;exact⟨by rw[Hs.out];rfl,s5.bel⟩
  have f1:decide ((50:Int)<(v.an:Int))=false:=decide_eq_false (by omega);by_cases g2:v.bn<=8
  case neg=>
   have f2:decide ((8:Int)<(v.bn:Int))=true:=decide_eq_true (by omega);clear h4 g1 g2;go_wp2_with fail;go_ret;exact⟨by rw[Hs.out];rfl,s5.bel⟩
  have f2:decide ((8:Int)<(v.bn:Int))=false:=decide_eq_false (by omega);by_cases g3:v.cn<=4000
  case neg=>
   have f3:decide ((4000:Int)<(v.cn:Int))=true:=decide_eq_true (by omega);clear h4 g1 g2 g3;go_wp2_with fail;go_ret;exact⟨by rw[Hs.out];rfl,s5.bel⟩
  have f3:decide ((4000:Int)<(v.cn:Int))=false:=decide_eq_false (by omega);by_cases g4:0<=v.n
  case neg=>
   have f4:decide (v.n<0)=true:=decide_eq_true (by omega);clear h4 g1 g2 g3 g4;go_wp2_with fail;go_ret;exact⟨by rw[Hs.out];rfl,s5.bel⟩
  have f4:decide (v.n<0)=false:=decide_eq_false (by omega);have f5:decide ((1000:Int)<v.n)=true:=decide_eq_true (by omega);clear h4 g1 g2 g3 g4;go_wp2_with fail;go_ret;exact⟨by rw[Hs.out];rfl,s5.bel⟩
 obtain⟨g1,g2,g3,g4,g5⟩:=h4;have HR:Hid (fA v c=(c.attrs.all aK&&c.parts.all aV&&(!decide (v.k=1)||bC c.attrs)&&(!decide (v.k=5)||decide (v.an=1)))):=hid (by
  unfold fA;rw[HD.out,H1.out,H2.out,H3.out,decide_eq_true g1,decide_eq_true g2,decide_eq_true g3,decide_eq_true g4,decide_eq_true g5];simp)
 have f1:decide ((50:Int)<(v.an:Int))=false:=decide_eq_false (by omega);have f2:decide ((8:Int)<(v.bn:Int))=false:=decide_eq_false (by omega);have f3:decide ((4000:Int)<(v.cn:Int))=false:=decide_eq_false (by omega);have f4:decide (v.n<0)=false:=decide_eq_false (by omega);have f5:decide ((1000:Int)<v.n)=false:=decide_eq_false (by omega);have o5:=ho.later s5.bel;clear g3 g4 g5 HD H1 H2 H3;go_wp2_with fail;clear f1 f2 f3 f4 f5 c0 c1 c2 c3 c4 c5 c6;go_loopw [5] (fun p wr=>∃k:Nat,k<=v.an/\p=.int .i64 (k:Int)/\Hid ((c.attrs.take k).all aK=true)/\Below w5.heap.size w5 wr) (fun p _=>v.an-(intOf p).toNat)
 case atStart=>exact⟨0,Nat.zero_le _,rfl,hid rfl,Below.refl _ _⟩
 case round=>
  obtain⟨k,hk,rfl,Ha,hbr⟩:=hrel;have sr:=s5.step hbr;obtain⟨c0,c1,c2,c3,c4,c5,c6,-⟩:=au sr.o;by_cases hkn:k<v.an
  ·obtain⟨b1,o1,ea,hl1,hc1⟩:=(o5.a.later hbr).some (by have:=o5.a.le;omega);rw[ea] at c3;clear ea;obtain⟨u,hu⟩:∃u,c.attrs[k]?=some u:=⟨_,List.getElem?_eq_getElem (by rw[LA.out];exact hkn)⟩
   obtain⟨v1,v2⟩:=jT c.attrs k u hu;have d1:=hc1 _ _ v1;have d2:wr.cell? ⟨b1,o1+k*2+1,none⟩=_:=hc1 _ _ v2;have i0:(0:Int)<=(k:Int):=by omega
   have i1:(k:Int)<(v.an:Int):=by omega
   clear v1 v2 hc1;go_wp2_with fail;refine (kE u wr).mono ?_;rintro e w6 ⟨rfl,hb6⟩;have hb7:=hbr.trans (hb6.mono hbr.size);by_cases hm:aK u=true
   ·have HT:Hid ((c.attrs.take (k+1)).all aK=true):=hid (by obtain⟨hl,e⟩:=List.getElem?_eq_some_iff.1 hu;rw[List.take_succ_eq_append_getElem hl,e,List.all_append,Ha.out];simp[hm]);rw[hm];clear hm c0 c1 c2 c3 c4 c5 c6 d1 d2;go_wp2_with fail;go_roundw
    case rel=>exact⟨k+1,by omega,by go_num,HT,hb7⟩
    case measure=>simp[intOf];omega
   rw[Bool.not_eq_true] at hm;have Hs:Hid (fA v c=false):=hid (by
    rw[HR.out,show c.attrs.all aK=false from by rw[List.all_eq_false];exact⟨u,List.mem_of_getElem? hu,by simp[hm]⟩];simp)
   rw[hm];clear hm c0 c1 c2 c3 c4 c5 c6 d1 d2;go_wp2_with fail;go_ret;exact⟨by rw[Hs.out];rfl,(s5.step hb7).bel⟩
  have HA:Hid (c.attrs.all aK=true):=hid (by
   have h:=Ha.out;rw[List.take_of_length_le (by rw[LA.out];omega)] at h;exact h)
  have o6:=o5.later hbr;generalize wr=w9 at *;go_wp2_with fail;clear c0 c1 c2 c3 c4 c5 c6;go_loopw [6] (fun p wq=>∃k:Nat,k<=v.bn/\p=.int .i64 (k:Int)/\Hid ((c.parts.take k).all aV=true)/\Below w9.heap.size w9 wq) (fun p _=>v.bn-(intOf p).toNat)
  case atStart=>exact⟨0,Nat.zero_le _,rfl,hid rfl,Below.refl _ _⟩
  case round=>
   obtain⟨j,hj,rfl,Hp,hbq⟩:=hrel;have sq:=sr.step hbq;obtain⟨c0,c1,c2,c3,c4,c5,c6,-⟩:=au sq.o;by_cases hjn:j<v.bn
   ·obtain⟨b2,o2',eb,hl2,hc2⟩:=(o6.b.later hbq).some (by have:=o6.b.le;omega);rw[eb] at c4;clear eb;obtain⟨u,hu⟩:∃u,c.parts[j]?=some u:=⟨_,List.getElem?_eq_getElem (by rw[LB.out];exact hjn)⟩
    have d1:=hc2 _ _ (nz c.parts j u hu);have d2:wr.cell? ⟨b2,o2'+j*1,none⟩=some (.string u):=by rw[Nat.mul_one];exact d1
    have i0:(0:Int)<=(j:Int):=by omega
    have i1:(j:Int)<(v.bn:Int):=by omega
    clear hc2;go_wp2_with fail;refine (kC u wr).mono ?_;rintro e w6 ⟨rfl,hb6⟩;have hb7:=hbq.trans (hb6.mono hbq.size);by_cases hm:aV u=true
    ·have HT:Hid ((c.parts.take (j+1)).all aV=true):=hid (by obtain⟨hl,e⟩:=List.getElem?_eq_some_iff.1 hu;rw[List.take_succ_eq_append_getElem hl,e,List.all_append,Hp.out];simp[hm]);rw[hm];clear hm c0 c1 c2 c3 c4 c5 c6 d1 d2;go_wp2_with fail;go_roundw
     case rel=>exact⟨j+1,by omega,by go_num,HT,hb7⟩
     case measure=>simp[intOf];omega
    rw[Bool.not_eq_true] at hm;have Hs:Hid (fA v c=false):=hid (by
     rw[HR.out,show c.parts.all aV=false from by rw[List.all_eq_false];exact⟨u,List.mem_of_getElem? hu,by simp[hm]⟩];simp)
    rw[hm];clear hm c0 c1 c2 c3 c4 c5 c6 d1 d2;go_wp2_with fail;go_ret;exact⟨by rw[Hs.out];rfl,(sr.step hb7).bel⟩
   have HP:Hid (c.parts.all aV=true):=hid (by
    have h:=Hp.out;rw[List.take_of_length_le (by rw[LB.out];omega)] at h;exact h)
   have o7:=o6.later hbq;have hH2:Hid (fA v c=((!decide (v.k=1)||bC c.attrs)&&(!decide (v.k=5)||decide (v.an=1)))):=hid (by rw[HR.out,HA.out,HP.out];simp);by_cases e1:v.k=1
   ·have f1:(v.k != 1)=false:=by simp[e1]
    have f2:(v.k != 5)=true:=by simp[e1]
    have hH3:Hid (fA v c=bC c.attrs):=hid (by rw[hH2.out];simp[e1]);clear e1;go_wp2_with fail;refine (tK v.ao v.an v.ac c.attrs wr o7.a).mono ?_;rintro e w8 ⟨rfl,hb8⟩;have s8:=sq.step hb8;obtain⟨d0,-⟩:=au s8.o;clear c0 c1 c2 c3 c4 c5 c6;cases hq:bC c.attrs
    ·have HQ:=hid hq;clear hq;go_wp2_with fail;go_ret;exact⟨by rw[hH3.out,HQ.out];rfl,s8.bel⟩
    have HQ:=hid hq;clear hq;go_wp2_with fail;go_ret;exact⟨by rw[hH3.out,HQ.out];rfl,s8.bel⟩
   have f1:(v.k != 1)=true:=by simp[e1]
   by_cases e5:v.k=5
   ·have f2:(v.k != 5)=false:=by simp[e5]
    have hH3:Hid (fA v c=decide (v.an=1)):=hid (by rw[hH2.out];simp[e5]);clear e1 e5;by_cases ea:v.an=1
    ·have f3:((v.an:Int)==1)=true:=by simp[ea]
     have HQ:=hid (decide_eq_true ea);clear ea;go_wp2_with fail;go_ret;exact⟨by rw[hH3.out,HQ.out];rfl,sq.bel⟩
    have f3:((v.an:Int)==1)=false:=by simp;omega
    have HQ:=hid (decide_eq_false ea);clear ea;go_wp2_with fail;go_ret;exact⟨by rw[hH3.out,HQ.out];rfl,sq.bel⟩
   have f2:(v.k != 5)=true:=by simp[e5]
   have hH3:Hid (fA v c=true):=hid (by rw[hH2.out];simp[e1,e5]);clear e1 e5;go_wp2_with fail;go_ret;exact⟨by rw[hH3.out];rfl,sq.bel⟩
end Go.Proofs.YtfmmandlmbcncaaGreatDoor.Msg
