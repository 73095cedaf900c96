/-
  A part of the proof.
-/
import Derived.Test.YtfmmandlmbcncaaGreatDoorKdbk
set_option maxHeartbeats 40000000
set_option maxRecDepth 100000
namespace Go.Proofs.YtfmmandlmbcncaaGreatDoor.Msg
open Go.RowKit Go.Lib Mem Tlv
def vM (code:Int)(w:World)(e:Ending)(w':World):Prop:=e=.returned (.tuple #[.int .u64 0,.slice none 0 0,.int .i64 code])/\Below w.heap.size w w'
theorem PQ (a:Addr)(w:World):Sem.run Tryz.prog (binOp BinOp.neq 95 (.pointer (some a)) (.pointer none)) w=.ok (.bool true) w:=by kernel_rfl
theorem Qc (w:World):Sem.run Tryz.prog (binOp BinOp.neq 95 (.pointer none) (.pointer none)) w=.ok (.bool false) w:=by kernel_rfl
theorem yc (v:OV)(c:OC)(S:SV)(sb:Nat)(w:World)(hs:w.heap[sb]?=some S.box)(ho:OpAt w v c)(hn:0<S.nodes) :
  ∃W0,W0=w.alloc v.box/\Below w.heap.size w W0/\W0.heap[w.heap.size]?=some v.box/\W0.heap[sb]?=some S.box/\OpAt W0 v c/\Calls Tryz.prog 43 #[.pointer (some ⟨sb,0,none⟩)] W0 (Dy true W0):=by
 have hb0:Below w.heap.size w (w.alloc v.box):=(Below.refl _ _).alloc (Nat.le_refl _) _;have h2:=(hb0.block _ (Array.getElem?_eq_some_iff.1 hs).1).trans hs;have hth:=jc S sb _ h2;rw[decide_eq_true hn] at hth;exact⟨_,rfl,hb0,by show (w.heap.push _)[w.heap.size]?=some _;exact Array.getElem?_push_size,h2,ho.later hb0,hth⟩
theorem Ny (v:OV)(c:OC)(S:SV)(sb:Nat)(w:World)(hs:w.heap[sb]?=some S.box)(ho:OpAt w v c)(hn:0<S.nodes)(hm:aB v c=false):Calls Tryz.prog 11 #[.pointer (some ⟨sb,0,none⟩),v.val] w (vM 2 w):=by
 obtain⟨W0,e0,hb0,k0,k1,ho0,hth⟩:=yc v c S sb w hs ho hn;clear hs ho hn k1;unfold OV.box at e0;unfold OV.val;go_in;go_upto_region 1 with fail;rw[<-e0];clear e0;go_wp2_with fail;refine hth.mono ?_;rintro e w1 ⟨rfl,rfl⟩;clear hth;obtain⟨c0,c1,c2,c3,c4,c5,c6,-⟩:=aO k0;have hmay:=(jy w1 v c ho0).may w1 ho0;rw[hm] at hmay;unfold OV.val at hmay;go_wp2_with fail;refine hmay.mono ?_;rintro e w2 ⟨rfl,hb2⟩;clear c0 c1 c2 c3 c4 c5 c6 hmay;go_wp2_with fail
 go_ret3
 exact⟨rfl,hb0.trans (hb2.mono hb0.size)⟩
theorem zy (v:OV)(c:OC)(S:SV)(sb:Nat)(x:Addr)(w:World)(hs:w.heap[sb]?=some S.box)(ho:OpAt w v c)(hn:0<S.nodes)(hm:aB v c=true)(hu:S.un=some x):Calls Tryz.prog 11 #[.pointer (some ⟨sb,0,none⟩),v.val] w (vM 12 w):=by
 obtain⟨W0,e0,hb0,k0,k1,ho0,hth⟩:=yc v c S sb w hs ho hn;have hpe:=PQ x;clear hs ho hn;unfold OV.box at e0;unfold OV.val;go_in;go_upto_region 1 with fail;rw[<-e0];clear e0;go_wp2_with fail;refine hth.mono ?_;rintro e w1 ⟨rfl,rfl⟩;clear hth;obtain⟨c0,c1,c2,c3,c4,c5,c6,-⟩:=aO k0;have hmay:=(jy w1 v c ho0).may w1 ho0;rw[hm] at hmay;unfold OV.val at hmay;go_wp2_with fail;refine hmay.mono ?_;rintro e w2 ⟨rfl,hb2⟩;clear c0 c1 c2 c3 c4 c5 c6 hmay;obtain⟨-,-,-,d3,-⟩:=bG ((hb2.block _ (Array.getElem?_eq_some_iff.1 k1).1).trans k1);rw[hu] at d3;clear hu;go_wp2_with fail
 go_ret3
 exact⟨rfl,hb0.trans (hb2.mono hb0.size)⟩
def LH (B sb:Nat)(S:SV)(v:OV)(c:OC)(w:World)(e:Ending)(w':World):Prop:=
 ∃(rb:Nat) (u:OV) (l:List Value) (ov:Value),e=.returned (.tuple #[.int .u64 (S.num+1),ov,.int .i64 0])/\l.length=1/\w'.heap[sb]?=some (SV.box ⟨S.cl,S.nodes,S.num+1,some ⟨rb,0,none⟩,S.vi,S.la,S.told,S.dr⟩) /\
  w'.heap[rb]?=some (RV.box ⟨S.cl,S.num+1,u⟩)/\CopyOf w v u/\OpAt w' u c/\ToAt w.heap.size (S.vi % S.nodes) (oJ ⟨S.cl,S.num+1,u⟩ c) l ov w'/\Oth B sb w w'/\w.heap.size<=rb
def InAsk (sb xb:Nat)(S:SV)(v:OV)(W:World):Prop:=W.heap[sb]?=some S.box/\W.heap[xb]?=some v.box
theorem InAsk.step {sb xb:Nat}{S:SV}{v:OV}{W W':World}(h:InAsk sb xb S v W)(hb:Below W.heap.size W W'):InAsk sb xb S v W':=
 ⟨(hb.block _ (Array.getElem?_eq_some_iff.1 h.1).1).trans h.1,(hb.block _ (Array.getElem?_eq_some_iff.1 h.2).1).trans h.2⟩
theorem CopyOf.back {w W:World}{v u:OV}(h:CopyOf W v u)(hb:w.heap.size<=W.heap.size):CopyOf w v u:=h.low hb
theorem zF {W:World}{g:Nat}{old cells:Array Value}{t:TypeId}(h:W.heap[g]?=some (.cells old t (0,0))):(W.setRow g cells).heap[g]?=some (.cells cells t (0,0)):=setRow_heap W g old cells t _ h
theorem Oth.set2 {B b rb:Nat}{w W:World}(h:Oth B b w W)(hB:B<=rb)(hr:w.heap.size<=rb)(cells:Array Value):Oth B b w (W.setRow rb cells):=
 ⟨below_setRow h.bel hB cells,fun k hk hne=>(setRow_other _ _ _ _ (by omega)).trans (h.oth k hk hne)⟩
theorem Nh {W W':World}{u:OV}{c:OC}(h:OpAt W u c)(hz:W.heap.size<=W'.heap.size)(g:Nat)(hk:∀k,k≠g->W'.heap[k]?=W.heap[k]?)(fa:∀a,u.ao=some a->a.block≠g)(fb:∀a,u.bo=some a->a.block≠g)(fc:∀a,u.co=some a->a.block≠g):OpAt W' u c:=
 ⟨qj h.a hz fun a ha=>hk _ (fa a ha),qj h.b hz fun a ha=>hk _ (fb a ha),qj h.c hz fun a ha=>hk _ (fc a ha),h.la,h.lb,h.lc⟩
theorem Gi {W:World}{u:OV}{c:OC}{g:Nat}{cells:Array Value}(h:OpAt W u c)(fa:∀a,u.ao=some a->a.block≠g)(fb:∀a,u.bo=some a->a.block≠g)(fc:∀a,u.co=some a->a.block≠g):OpAt (W.setRow g cells) u c:=
 Nh h (by simp[World.setRow]) g (fun k hk=>setRow_other _ _ _ _ hk) fa fb fc
def Dw:Value->Bool
 | .string _=>true
 | .int .u8 _=>true
 | .slice _ _ _=>true
 | _=>false
theorem Gp {W:World}{sb i:Nat}{S:SV}{u:Value}(h:W.heap[sb]?=some S.box)(hc:W.cell? ⟨sb,i,none⟩=some u):Dw u=false:=by
 unfold SV.box SV.cells at h;simp only[World.cell?,h] at hc
 match i,hc with
 | 0,hc=>cases hc;rfl
 | 1,hc=>cases hc;rfl
 | 2,hc=>cases hc;rfl
 | 3,hc=>cases hc;rfl
 | 4,hc=>cases hc;rfl
 | 5,hc=>cases hc;rfl
 | 6,hc=>cases hc;rfl
 | 7,hc=>cases hc;rfl
 | n+8,hc=>simp at hc
theorem nC {W W':World}{B sb size:Nat}{S:SV}{ao:Option Addr}{n cap:Nat}{xs:List Value}(h:Rd W size ao n cap xs)(hs:W.heap[sb]?=some S.box)(ho:Oth B sb W W')(hx:∀u∈xs,Dw u=true):Rd W' size ao n cap xs:=by
 obtain⟨h1,h2,h3,h4,h5⟩:=h;refine⟨h1,h2,h3,h4,fun h0 a ha=>?_⟩;obtain⟨s,l,c⟩:=h5 h0 a ha;refine⟨s,Nat.lt_of_lt_of_le l ho.bel.size,fun j u hu=>?_⟩;have hc:=c j u hu;by_cases hb:a.block=sb
 ·rw[hb] at hc;have:=Gp hs hc;rw[hx u (List.mem_of_getElem? hu)] at this;cases this
 exact (World.cell?_of_block (a:=⟨a.block,a.off+j,none⟩) (ho.oth _ l hb)).trans hc
theorem OpAt.sess {W W':World}{B sb:Nat}{S:SV}{v:OV}{c:OC}(h:OpAt W v c)(hs:W.heap[sb]?=some S.box)(ho:Oth B sb W W'):OpAt W' v c:=by
 refine⟨nC h.a hs ho ?_,nC h.b hs ho ?_,nC h.c hs ho ?_,h.la,h.lb,h.lc⟩
 ·intro u hu;simp only[atV,List.mem_flatMap,List.mem_cons,List.not_mem_nil,or_false] at hu;obtain⟨x,-,rfl|rfl⟩:=hu<;>rfl
 ·intro u hu;simp only[txV,List.mem_map] at hu;obtain⟨x,-,rfl⟩:=hu;rfl
 intro u hu;simp only[byV,List.mem_map] at hu;obtain⟨x,-,rfl⟩:=hu;rfl
theorem J6 (B sb:Nat)(S:SV)(v:OV)(c:OC)(w:World)(hs:w.heap[sb]?=some S.box)(hB:B<=sb)(ho:OpAt w v c)(hm:aB v c=true)(hu:S.un=none)(hn:0<S.nodes)(hn7:S.nodes<=7)(hc0:0<=S.cl)(hc1:S.cl<18446744073709551616)(hm0:0<=S.num)(hm1:S.num<4611686018427387904)(hv0:0<=S.vi)(hv1:S.vi<18446744073709551616) :
  Calls Tryz.prog 11 #[.pointer (some ⟨sb,0,none⟩),v.val] w (LH B sb S v c w):=by
 have hmo:Tryz.prog.follows .mixedOrders=true:=by kernel_rfl
 obtain⟨W0,e0,hb0,k0,k1,ho0,hth⟩:=yc v c S sb w hs ho hn;have hlt:sb<w.heap.size:=(Array.getElem?_eq_some_iff.1 hs).1;have hBw:B<=w.heap.size:=by omega
 have hO0:Oth B sb w W0:=(Oth.refl B sb w).later hBw hb0;have hpe:=Qc;have hd62:decide ((4611686018427387904:Int)<=S.num)=false:=decide_eq_false (by omega);have hw1:IntKind.wrap .u64 (S.num+1)=S.num+1:=by rw[IntKind.wrap_u64];omega
 clear hs ho;unfold OV.box at e0;unfold OV.val;go_in;go_upto_region 1 with fail;rw[<-e0];clear e0;go_wp2_with fail;refine hth.mono ?_;rintro e w1 ⟨rfl,rfl⟩;clear hth;obtain⟨c0,c1,c2,c3,c4,c5,c6,-⟩:=aO k0;have hmay:=(jy w1 v c ho0).may w1 ho0;rw[hm] at hmay;unfold OV.val at hmay;go_wp2_with fail;refine hmay.mono ?_;rintro e w2 ⟨rfl,hb2⟩;clear c0 c1 c2 c3 c4 c5 c6 hmay;have hO2:=hO0.later (Nat.le_trans hBw hb0.size) hb2;have k2:=(hb2.block _ (Array.getElem?_eq_some_iff.1 k1).1).trans k1;have q2:=(hb2.block _ (Array.getElem?_eq_some_iff.1 k0).1).trans k0;have ho2:=ho0.later hb2;have hz2:w.heap.size<=w2.heap.size:=Nat.le_trans hb0.size hb2.size;obtain⟨-,-,d2,d3,-,-,-,-,d8⟩:=bG k2;rw[hu] at d3;clear k0 k1 ho0 hb0 hb2 hO0;go_upto_region 10 with fail;generalize hg:w2.setCell _ _=W3;obtain⟨S1,hS1⟩:∃S1:SV,S1=⟨S.cl,S.nodes,S.num+1,none,S.vi,S.la,S.told,S.dr⟩:=⟨_,rfl⟩
 have k3:W3.heap[sb]?=some S1.box:=by
  rw[<-hg,hS1];unfold SV.box SV.cells at k2 ⊢;rw[hu] at k2;exact at_set k2
 have q3:W3.heap[w.heap.size]?=some v.box:=by rw[<-hg];exact af q2 (by omega)
 have hO3:Oth B sb w W3:=by rw[<-hg];exact hO2.set hB _ _
 have ho3:OpAt W3 v c:=by
  rw[<-hg];exact ho2.sess k2 ((Oth.refl B sb w2).set hB 2 _)
 have hz3:w.heap.size<=W3.heap.size:=by rw[<-hg];simpa using hz2
 have HS1:=hid hS1;have hr0:∀u,U64R ⟨S1.cl,S1.num,u⟩:=fun u=>by rw[hS1];exact⟨hc0,hc1,by show 0<=S.num+1;omega,by show S.num+1<18446744073709551616;omega⟩
 have s0:InAsk sb w.heap.size S1 v W3.drew:=⟨k3,q3⟩
 have hoD:OpAt W3.drew v c:=ho3.later (Below.refl _ _).drew;have hO4:Oth B sb w W3.drew:=hO3.later (Nat.le_trans hBw hz3) (Below.refl _ _).drew;have hzd:W3.drew.heap.size=W3.heap.size:=rfl;clear hS1 hg k3 q3 hO3 ho3 d2 d3 d8 hO2 k2 q2 ho2 hd62;refine ed (k:=12) (S:=InAsk sb w.heap.size S1 v) hmo ?_;change dh _ _ _ _ _ _ _ _ _ (World.drew _);refine zTp 0 (.pointer (some ⟨sb,0,none⟩)) rfl s0 ?_;go_simp;refine zTp 1 (.pointer (some ⟨sb,0,none⟩)) rfl s0 ?_;go_simp;refine zTp 2 (.pointer (some ⟨sb,0,none⟩)) rfl s0 ?_;go_simp;refine zTa 3 (.int .u64 S1.cl) rfl (by rintro w h;obtain⟨c0,-,c2,-⟩:=bG h.1;obtain⟨d0,d1,d2,d3,d4,d5,d6,-⟩:=aO h.2;go_simp) s0 ?_;go_simp;refine zTp 4 (.pointer (some ⟨sb,0,none⟩)) rfl s0 ?_;go_simp;refine zTp 5 (.pointer (some ⟨sb,0,none⟩)) rfl s0 ?_;go_simp;refine zTp 6 (.pointer (some ⟨sb,2,none⟩)) rfl s0 ?_;go_simp;refine zTa 7 (.int .u64 S1.num) rfl (by rintro w h;obtain⟨c0,-,c2,-⟩:=bG h.1;obtain⟨d0,d1,d2,d3,d4,d5,d6,-⟩:=aO h.2;go_simp) s0 ?_;go_simp;refine zTa 8 (.agg #[.int .i64 v.k,.string v.name,.string v.to,.slice v.ao v.an v.ac,.slice v.bo v.bn v.bc,.slice v.co v.cn v.cc,.int .i64 v.n]) rfl (by rintro w h;obtain⟨c0,-,c2,-⟩:=bG h.1;obtain⟨d0,d1,d2,d3,d4,d5,d6,-⟩:=aO h.2;go_simp) s0 ?_;go_simp;refine zTa 9 (.agg #[.int .u64 S1.cl,.int .u64 S1.num,.int .i64 v.k,.string v.name,.string v.to,.slice v.ao v.an v.ac,.slice v.bo v.bn v.bc,.slice v.co v.cn v.cc,.int .i64 v.n]) rfl (by rintro w h;obtain⟨c0,-,c2,-⟩:=bG h.1;obtain⟨d0,d1,d2,d3,d4,d5,d6,-⟩:=aO h.2;go_simp) s0 ?_;go_simp;refine xm (rs:=[10,11]) (by kernel_rfl) (by simp) (fun j hj=>?_);simp only[List.mem_cons,List.not_mem_nil,or_false] at hj;rcases hj with rfl|rfl
 ·refine wpOp_step rfl (fun K hK=>?_);go_simp;have hc:=vV ⟨S1.cl,S1.num,v⟩ c _ hoD;unfold RV.val RV.cells at hc;dsimp only at hc;refine hc.mono ?_;rintro e WA ⟨u,rfl,hC,hu1,hbA⟩;have sA:=s0.step hbA;have oA:=hO4.later (by omega) hbA;have hfr:=hC.back (w:=w) (by omega);clear hc hC;go_simp;refine hK _ _ ⟨.inr sA,?_⟩;clear hK K;refine zT1 11 rfl (fun K hK=>?_);go_simp;generalize hg:World.alloc _ _=WB;have hbB:Below WA.heap.size WA WB:=by rw[<-hg];exact (Below.refl _ _).alloc (Nat.le_refl _) _
  have hrb:WB.heap[WA.heap.size]?=some dN.box:=by rw[<-hg];show (WA.heap.push _)[WA.heap.size]?=some _;exact Array.getElem?_push_size
  have hzA:=hbA.size;clear hg;have sB:=sA.step hbB;have oB:=oA.later (by omega) hbB;refine hK _ _ ⟨.inr sB,?_⟩;clear hK K;refine dH (by kernel_rfl) (by kernel_rfl) ?_;refine zA1 12 rfl (fun K hK=>?_);refine lL rfl rfl hrb rfl rfl (by kernel_rfl) rfl (by kernel_rfl) ?_;refine hK _ _ ?_;clear hK K;refine wpAny_done (by kernel_rfl) ?_ _;generalize hg:World.setRow WB _ _=W5;have p1:W5.heap[WA.heap.size]?=some (RV.box ⟨S1.cl,S1.num,u⟩):=by rw[<-hg];exact zF hrb
  have p2:W5.heap[sb]?=some S1.box:=by rw[<-hg];exact (setRow_other _ _ _ _ (by omega)).trans sB.1
  have p4:Oth B sb w W5:=by rw[<-hg];exact oB.set2 (by omega) (by omega) _
  have hrbw:w.heap.size<=WA.heap.size:=by omega
  have p3:OpAt W5 u c:=by rw[<-hg];exact hu1.later (below_setRow hbB (Nat.le_refl _) _)
  clear hg sA sB oA oB hrb hbB hzA hu1 hbA hzd s0 hoD hO4 hz3;generalize WA.heap.size=rb at *;obtain⟨-,-,-,d3,-,-,-,-,d8⟩:=bG p2;go_upto_region 12 with fail;generalize hg:W5.setCell _ _=W6;obtain⟨S2,hS2⟩:∃S2:SV,S2=⟨S1.cl,S1.nodes,S1.num,some ⟨rb,0,none⟩,S1.vi,S1.la,S1.told,S1.dr⟩:=⟨_,rfl⟩
  have q2:W6.heap[sb]?=some S2.box:=by
   rw[<-hg,hS2];unfold SV.box SV.cells at p2 ⊢;exact at_set p2
  have q1:W6.heap[rb]?=some (RV.box ⟨S1.cl,S1.num,u⟩):=by rw[<-hg];exact af p1 (by omega)
  have q4:Oth B sb w W6:=by rw[<-hg];exact p4.set hB _ _
  have q4x:W5.heap.size<=W6.heap.size:=by rw[<-hg];simp
  have hz5:=p4.bel.size;have q3:OpAt W6 u c:=p3.sess p2 (by rw[<-hg];exact (Oth.refl B sb W5).set hB 3 _);have HS2:=hid hS2;clear hg hS2 p1 p2 p3 p4 d3 d8;obtain⟨-,e1,e2,-,e4,-,-,-,-⟩:=bG q2;have hn2:S2.nodes=S.nodes:=by rw[HS2.out,HS1.out]
  have hv2:S2.vi=S.vi:=by rw[HS2.out,HS1.out]
  have hp0:0<=S2.vi % S2.nodes:=Int.emod_nonneg _ (by omega);have hp7:S2.vi % S2.nodes<7:=Int.lt_of_lt_of_le (Int.emod_lt_of_pos _ (by omega)) (by omega);have hwn:IntKind.wrap .u64 S2.nodes=S2.nodes:=by rw[IntKind.wrap_u64];omega
  have hnz:¬S2.nodes=0:=by omega
  have hrem:S2.vi.tmod S2.nodes=S2.vi % S2.nodes:=Int.tmod_eq_emod_of_nonneg (by omega);have hwp:IntKind.wrap .i64 (S2.vi % S2.nodes)=S2.vi % S2.nodes:=by rw[IntKind.wrap_i64];omega
  have hwq:IntKind.wrap .i64 (S2.vi % S2.nodes+1)=S2.vi % S2.nodes+1:=by rw[IntKind.wrap_i64];omega
  have H:=hid (And.intro hn2 hv2);clear hn2 hv2
  go_quiet (fail)
  have hz3x:w.heap.size<=W6.heap.size:=Nat.le_trans (by omega) q4x;generalize hpe:S2.vi % S2.nodes=p at *;clear hrem hnz hwn hwp e1 e2 e4;go_upto_region 13 with fail;refine wp_region_held (S:=fun W=>W.heap[sb]?=some S2.box) hmo ?_;change wpAnyH _ _ _ _ _ _ _ _ (World.drew _);have hb7:Below W6.heap.size W6 (W6.drewN nq).drew:=(below_drewN (Below.refl _ _) nq).drew;generalize World.drew _=W7 at *;have m1:=(hb7.block _ (Array.getElem?_eq_some_iff.1 q1).1).trans q1;have m2:=(hb7.block _ (Array.getElem?_eq_some_iff.1 q2).1).trans q2;have m3:=q3.later hb7;have m4:=q4.later (by omega) hb7;have hwz7:=hb7.size;clear q1 q2 q3 q4 hb7;refine zHp 0 (.pointer (some ⟨sb,0,none⟩)) rfl m2 ?_;go_simp;refine zHp 1 (.pointer (some ⟨sb,0,none⟩)) rfl m2 ?_;go_simp;refine zHp 2 (.pointer (some ⟨sb,2,none⟩)) rfl m2 ?_;go_simp;refine zHa 3 (.int .u64 S2.num) rfl (by rintro w h;obtain⟨-,-,c2,-⟩:=bG h;go_simp) m2 ?_;go_simp;refine zHp 4 (.pointer (some ⟨sb,0,none⟩)) rfl m2 ?_;go_simp;refine zHp 5 (.int .i64 p) rfl m2 ?_;go_simp;refine zHp 6 (.int .i64 p) rfl m2 ?_;go_simp;refine zHa 7 (.int .i64 (p+1)) rfl (by rintro w h;obtain⟨-,-,c2,-⟩:=bG h;go_simp) m2 ?_;go_simp;refine zH1 8 rfl (fun K hK=>?_);go_simp;have hto:=EY S2 sb rb ⟨S1.cl,S1.num,u⟩ c p 1 W7 m2 (by rw[HS2.out]) m1 m3 (by rw[(qK hfr).1];exact hm) (hr0 _) hp0 (by omega) (by omega);rw[show ((1:Nat):Int)=1 from rfl] at hto;refine hto.mono ?_;rintro e W8 ⟨l,ov,rfl,hl,hta,hb8⟩;have m28:=(hb8.block _ (Array.getElem?_eq_some_iff.1 m2).1).trans m2;clear hto;go_simp;refine hK _ _ ⟨m28,?_⟩;clear hK K;refine zHp 9 (.int .u64 S2.num) rfl m28 ?_;go_simp;refine zHp 10 (ov) rfl m28 ?_;go_simp;refine zHp 11 (.int .i64 0) rfl m28 ?_;go_simp;refine wpAnyH_done (by kernel_rfl) ?_ _;go_wp2_with fail
  go_ret3
  have e1:=HS1.out;have e2:=HS2.out;have hwz:=m4.bel.size;have hz7:w.heap.size<=W7.heap.size:=Nat.le_trans hz3x hwz7;refine⟨rb,u,l,ov,?_,hl,?_,?_,hfr,m3.later hb8,?_,m4.later (by omega) hb8,hrbw⟩
  ·show Ending.returned (.tuple #[.int .u64 S2.num,ov,.int .i64 0])=_;rw[e2,e1]
  ·rw[m28,e2,e1]
  ·rw[(hb8.block _ (Array.getElem?_eq_some_iff.1 m1).1).trans m1,e1]
  have:=hta.mono hz7;rw[<-hpe,H.out.1,H.out.2,e1] at this;exact this
 refine wpOp_step rfl (fun K hK=>?_);go_simp;generalize hg:World.drew (World.alloc _ _)=WB;have hbB:Below W3.drew.heap.size W3.drew WB:=by rw[<-hg];exact (show Below W3.drew.heap.size W3.drew (W3.drew.alloc dN.box) from (Below.refl _ _).alloc (Nat.le_refl _) _)
 have hrb0:WB.heap[W3.heap.size]?=some dN.box:=by rw[<-hg];show (W3.heap.push _)[W3.heap.size]?=some _;exact Array.getElem?_push_size
 have hzB:WB.heap.size=W3.heap.size+1:=by rw[<-hg];simp
 clear hg;have sB:=s0.step hbB;have oB:=hO4.later (by omega) hbB;have hoB:=hoD.later hbB;refine hK _ _ ⟨.inr sB,?_⟩;clear hK K;refine zT1 10 rfl (fun K hK=>?_);go_simp;have hc:=vV ⟨S1.cl,S1.num,v⟩ c _ hoB;unfold RV.val RV.cells at hc;dsimp only at hc;refine hc.mono ?_;rintro e WA ⟨u,rfl,hC,hu1,hbA⟩;have sA:=sB.step hbA;have oA:=oB.later (by omega) hbA;have hfr:=hC.back (w:=w) (by omega);have hrb:WA.heap[W3.heap.size]?=some dN.box:=(hbA.block _ (by omega)).trans hrb0;clear hc hrb0;go_simp;refine hK _ _ ⟨.inr sA,?_⟩;clear hK K;refine dH (by kernel_rfl) (by kernel_rfl) ?_;refine zA1 12 rfl (fun K hK=>?_);refine lL rfl rfl hrb rfl rfl (by kernel_rfl) rfl (by kernel_rfl) ?_;refine hK _ _ ?_;clear hK K;refine wpAny_done (by kernel_rfl) ?_ _;generalize hg:World.setRow WA _ _=W5;have p1:W5.heap[W3.heap.size]?=some (RV.box ⟨S1.cl,S1.num,u⟩):=by rw[<-hg];exact zF hrb
 have p2:W5.heap[sb]?=some S1.box:=by rw[<-hg];exact (setRow_other _ _ _ _ (by omega)).trans sA.1
 have p4:Oth B sb w W5:=by rw[<-hg];exact oA.set2 (by omega) (by omega) _
 have hrbw:w.heap.size<=W3.heap.size:=by omega
 have p3:OpAt W5 u c:=by rw[<-hg];exact Gi hu1 (fun a ha=>by have:=hC.fa a ha;omega) (fun a ha=>by have:=hC.fb a ha;omega) (fun a ha=>by have:=hC.fc a ha;omega)
 clear hg sA sB oA oB hrb hbB hu1 hbA hC hzB hoB hzd s0 hoD hO4 hz3;generalize W3.heap.size=rb at *;obtain⟨-,-,-,d3,-,-,-,-,d8⟩:=bG p2;go_upto_region 12 with fail;generalize hg:W5.setCell _ _=W6;obtain⟨S2,hS2⟩:∃S2:SV,S2=⟨S1.cl,S1.nodes,S1.num,some ⟨rb,0,none⟩,S1.vi,S1.la,S1.told,S1.dr⟩:=⟨_,rfl⟩
 have q2:W6.heap[sb]?=some S2.box:=by
  rw[<-hg,hS2];unfold SV.box SV.cells at p2 ⊢;exact at_set p2
 have q1:W6.heap[rb]?=some (RV.box ⟨S1.cl,S1.num,u⟩):=by rw[<-hg];exact af p1 (by omega)
 have q4:Oth B sb w W6:=by rw[<-hg];exact p4.set hB _ _
 have q4x:W5.heap.size<=W6.heap.size:=by rw[<-hg];simp
 have hz5:=p4.bel.size;have q3:OpAt W6 u c:=p3.sess p2 (by rw[<-hg];exact (Oth.refl B sb W5).set hB 3 _);have HS2:=hid hS2;clear hg hS2 p1 p2 p3 p4 d3 d8;obtain⟨-,e1,e2,-,e4,-,-,-,-⟩:=bG q2;have hn2:S2.nodes=S.nodes:=by rw[HS2.out,HS1.out]
 have hv2:S2.vi=S.vi:=by rw[HS2.out,HS1.out]
 have hp0:0<=S2.vi % S2.nodes:=Int.emod_nonneg _ (by omega);have hp7:S2.vi % S2.nodes<7:=Int.lt_of_lt_of_le (Int.emod_lt_of_pos _ (by omega)) (by omega);have hwn:IntKind.wrap .u64 S2.nodes=S2.nodes:=by rw[IntKind.wrap_u64];omega
 have hnz:¬S2.nodes=0:=by omega
 have hrem:S2.vi.tmod S2.nodes=S2.vi % S2.nodes:=Int.tmod_eq_emod_of_nonneg (by omega);have hwp:IntKind.wrap .i64 (S2.vi % S2.nodes)=S2.vi % S2.nodes:=by rw[IntKind.wrap_i64];omega
 have hwq:IntKind.wrap .i64 (S2.vi % S2.nodes+1)=S2.vi % S2.nodes+1:=by rw[IntKind.wrap_i64];omega
 have H:=hid (And.intro hn2 hv2);clear hn2 hv2
 go_quiet (fail)
 have hz3x:w.heap.size<=W6.heap.size:=Nat.le_trans (by omega) q4x;generalize hpe:S2.vi % S2.nodes=p at *;clear hrem hnz hwn hwp e1 e2 e4;go_upto_region 13 with fail;refine wp_region_held (S:=fun W=>W.heap[sb]?=some S2.box) hmo ?_;change wpAnyH _ _ _ _ _ _ _ _ (World.drew _);have hb7:Below W6.heap.size W6 (W6.drewN nq).drew:=(below_drewN (Below.refl _ _) nq).drew;generalize World.drew _=W7 at *;have m1:=(hb7.block _ (Array.getElem?_eq_some_iff.1 q1).1).trans q1;have m2:=(hb7.block _ (Array.getElem?_eq_some_iff.1 q2).1).trans q2;have m3:=q3.later hb7;have m4:=q4.later (by omega) hb7;have hwz7:=hb7.size;clear q1 q2 q3 q4 hb7;refine zHp 0 (.pointer (some ⟨sb,0,none⟩)) rfl m2 ?_;go_simp;refine zHp 1 (.pointer (some ⟨sb,0,none⟩)) rfl m2 ?_;go_simp;refine zHp 2 (.pointer (some ⟨sb,2,none⟩)) rfl m2 ?_;go_simp;refine zHa 3 (.int .u64 S2.num) rfl (by rintro w h;obtain⟨-,-,c2,-⟩:=bG h;go_simp) m2 ?_;go_simp;refine zHp 4 (.pointer (some ⟨sb,0,none⟩)) rfl m2 ?_;go_simp;refine zHp 5 (.int .i64 p) rfl m2 ?_;go_simp;refine zHp 6 (.int .i64 p) rfl m2 ?_;go_simp;refine zHa 7 (.int .i64 (p+1)) rfl (by rintro w h;obtain⟨-,-,c2,-⟩:=bG h;go_simp) m2 ?_;go_simp;refine zH1 8 rfl (fun K hK=>?_);go_simp;have hto:=EY S2 sb rb ⟨S1.cl,S1.num,u⟩ c p 1 W7 m2 (by rw[HS2.out]) m1 m3 (by rw[(qK hfr).1];exact hm) (hr0 _) hp0 (by omega) (by omega);rw[show ((1:Nat):Int)=1 from rfl] at hto;refine hto.mono ?_;rintro e W8 ⟨l,ov,rfl,hl,hta,hb8⟩;have m28:=(hb8.block _ (Array.getElem?_eq_some_iff.1 m2).1).trans m2;clear hto;go_simp;refine hK _ _ ⟨m28,?_⟩;clear hK K;refine zHp 9 (.int .u64 S2.num) rfl m28 ?_;go_simp;refine zHp 10 (ov) rfl m28 ?_;go_simp;refine zHp 11 (.int .i64 0) rfl m28 ?_;go_simp;refine wpAnyH_done (by kernel_rfl) ?_ _;go_wp2_with fail
 go_ret3
 have e1:=HS1.out;have e2:=HS2.out;have hwz:=m4.bel.size;have hz7:w.heap.size<=W7.heap.size:=Nat.le_trans hz3x hwz7;refine⟨rb,u,l,ov,?_,hl,?_,?_,hfr,m3.later hb8,?_,m4.later (by omega) hb8,hrbw⟩
 ·show Ending.returned (.tuple #[.int .u64 S2.num,ov,.int .i64 0])=_;rw[e2,e1]
 ·rw[m28,e2,e1]
 ·rw[(hb8.block _ (Array.getElem?_eq_some_iff.1 m1).1).trans m1,e1]
 have:=hta.mono hz7;rw[<-hpe,H.out.1,H.out.2,e1] at this;exact this
end Go.Proofs.YtfmmandlmbcncaaGreatDoor.Msg
