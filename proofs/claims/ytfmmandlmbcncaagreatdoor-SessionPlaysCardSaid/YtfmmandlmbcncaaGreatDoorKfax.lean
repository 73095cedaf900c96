/-A part of the proof.-/
import Derived.Test.YtfmmandlmbcncaaGreatDoorKfav
set_option maxHeartbeats 40000000
set_option maxRecDepth 100000
set_option linter.all false
namespace Go.Proofs.YtfmmandlmbcncaaGreatDoor
namespace Msg
open Go.RowKit Go.Lib Mem Tlv
def aJ (x:Int)(m0 m:MV):MV:=
 if x=118 then { m0 with vi:=m.vi }
 else if x=110 then { m0 with no:=m.no }
 else if x=102 then { m0 with fr:=m.fr }
 else if x=99 then { m0 with cl:=m.cl }
 else if x=117 then { m0 with nu:=m.nu }
 else if x=113 then { m0 with rq:=m.rq }
 else if x=114 then { m0 with rs:=m.rs }
 else if x=97 then { m0 with at_:=m.at_ }
 else if x=109 then { m0 with cm:=m.cm }
 else if x=98 then { m0 with bs:=m.bs }
 else if x=115 then { m0 with so:=m.so,sn:=m.sn,sc:=m.sc }
 else if x=108 then { m0 with lo:=m.lo,ln:=m.ln,lc:=m.lc }
 else if x=111 then { m0 with nc:=m.nc }
 else if x=119 then { m0 with wh:=m.wh }
 else if x=101 then { m0 with ho:=m.ho,hn:=m.hn,hc:=m.hc }
 else m0
def qQ (B tb:Nat)(m1:MV)(w:World)(e:Ending)(w':World):Prop:=e=.returned (.tuple #[])/\w'.heap[tb]?=some m1.box/\Oth B tb w w'
theorem Qe (B tb fb:Nat)(m0 m:MV)(w:World)(h0:w.heap[tb]?=some m0.box)(h1:w.heap[fb]?=some m.box)(hB:B<=tb):Calls Tryz.prog 186 #[.pointer (some ⟨tb,0,none⟩),.pointer (some ⟨fb,0,none⟩)] w (qQ B tb (aJ 102 m0 m) w):=by
 have a3:=(McAt.of h1).c3;have b3:=(McAt.of h0).c3;have z0:=dR h0;have g:=h0;unfold MV.box MV.cells at g;have g3:=at_set (i:=3) (x:=.int .i64 m.fr) g;have H:=hid (g3.trans (show _=some (aJ 102 m0 m).box by kernel_rfl));clear g g3;go_in;go_wp2_with fail;refine yaL (yaJ rfl _ _ _) rfl ?_;exact⟨rfl,H.out,((Oth.refl B tb w).set hB 3 _)⟩
theorem Rq (B tb fb:Nat)(m0 m:MV)(w:World)(h0:w.heap[tb]?=some m0.box)(h1:w.heap[fb]?=some m.box)(hB:B<=tb):Calls Tryz.prog 189 #[.pointer (some ⟨tb,0,none⟩),.pointer (some ⟨fb,0,none⟩)] w (qQ B tb (aJ 113 m0 m) w):=by
 have a6:=(McAt.of h1).c6;have b6:=(McAt.of h0).c6;have a7:=(McAt.of h1).c7;have b7:=(McAt.of h0).c7;have a8:=(McAt.of h1).c8;have b8:=(McAt.of h0).c8;have a9:=(McAt.of h1).c9;have b9:=(McAt.of h0).c9;have a10:=(McAt.of h1).c10;have b10:=(McAt.of h0).c10;have a11:=(McAt.of h1).c11;have b11:=(McAt.of h0).c11;have a12:=(McAt.of h1).c12;have b12:=(McAt.of h0).c12;have a13:=(McAt.of h1).c13;have b13:=(McAt.of h0).c13;have a14:=(McAt.of h1).c14;have b14:=(McAt.of h0).c14;have z0:=dR h0;have g:=h0;unfold MV.box MV.cells at g;have g6:=at_set (i:=6) (x:=.int .u64 m.rq.cl) g;have g7:=at_set (i:=7) (x:=.int .u64 m.rq.nu) g6;have g8:=at_set (i:=8) (x:=.int .i64 m.rq.op.k) g7;have g9:=at_set (i:=9) (x:=.string m.rq.op.name) g8;have g10:=at_set (i:=10) (x:=.string m.rq.op.to) g9;have g11:=at_set (i:=11) (x:=.slice m.rq.op.ao m.rq.op.an m.rq.op.ac) g10;have g12:=at_set (i:=12) (x:=.slice m.rq.op.bo m.rq.op.bn m.rq.op.bc) g11;have g13:=at_set (i:=13) (x:=.slice m.rq.op.co m.rq.op.cn m.rq.op.cc) g12;have g14:=at_set (i:=14) (x:=.int .i64 m.rq.op.n) g13;have H:=hid (g14.trans (show _=some (aJ 113 m0 m).box by kernel_rfl));clear g g6 g7 g8 g9 g10 g11 g12 g13 g14;go_in;go_wp2_with fail;refine yaL (yaJ rfl _ _ _) rfl ?_;exact⟨rfl,H.out,((((((((((Oth.refl B tb w).set hB 6 _).set hB 7 _).set hB 8 _).set hB 9 _).set hB 10 _).set hB 11 _).set hB 12 _).set hB 13 _).set hB 14 _)⟩
theorem Pn (B tb fb:Nat)(m0 m:MV)(w:World)(h0:w.heap[tb]?=some m0.box)(h1:w.heap[fb]?=some m.box)(hB:B<=tb):Calls Tryz.prog 195 #[.pointer (some ⟨tb,0,none⟩),.pointer (some ⟨fb,0,none⟩)] w (qQ B tb (aJ 114 m0 m) w):=by
 have a15:=(McAt.of h1).c15;have b15:=(McAt.of h0).c15;have a16:=(McAt.of h1).c16;have b16:=(McAt.of h0).c16;have a17:=(McAt.of h1).c17;have b17:=(McAt.of h0).c17;have a18:=(McAt.of h1).c18;have b18:=(McAt.of h0).c18;have z0:=dR h0;have g:=h0;unfold MV.box MV.cells at g;have g15:=at_set (i:=15) (x:=.int .i64 m.rs.code) g;have g16:=at_set (i:=16) (x:=.bool m.rs.yes) g15;have g17:=at_set (i:=17) (x:=.slice m.rs.eo m.rs.en m.rs.ec) g16;have g18:=at_set (i:=18) (x:=.slice m.rs.co m.rs.cn m.rs.cc) g17;have H:=hid (g18.trans (show _=some (aJ 114 m0 m).box by kernel_rfl));clear g g15 g16 g17 g18;go_in;go_wp2_with fail;refine yaL (yaJ rfl _ _ _) rfl ?_;exact⟨rfl,H.out,(((((Oth.refl B tb w).set hB 15 _).set hB 16 _).set hB 17 _).set hB 18 _)⟩
theorem QF (B tb fb:Nat)(m0 m:MV)(w:World)(h0:w.heap[tb]?=some m0.box)(h1:w.heap[fb]?=some m.box)(hB:B<=tb):Calls Tryz.prog 200 #[.pointer (some ⟨tb,0,none⟩),.pointer (some ⟨fb,0,none⟩)] w (qQ B tb (aJ 115 m0 m) w):=by
 have a22:=(McAt.of h1).c22;have b22:=(McAt.of h0).c22;have z0:=dR h0;have g:=h0;unfold MV.box MV.cells at g;have g22:=at_set (i:=22) (x:=.slice m.so m.sn m.sc) g;have H:=hid (g22.trans (show _=some (aJ 115 m0 m).box by kernel_rfl));clear g g22;go_in;go_wp2_with fail;refine yaL (yaJ rfl _ _ _) rfl ?_;exact⟨rfl,H.out,((Oth.refl B tb w).set hB 22 _)⟩
theorem OQ (B tb fb:Nat)(m0 m:MV)(w:World)(h0:w.heap[tb]?=some m0.box)(h1:w.heap[fb]?=some m.box)(hB:B<=tb):Calls Tryz.prog 203 #[.pointer (some ⟨tb,0,none⟩),.pointer (some ⟨fb,0,none⟩)] w (qQ B tb (aJ 108 m0 m) w):=by
 have a23:=(McAt.of h1).c23;have b23:=(McAt.of h0).c23;have z0:=dR h0;have g:=h0;unfold MV.box MV.cells at g;have g23:=at_set (i:=23) (x:=.slice m.lo m.ln m.lc) g;have H:=hid (g23.trans (show _=some (aJ 108 m0 m).box by kernel_rfl));clear g g23;go_in;go_wp2_with fail;refine yaL (yaJ rfl _ _ _) rfl ?_;exact⟨rfl,H.out,((Oth.refl B tb w).set hB 23 _)⟩
theorem Qs (B tb fb:Nat)(m0 m:MV)(w:World)(h0:w.heap[tb]?=some m0.box)(h1:w.heap[fb]?=some m.box)(hB:B<=tb):Calls Tryz.prog 209 #[.pointer (some ⟨tb,0,none⟩),.pointer (some ⟨fb,0,none⟩)] w (qQ B tb (aJ 119 m0 m) w):=by
 have a25:=(McAt.of h1).c25;have b25:=(McAt.of h0).c25;have z0:=dR h0;have g:=h0;unfold MV.box MV.cells at g;have g25:=at_set (i:=25) (x:=.bool m.wh) g;have H:=hid (g25.trans (show _=some (aJ 119 m0 m).box by kernel_rfl));clear g g25;go_in;go_wp2_with fail;refine yaL (yaJ rfl _ _ _) rfl ?_;exact⟨rfl,H.out,((Oth.refl B tb w).set hB 25 _)⟩
theorem Qg (B tb fb:Nat)(m0 m:MV)(w:World)(h0:w.heap[tb]?=some m0.box)(h1:w.heap[fb]?=some m.box)(hB:B<=tb):Calls Tryz.prog 213 #[.pointer (some ⟨tb,0,none⟩),.pointer (some ⟨fb,0,none⟩)] w (qQ B tb (aJ 101 m0 m) w):=by
 have a26:=(McAt.of h1).c26;have b26:=(McAt.of h0).c26;have z0:=dR h0;have g:=h0;unfold MV.box MV.cells at g;have g26:=at_set (i:=26) (x:=.slice m.ho m.hn m.hc) g;have H:=hid (g26.trans (show _=some (aJ 101 m0 m).box by kernel_rfl));clear g g26;go_in;go_wp2_with fail;refine yaL (yaJ rfl _ _ _) rfl ?_;exact⟨rfl,H.out,((Oth.refl B tb w).set hB 26 _)⟩
structure KeepOk (t0 t1 t2 t3 t4 t5 t6 t7:Nat)(f:FV)(kf:FuncId)(kc:Array Value):Prop where
 eq:f.kp=.func (.func kf) #[] kc
 en:∀args w,(callFunc kf args).run Tryz.prog w=.ok (.enter kf args) w
 calls:∀(B tb fb:Nat) (m0 m:MV) (w:World),AllAt t0 t1 t2 t3 t4 t5 t6 t7 w->w.heap[tb]?=some m0.box->w.heap[fb]?=some m.box->B<=tb->Calls Tryz.prog kf (#[.pointer (some ⟨tb,0,none⟩),.pointer (some ⟨fb,0,none⟩)]++kc) w (qQ B tb (aJ f.l m0 m) w)
theorem NG {t0 t1 t2 t3 t4 t5 t6 t7:Nat}:∀f∈allL t0 t1 t2 t3 t4 t5 t6 t7,∃kf kc,KeepOk t0 t1 t2 t3 t4 t5 t6 t7 f kf kc:=by
 intro f hf;simp only[allL,yas,yal,or_false] at hf;rcases hf with rfl|rfl|rfl|rfl|rfl|rfl|rfl|rfl|rfl|rfl|rfl|rfl|rfl|rfl|rfl
 ·refine⟨218,#[.pointer (some ⟨t0+1,0,none⟩)],rfl,enters_of Tryz.func218 (by kernel_rfl) rfl,fun B tb fb m0 m w ha h0 h1 hB=>(qZ Ho B tb fb (t0+1) m0.cells m.cells m.vi _ w h0 h1 rfl rfl ha.a0.2 hB).mono ?_⟩;rintro e w' ⟨rfl,h2,h3⟩;exact⟨rfl,h2.trans (show _=some (aJ 118 m0 m).box by kernel_rfl),h3⟩
 ·refine⟨218,#[.pointer (some ⟨t1+1,0,none⟩)],rfl,enters_of Tryz.func218 (by kernel_rfl) rfl,fun B tb fb m0 m w ha h0 h1 hB=>(qZ Io B tb fb (t1+1) m0.cells m.cells m.no _ w h0 h1 rfl rfl ha.a1.2 hB).mono ?_⟩;rintro e w' ⟨rfl,h2,h3⟩;exact⟨rfl,h2.trans (show _=some (aJ 110 m0 m).box by kernel_rfl),h3⟩
 ·exact⟨186,#[],rfl,enters_of Tryz.func186 (by kernel_rfl) rfl,fun B tb fb m0 m w _ h0 h1 hB=>Qe B tb fb m0 m w h0 h1 hB⟩
 ·refine⟨218,#[.pointer (some ⟨t2+1,0,none⟩)],rfl,enters_of Tryz.func218 (by kernel_rfl) rfl,fun B tb fb m0 m w ha h0 h1 hB=>(qZ IY B tb fb (t2+1) m0.cells m.cells m.cl _ w h0 h1 rfl rfl ha.a2.2 hB).mono ?_⟩;rintro e w' ⟨rfl,h2,h3⟩;exact⟨rfl,h2.trans (show _=some (aJ 99 m0 m).box by kernel_rfl),h3⟩
 ·refine⟨218,#[.pointer (some ⟨t3+1,0,none⟩)],rfl,enters_of Tryz.func218 (by kernel_rfl) rfl,fun B tb fb m0 m w ha h0 h1 hB=>(qZ Ie B tb fb (t3+1) m0.cells m.cells m.nu _ w h0 h1 rfl rfl ha.a3.2 hB).mono ?_⟩;rintro e w' ⟨rfl,h2,h3⟩;exact⟨rfl,h2.trans (show _=some (aJ 117 m0 m).box by kernel_rfl),h3⟩
 ·exact⟨189,#[],rfl,enters_of Tryz.func189 (by kernel_rfl) rfl,fun B tb fb m0 m w _ h0 h1 hB=>Rq B tb fb m0 m w h0 h1 hB⟩
 ·exact⟨195,#[],rfl,enters_of Tryz.func195 (by kernel_rfl) rfl,fun B tb fb m0 m w _ h0 h1 hB=>Pn B tb fb m0 m w h0 h1 hB⟩
 ·refine⟨218,#[.pointer (some ⟨t4+1,0,none⟩)],rfl,enters_of Tryz.func218 (by kernel_rfl) rfl,fun B tb fb m0 m w ha h0 h1 hB=>(qZ GK B tb fb (t4+1) m0.cells m.cells m.at_ _ w h0 h1 rfl rfl ha.a4.2 hB).mono ?_⟩;rintro e w' ⟨rfl,h2,h3⟩;exact⟨rfl,h2.trans (show _=some (aJ 97 m0 m).box by kernel_rfl),h3⟩
 ·refine⟨218,#[.pointer (some ⟨t5+1,0,none⟩)],rfl,enters_of Tryz.func218 (by kernel_rfl) rfl,fun B tb fb m0 m w ha h0 h1 hB=>(qZ Gz B tb fb (t5+1) m0.cells m.cells m.cm _ w h0 h1 rfl rfl ha.a5.2 hB).mono ?_⟩;rintro e w' ⟨rfl,h2,h3⟩;exact⟨rfl,h2.trans (show _=some (aJ 109 m0 m).box by kernel_rfl),h3⟩
 ·refine⟨218,#[.pointer (some ⟨t6+1,0,none⟩)],rfl,enters_of Tryz.func218 (by kernel_rfl) rfl,fun B tb fb m0 m w ha h0 h1 hB=>(qZ Gg B tb fb (t6+1) m0.cells m.cells m.bs _ w h0 h1 rfl rfl ha.a6.2 hB).mono ?_⟩;rintro e w' ⟨rfl,h2,h3⟩;exact⟨rfl,h2.trans (show _=some (aJ 98 m0 m).box by kernel_rfl),h3⟩
 ·exact⟨200,#[],rfl,enters_of Tryz.func200 (by kernel_rfl) rfl,fun B tb fb m0 m w _ h0 h1 hB=>QF B tb fb m0 m w h0 h1 hB⟩
 ·exact⟨203,#[],rfl,enters_of Tryz.func203 (by kernel_rfl) rfl,fun B tb fb m0 m w _ h0 h1 hB=>OQ B tb fb m0 m w h0 h1 hB⟩
 ·refine⟨218,#[.pointer (some ⟨t7+1,0,none⟩)],rfl,enters_of Tryz.func218 (by kernel_rfl) rfl,fun B tb fb m0 m w ha h0 h1 hB=>(qZ GZ B tb fb (t7+1) m0.cells m.cells m.nc _ w h0 h1 rfl rfl ha.a7.2 hB).mono ?_⟩;rintro e w' ⟨rfl,h2,h3⟩;exact⟨rfl,h2.trans (show _=some (aJ 111 m0 m).box by kernel_rfl),h3⟩
 ·exact⟨209,#[],rfl,enters_of Tryz.func209 (by kernel_rfl) rfl,fun B tb fb m0 m w _ h0 h1 hB=>Qs B tb fb m0 m w h0 h1 hB⟩
 exact⟨213,#[],rfl,enters_of Tryz.func213 (by kernel_rfl) rfl,fun B tb fb m0 m w _ h0 h1 hB=>Qg B tb fb m0 m w h0 h1 hB⟩
end Msg
namespace Tlv
open Go.RowKit Mem Msg
def GL (B g:Nat)(l2:List UInt8)(v:Value)(W:World)(e:Ending)(w':World):Prop:=e=.returned (.pointer (some ⟨g,0,none⟩))/\∃v',WrAt B g l2 0 v' w'/\Below B W w'/\KeepW g v v' W w'
theorem Ih {W:World}{B n size:Nat}{e:TypeId}{ao:Option Addr}{cap:Nat}{xs:List Value}(h:W.ownsRow B e size (.slice ao n cap) n xs):∀a,ao=some a->B<=a.block:=by
 intro a ha;subst ha;rcases h.2 with ⟨h1,-⟩ | ⟨g,c2,cur,h1,h2,-⟩
 ·cases h1
 cases h1;exact h2
theorem Cc (B g:Nat)(l:List UInt8)(v:Value)(t:UInt8)(ht:0<t.toNat)(n:Nat)(f:FuncId)(caps:Array Value)(it:Nat->List UInt8)(W:World)(hw:WrAt B g l 0 v W)(hn:n<=1000000)
  (hf:∀args w,(callFunc f args).run Tryz.prog w=.ok (.enter f args) w)
  (hone:∀i,i<n->lH (it i)=1/\0<(it i).length) (hlen:(bK it n).length<=4194304) (hl:l.length<=100000000)
  (hput:∀i W',i<n->Below W.heap.size W W'->WrS W.heap.size W.heap.size ⟨bK it i,0⟩ W' ->
   Calls Tryz.prog f (#[.pointer (some ⟨W.heap.size,0,none⟩),.int .i64 (i:Int)]++caps) W' fun e w'=>(∃r,e=.returned r)/\WrS W.heap.size W.heap.size ⟨bK it (i+1),0⟩ w'/\Below W.heap.size W' w') :
  Calls Tryz.prog 176 #[.pointer (some ⟨g,0,none⟩),.int .u8 (t.toNat:Int),.int .i64 (n:Int),.func (.func f) #[] caps] W (GL B g (l++val t (bK it n)) v W):=by
 have hat:=hw.at_;have c1:W.cell? ⟨g,1,none⟩=some (.int .i64 0):=by simp[World.cell?,hat]
 have hpe:∀(w:World),Sem.run Tryz.prog (binOp BinOp.eql 175 (.pointer (some ⟨g,0,none⟩)) (.pointer none)) w=.ok (.bool false) w:=fun _=>by kernel_rfl
 have hfn:∀(w:World),Sem.run Tryz.prog (binOp BinOp.neq 257 (.func (.func f) #[] caps) .nilFunc) w=.ok (.bool true) w:=fun _=>by kernel_rfl
 have hnew:WrS W.heap.size W.heap.size ⟨[],0⟩ (W.alloc (.cells #[.slice none 0 0,.int .i64 0] 177)):=⟨_,⟨by show (W.heap.push _)[W.heap.size]?=some _;simp,yag _,yaC _ _ _ _⟩⟩
 have hb0:Below W.heap.size W (W.alloc (.cells #[.slice none 0 0,.int .i64 0] 177)):=(yaj _ W).alloc (yag _) _;have Hput:=Lib.hid hput;have Hone:=Lib.hid hone;clear hput hone;have hnn:decide ((n:Int)<0)=false:=yad (by omega);go_in;go_wp2_with fail
 go_step3
 go_wp2_with fail
 go_step3
 go_wp2_with fail;go_loopw [29] (fun p wr=>∃k:Nat,k<=n/\p=.int .i64 (k:Int)/\WrS W.heap.size W.heap.size ⟨bK it k,0⟩ wr/\Below W.heap.size W wr) (fun p _=>(n-intOf p).toNat)
 case atStart=>exact⟨0,by omega,rfl,hnew,hb0⟩
 case round=>
  obtain⟨k,hk,rfl,hwr,hbr⟩:=hrel;obtain⟨vi,hwi⟩:=hwr;have hati:=hwi.at_;have d0:wr.cell? ⟨W.heap.size,0,none⟩=some vi:=by simp[World.cell?,hati]
  have d1:wr.cell? ⟨W.heap.size,1,none⟩=some (.int .i64 0):=by simp[World.cell?,hati]
  obtain⟨aoi,capi,rfl,hri⟩:=Rd.of_own hwi.own;by_cases hkn:k=n
  ·have f0:decide ((k:Int)<(n:Int))=false:=yad (by omega);subst hkn;go_wp2_with fail;refine (nS B g l _ v t aoi _ capi wr (hw.later hbr) ht hl hlen hri (fun h0 a ha e=>?_)).mono ?_
   ·have h1:=Ih hwi.own a ha;have h2:=Msg.iP hw.own a.block e.symm;omega
   rintro e w' ⟨rfl,v',h1,h2,h3⟩;go_wp2;rw[Exit.noGoto_ret];go_ret;exact⟨rfl,v',h1,(hbr.mono (by have:=hw.le;have:=hw.lt;omega)).trans h2,h3.after hbr⟩
  have f0:decide ((k:Int)<(n:Int))=true:=yaa (by omega);have hkl:k<n:=by omega
  go_wp2_with fail;refine (Hput.out k wr hkl hbr ⟨_,hwi⟩).mono ?_;rintro e w1 ⟨⟨r,rfl⟩,⟨vj,hwj⟩,hb1⟩;have hatj:=hwj.at_;have d2:w1.cell? ⟨W.heap.size,0,none⟩=some vj:=by simp[World.cell?,hatj]
  have d3:w1.cell? ⟨W.heap.size,1,none⟩=some (.int .i64 0):=by simp[World.cell?,hatj]
  obtain⟨hm1,hpos⟩:=Hone.out k hkl;have hsucc:=ed it k;have hln:(bK it (k+1)).length=(bK it k).length+(it k).length:=by rw[hsucc,yab]
  have hle:(bK it (k+1)).length<=4194304:=yae (mX it (by omega)) hlen;obtain⟨bj,capj,rfl⟩:∃bj capj,vj=.slice (some ⟨bj,0,none⟩) (bK it (k+1)).length capj:=by
   obtain⟨q,hq⟩:∃q,(bK it (k+1)).length=q+1:=⟨(bK it (k+1)).length-1,by omega⟩
   have ho:=hwj.own;dsimp only at ho;rw[hq] at ho ⊢;exact ownsRow_succ ho
  have hrj:=Rd.of_own_slice hwj.own;dsimp only at hrj;have hcj:=hrj.le;have hrs:=pq hrj (f:=(bK it k).length) (by omega);rw[hsucc,List.drop_left,<-hsucc,ybL] at hrs;have Hm1:=Lib.hid hm1;have Hsucc:=Lib.hid hsucc;clear hm1 hsucc;have i0:(0:Int)<=((bK it k).length:Int):=by omega
  have i1:((bK it k).length:Int)<=((bK it (k+1)).length:Int):=by omega
  have i2:((bK it k).length:Int)<=(capj:Int):=by omega
  have i3:¬capj-(bK it k).length=0:=by omega
  have Hln:=Lib.hid hln;clear hln;go_wp2_with fail;refine (Di _ _ _ (it k) w1 (by omega) hrs).mono ?_;rintro e w2 ⟨rfl,hb2⟩;rw[Hm1.out];have hwj2:=hwj.later hb2;go_wp2;go_roundw
  case rel=>exact⟨k+1,by omega,by go_num,⟨_,hwj2⟩,hbr.trans (hb1.trans (hb2.mono (yae hbr.size hb1.size)))⟩
  case measure=>simp[intOf];omega
theorem Ot (B g:Nat)(l:List UInt8)(v:Value)(t:UInt8)(is:Bool)(W:World)(hw:WrAt B g l 0 v W)(ht:0<t.toNat)(hl:l.length<=100000000) :
  Calls Tryz.prog 175 #[.pointer (some ⟨g,0,none⟩),.int .u8 (t.toNat:Int),.bool is] W (GL B g (l++val t [if is then 1 else 0]) v W):=by
 have hb:∀x:UInt8,Below W.heap.size W (W.alloc (.cells #[.int .u8 (x.toNat:Int)] 5)):=fun x=>bN _ _;have hc:∀x:UInt8,Calls Tryz.prog 147 #[.pointer (some ⟨g,0,none⟩),.int .u8 (t.toNat:Int),.slice (some ⟨W.heap.size,0,none⟩) 1 1] (W.alloc (.cells #[.int .u8 (x.toNat:Int)] 5)) (GL B g (l++val t [x]) v W):=fun x=>
  (nS B g l [x] v t _ 1 1 _ (hw.later (hb x)) ht hl (by decide) (Rd.new W [.int .u8 (x.toNat:Int)] 5 (0,0) 1 1 rfl (by decide)) (fun _ a ha e=>by cases ha;exact iP hw.own e.symm)).mono fun e w' h=>by
   obtain⟨rfl,v',h1,h2,h3⟩:=h;exact⟨rfl,v',h1,((hb x).mono (by have:=hw.le;have:=hw.lt;omega)).trans h2,h3.after (hb x)⟩
 cases is with
 | true=>
  have hc1:=hc 1;clear hc;go_in;go_wp2_with fail;refine hc1.mono ?_;rintro e w1 ⟨rfl,h1⟩;go_wp2_with fail;go_ret;exact⟨rfl,h1⟩
 | false=>
  have hc1:=hc 0;clear hc;go_in;go_wp2_with fail;refine hc1.mono ?_;rintro e w1 ⟨rfl,h1⟩;go_wp2_with fail;go_ret;exact⟨rfl,h1⟩
end Tlv
namespace Msg
open Go.RowKit Go.Lib Mem Tlv
variable{B g:Nat}{W:World}{l:List UInt8}{v:Value}
set_option linter.unusedVariables false
def gq (l:List RP):List UInt8:=l.flatMap fun p=>val 1 (dG p.1 (opL p.1.op p.2))
def df (l:List Nat):List UInt8:=l.flatMap fun n=>val 1 (au n)
theorem mO(p:RP)(l:List RP):gq (p::l)=val 1 (dG p.1 (opL p.1.op p.2))++gq l:=rfl
theorem Ku(l:List RP)(p:RP):gq (l++[p])=gq l++val 1 (dG p.1 (opL p.1.op p.2)):=by simp[gq]
theorem iV(n:Nat)(l:List Nat):df (n::l)=val 1 (au n)++df l:=rfl
theorem zJ(l:List Nat)(n:Nat):df (l++[n])=df l++val 1 (au n):=by simp[df]
theorem jS(l:List Nat):(df l).length=13*l.length:=by
 induction l with
 | nil=>rfl
 | cons n l ih=>rw[iV,yab,ae,ai,ih,yaF];omega
def bW (x:Int)(m:MV)(c:MC):List UInt8:=
 if x=118 then val 2 (au m.vi.toNat)
 else if x=110 then val 3 (au m.no.toNat)
 else if x=102 then val 4 (au m.fr.toNat)
 else if x=99 then val 5 (au m.cl.toNat)
 else if x=117 then val 6 (au m.nu.toNat)
 else if x=113 then val 7 (dG m.rq (opL m.rq.op c.rq))
 else if x=114 then val 8 (dM m.rs c.rs)
 else if x=97 then val 9 (au m.at_.toNat)
 else if x=109 then val 10 (au m.cm.toNat)
 else if x=98 then val 11 (au m.bs.toNat)
 else if x=115 then val 12 (c.snap)
 else if x=108 then val 13 (gq c.log)
 else if x=111 then val 14 (au m.nc.toNat)
 else if x=119 then val 15 ([if m.wh then 1 else 0])
 else if x=101 then val 16 (df c.seen)
 else []
structure U64M (m:MV)(c:MC):Prop where
 vi:0<=m.vi/\m.vi<18446744073709551616
 no:0<=m.no/\m.no<18446744073709551616
 cl:0<=m.cl/\m.cl<18446744073709551616
 nu:0<=m.nu/\m.nu<18446744073709551616
 at_:0<=m.at_/\m.at_<18446744073709551616
 cm:0<=m.cm/\m.cm<18446744073709551616
 bs:0<=m.bs/\m.bs<18446744073709551616
 nc:0<=m.nc/\m.nc<18446744073709551616
 rq:U64R m.rq
 log:∀p∈c.log,U64R p.1
 seen:∀n∈c.seen,n<18446744073709551616
structure MayF (x:Int)(m:MV)(c:MC):Prop where
 fr:x=102->0<=m.fr/\m.fr<7
 rq:x=113->aA m.rq.op c.rq=true
 rs:x=114->bz m.rs c.rs=true/\(dM m.rs c.rs).length<=4194304
 sn:x=115->m.sn<=4194304
 log:x=108->(∀p∈c.log,aA p.1.op p.2=true)/\(gq c.log).length<=4194304/\m.ln<=4096
 seen:x=101->m.hn<=7
def wH (B g:Nat)(l2:List UInt8)(v:Value)(W:World)(e:Ending)(w':World):Prop:=e=.returned (.tuple #[])/\∃v',WrAt B g l2 0 v' w'/\Below B W w'/\KeepW g v v' W w'
structure MLow (B:Nat)(m:MV):Prop where
 sn:0<m.sc->∀a,m.so=some a->a.block<B
theorem sK(h:WrAt B g l 0 v W):B<=W.heap.size:=by have:=h.le;have:=h.lt;omega
theorem vK{a:Addr}(h:WrAt B g l 0 v W)(ha:W.heap.size<=a.block):some a.block≠v.ownBlock:=fun e=>by
 have:=iP h.own a.block e.symm;omega
theorem SC(B g fb:Nat)(l:List UInt8)(v:Value)(m:MV)(c:MC)(w:World)(hw:WrAt B g l 0 v w)(hl:l.length<=100000000)(h1:w.heap[fb]?=some m.box)(hm:MAt w m c)(hu:U64M m c)(hf:MayF 102 m c)(hlo:MLow B m):Calls Tryz.prog 187 #[.pointer (some ⟨g,0,none⟩),.pointer (some ⟨fb,0,none⟩)] w (wH B g (l++bW 102 m c) v w):=by
 obtain⟨f0,f1⟩:=hf.fr rfl;have c3:=(McAt.of h1).c3;obtain⟨n,hn⟩:∃n:Nat,m.fr=(n:Int):=⟨m.fr.toNat,by omega⟩
 have hwr:IntKind.wrap .u64 (n:Int)=(n:Int):=by rw[ybi];omega
 rw[hn] at c3;have HF:Hid (bW 102 m c=val 4 (au n)):=hid (by show val 4 (au m.fr.toNat)=_;rw[hn];rfl);clear hn f0 f1 h1;go_in;go_wp2_with fail;refine (ui B g l v 4 n w hw (by decide) hl).mono ?_;rintro e w2 ⟨rfl,v2,hw2,hb2,hk2⟩;go_wp2_with fail;refine yaL (yaJ rfl _ _ _) rfl ?_;exact⟨rfl,v2,by rw[HF.out];exact hw2,hb2,hk2⟩
theorem Su(B g fb:Nat)(l:List UInt8)(v:Value)(m:MV)(c:MC)(w:World)(hw:WrAt B g l 0 v w)(hl:l.length<=100000000)(h1:w.heap[fb]?=some m.box)(hm:MAt w m c)(hu:U64M m c)(hf:MayF 113 m c)(hlo:MLow B m):Calls Tryz.prog 190 #[.pointer (some ⟨g,0,none⟩),.pointer (some ⟨fb,0,none⟩)] w (wH B g (l++bW 113 m c) v w):=by
 have hmo:=hf.rq rfl;have c6:=(McAt.of h1).c6;have c7:=(McAt.of h1).c7;have c8:=(McAt.of h1).c8;have c9:=(McAt.of h1).c9;have c10:=(McAt.of h1).c10;have c11:=(McAt.of h1).c11;have c12:=(McAt.of h1).c12;have c13:=(McAt.of h1).c13;have c14:=(McAt.of h1).c14;have hop:=jI w m.rq.op c.rq hm.rq;rw[hmo,lZ hmo] at hop;have hcall:=wF m.rq c.rq (opL m.rq.op c.rq) w hm.rq hop hu.rq.c0 hu.rq.n0;have hlen:(dG m.rq (opL m.rq.op c.rq)).length<=4194304:=by rw[gX];have:=iJ hm.rq hmo;omega
 have HB:B<=w.heap.size:=sK hw;unfold RV.val RV.cells at hcall;clear hmo h1 hop;go_in;go_wp2_with fail;refine hcall.mono ?_;rintro e w1 ⟨ao,cap,rfl,hr,hb1,hfr⟩;go_wp2_with fail;refine (nS B g l _ v 7 ao _ cap w1 (hw.later hb1) (by decide) hl hlen hr (fun _ a ha=>vK hw (hfr a ha))).mono ?_;rintro e w2 ⟨rfl,v2,hw2,hb2,hk2⟩;go_wp2_with fail;refine yaL (yaJ rfl _ _ _) rfl ?_;exact⟨rfl,v2,hw2,(hb1.mono HB).trans hb2,hk2.after hb1⟩
theorem SE(B g fb:Nat)(l:List UInt8)(v:Value)(m:MV)(c:MC)(w:World)(hw:WrAt B g l 0 v w)(hl:l.length<=100000000)(h1:w.heap[fb]?=some m.box)(hm:MAt w m c)(hu:U64M m c)(hf:MayF 114 m c)(hlo:MLow B m):Calls Tryz.prog 196 #[.pointer (some ⟨g,0,none⟩),.pointer (some ⟨fb,0,none⟩)] w (wH B g (l++bW 114 m c) v w):=by
 obtain⟨hmr,hlen⟩:=hf.rs rfl;have c15:=(McAt.of h1).c15;have c16:=(McAt.of h1).c16;have c17:=(McAt.of h1).c17;have c18:=(McAt.of h1).c18;have F:=FitQ.of hm.rs hmr;have hcall:=BP m.rs c.rs w hm.rs (fun _=>F.len);have HM:=hid hmr;have HB:B<=w.heap.size:=sK hw;unfold QV.val QV.cells at hcall;clear hmr h1 F;go_in;go_wp2_with fail;refine hcall.mono ?_;rintro e w1 ⟨lx,ao,cap,ex,rfl,hr,hb1,hfr,hx1,-⟩;obtain⟨rfl,rfl⟩:=hx1 HM.out;clear hx1;go_wp2_with fail;refine (nS B g l _ v 8 ao _ cap w1 (hw.later hb1) (by decide) hl hlen hr (fun _ a ha=>vK hw (hfr a ha))).mono ?_;rintro e w2 ⟨rfl,v2,hw2,hb2,hk2⟩;go_wp2_with fail;refine yaL (yaJ rfl _ _ _) rfl ?_;exact⟨rfl,v2,hw2,(hb1.mono HB).trans hb2,hk2.after hb1⟩
theorem RH(B g fb:Nat)(l:List UInt8)(v:Value)(m:MV)(c:MC)(w:World)(hw:WrAt B g l 0 v w)(hl:l.length<=100000000)(h1:w.heap[fb]?=some m.box)(hm:MAt w m c)(hu:U64M m c)(hf:MayF 115 m c)(hlo:MLow B m):Calls Tryz.prog 201 #[.pointer (some ⟨g,0,none⟩),.pointer (some ⟨fb,0,none⟩)] w (wH B g (l++bW 115 m c) v w):=by
 have hsn:=hf.sn rfl;have c22:=(McAt.of h1).c22;have hr:=hm.sn;have hls:c.snap.length=m.sn:=by have:=hr.1;rw[aV] at this;omega
 have hdis:0<m.sc->∀a,m.so=some a->some a.block≠v.ownBlock:=fun h0 a ha e=>by
  have h2:=hlo.sn h0 a ha;have h3:=(aU hw.own e.symm).1;omega
 clear h1 hls;go_in;go_wp2_with fail;refine (nS B g l c.snap v 12 m.so m.sn m.sc w hw (by decide) hl hsn hr hdis).mono ?_;rintro e w2 ⟨rfl,v2,hw2,hb2,hk2⟩;go_wp2_with fail;refine yaL (yaJ rfl _ _ _) rfl ?_;exact⟨rfl,v2,hw2,hb2,hk2⟩
theorem RY(B g fb:Nat)(l:List UInt8)(v:Value)(m:MV)(c:MC)(w:World)(hw:WrAt B g l 0 v w)(hl:l.length<=100000000)(h1:w.heap[fb]?=some m.box)(hm:MAt w m c)(hu:U64M m c)(hf:MayF 119 m c)(hlo:MLow B m):Calls Tryz.prog 210 #[.pointer (some ⟨g,0,none⟩),.pointer (some ⟨fb,0,none⟩)] w (wH B g (l++bW 119 m c) v w):=by
 have c25:=(McAt.of h1).c25;clear h1;go_in;go_wp2_with fail;refine (Ot B g l v 15 m.wh w hw (by decide) hl).mono ?_;rintro e w2 ⟨rfl,v2,hw2,hb2,hk2⟩;go_wp2_with fail;refine yaL (yaJ rfl _ _ _) rfl ?_;exact⟨rfl,v2,hw2,hb2,hk2⟩
def fB (fb:Nat):Obj:=.cells #[.pointer (some ⟨fb,0,none⟩)] 172
theorem PK(B g pb fb:Nat)(l:List UInt8)(k:Nat)(p:RP)(m:MV)(c:MC)(W:World)(hw:WrS B g ⟨l,0⟩ W)(hl:l.length<=100000000)(hp:W.heap[pb]?=some (fB fb))(h1:W.heap[fb]?=some m.box)(hlg:LgAt W m.lo m.ln m.lc c.log)(hk:c.log[k]?=some p)(hu:U64R p.1)(hmo:aA p.1.op p.2=true) :
  Calls Tryz.prog 205 #[.pointer (some ⟨g,0,none⟩),.int .i64 (k:Int),.pointer (some ⟨pb,0,none⟩)] W fun e w'=>(∃r,e=.returned r)/\WrS B g ⟨l++val 1 (dG p.1 (opL p.1.op p.2)),0⟩ w'/\Below B W w':=by
 obtain⟨v,hw⟩:=hw;have hkn:k<m.ln:=by have:=hlg.len;have:=(yao.1 hk).1;omega
 obtain⟨b1,o1,hao,-,-⟩:=hlg.r.some (by have:=hlg.r.le;omega);have hr:=hlg.r;rw[hao] at hr;have hrg:=mg hr hk;have hE:=hlg.each p (yan hk);have c23:=(McAt.of h1).c23;rw[hao] at c23;have d0:W.cell? ⟨pb,0,none⟩=some (.pointer (some ⟨fb,0,none⟩)):=by simp[World.cell?,hp,fB]
 have hop:=jI W p.1.op p.2 hE;rw[hmo,lZ hmo] at hop;have hcall:=wF p.1 p.2 (opL p.1.op p.2) W hE hop hu.c0 hu.n0;have hlen:(dG p.1 (opL p.1.op p.2)).length<=4194304:=by rw[gX];have:=iJ hE hmo;omega
 have HB:B<=W.heap.size:=sK hw;have i0:(0:Int)<=(k:Int):=by omega
 have i1:(k:Int)<(m.ln:Int):=by omega
 unfold RV.val RV.cells at hcall;unfold RV.cells at hrg;clear hmo h1 hop hr hao hk hp;go_in;go_wp2_with (refine dB (ty:=55) hrg rfl rfl rfl (by kernel_rfl) (by kernel_rfl) ?_;go_simp);refine hcall.mono ?_;rintro e w1 ⟨ao,cap,rfl,hr,hb1,hfr⟩;go_wp2_with fail;refine (nS B g l _ v 1 ao _ cap w1 (hw.later hb1) (by decide) hl hlen hr (fun _ a ha=>vK hw (hfr a ha))).mono ?_;rintro e w2 ⟨rfl,v2,hw2,hb2,-⟩;go_wp2_with fail;refine yaL (yaJ rfl _ _ _) rfl ?_;exact⟨⟨_,rfl⟩,⟨v2,hw2⟩,(hb1.mono HB).trans hb2⟩
theorem Pz(B g pb fb:Nat)(l:List UInt8)(k n:Nat)(m:MV)(c:MC)(W:World)(hw:WrS B g ⟨l,0⟩ W)(hl:l.length<=100000000)(hp:W.heap[pb]?=some (fB fb))(h1:W.heap[fb]?=some m.box)(hse:Rd W 1 m.ho m.hn m.hc (je c.seen))(hk:c.seen[k]?=some n) :
  Calls Tryz.prog 215 #[.pointer (some ⟨g,0,none⟩),.int .i64 (k:Int),.pointer (some ⟨pb,0,none⟩)] W fun e w'=>(∃r,e=.returned r)/\WrS B g ⟨l++val 1 (au n),0⟩ w'/\Below B W w':=by
 obtain⟨v,hw⟩:=hw;have hkn:k<m.hn:=by have:=hse.1;rw[iq] at this;have:=(yao.1 hk).1;omega
 obtain⟨b1,o1,hao,-,hc⟩:=hse.some (by have:=hse.le;omega);have x1:=hc k _ (oW c.seen k n hk);have x2:W.cell? ⟨b1,o1+k*1,none⟩=some (.int .u64 (n:Int)):=by rw[ycf];exact x1
 have c26:=(McAt.of h1).c26;rw[hao] at c26;have d0:W.cell? ⟨pb,0,none⟩=some (.pointer (some ⟨fb,0,none⟩)):=by simp[World.cell?,hp,fB]
 have i0:(0:Int)<=(k:Int):=by omega
 have i1:(k:Int)<(m.hn:Int):=by omega
 clear h1 hc hao hk hp;go_in;go_wp2_with fail;refine (ui B g l v 1 n W hw (by decide) hl).mono ?_;rintro e w2 ⟨rfl,v2,hw2,hb2,-⟩;go_wp2_with fail;refine yaL (yaJ rfl _ _ _) rfl ?_;exact⟨⟨_,rfl⟩,⟨v2,hw2⟩,hb2⟩
def wL (l:List RP)(i:Nat):List UInt8:=val 1 (match l[i]? with | some p=>dG p.1 (opL p.1.op p.2) | none=>[])
theorem CZ(l:List RP):∀n,n<=l.length->bK (wL l) n=gq (l.take n)
 | 0,_=>by simp[bK,gq]
 | n+1,h=>by
  have hn:l[n]?=some l[n]:=yac (by omega);rw[ed,CZ l n (by omega),yaE,hn];simp only[ybu];rw[Ku];simp[wL,hn]
def qU (l:List Nat)(i:Nat):List UInt8:=val 1 (match l[i]? with | some n=>au n | none=>[])
theorem AO(l:List Nat):∀n,n<=l.length->bK (qU l) n=df (l.take n)
 | 0,_=>by simp[bK,df]
 | n+1,h=>by
  have hn:l[n]?=some l[n]:=yac (by omega);rw[ed,AO l n (by omega),yaE,hn];simp only[ybu];rw[zJ];simp[qU,hn]
theorem SH(B g fb:Nat)(l:List UInt8)(v:Value)(m:MV)(c:MC)(w:World)(hw:WrAt B g l 0 v w)(hl:l.length<=100000000)(h1:w.heap[fb]?=some m.box)(hm:MAt w m c)(hu:U64M m c)(hf:MayF 108 m c)(hlo:MLow B m):Calls Tryz.prog 204 #[.pointer (some ⟨g,0,none⟩),.pointer (some ⟨fb,0,none⟩)] w (wH B g (l++bW 108 m c) v w):=by
 have HF:=hf.log rfl;obtain⟨hall,hlen,hn⟩:=HF;have hlx:=hm.lg.len;have hall2:bK (wL c.log) m.ln=gq c.log:=by rw[CZ _ _ (by omega),yak (by omega)]
 have c23:=(McAt.of h1).c23;have hb0:=bN w (fB fb);have k0:=aN w (fB fb)
 have HB:B<=w.heap.size:=sK hw;have HA:=hid hall2;have HL:=hid hlen;have HX:=hid hlx;clear hall2 hlen hlx;unfold fB at hb0 k0;go_in;go_upto_region 1 with fail;generalize hg:w.alloc _=W0 at *;have kp:W0.heap[w.heap.size]?=some (fB fb):=k0;have q1:=af h1 hb0;have hm0:=hm.later hb0;have hw0:=hw.later hb0;clear hg k0 c23;have c23:=(McAt.of q1).c23;have d0:W0.cell? ⟨w.heap.size,0,none⟩=some (.pointer (some ⟨fb,0,none⟩)):=by simp[World.cell?,kp,fB]
 go_wp2_with fail;have hW:=Cc B g l v 13 (by decide) m.ln 205 #[.pointer (some ⟨w.heap.size,0,none⟩)] (wL c.log) W0 hw0 (by omega) (enters_of Tryz.func205 (by kernel_rfl) rfl)
  (fun i hi=>by
   obtain⟨p,hp⟩:∃p,c.log[i]?=some p:=⟨_,yac (by rw[HX.out];exact hi)⟩
   have hpm:=yan hp;have hle:=iJ (hm.lg.each p hpm) (hall p hpm);unfold wL;rw[hp];exact⟨kD 1 _ (by decide) (by dsimp only;rw[gX];omega),by rw[ae];omega⟩)
  (by rw[HA.out];exact HL.out) hl
  (fun i W1 hi hb1 hwr=>by
   obtain⟨p,hp⟩:∃p,c.log[i]?=some p:=⟨_,yac (by rw[HX.out];exact hi)⟩
   have hmn:=mX (wL c.log) (yaZ hi);rw[HA.out] at hmn;have hL:=HL.out;have e5:wL c.log i=val 1 (dG p.1 (opL p.1.op p.2)):=by unfold wL;rw[hp]
   refine (PK _ _ w.heap.size fb _ i p m c W1 hwr (by omega) ((hb1.q kp)) (af q1 hb1) (hm0.lg.later hb1) hp (hu.log p (yan hp)) (hall p (yan hp))).mono ?_;rintro e1 w1 ⟨q1,q2,q3⟩;exact⟨q1,by rw[ed,e5];exact q2,q3⟩)
 rw[HA.out] at hW;refine (show Calls _ _ _ _ _ from hW).mono ?_;rintro e w2 ⟨rfl,v2,hw2,hb2,hk2⟩;go_wp2_with fail;refine yaL (yaJ rfl _ _ _) rfl ?_;exact⟨rfl,v2,hw2,(hb0.mono HB).trans hb2,hk2.after hb0⟩
theorem RJ(B g fb:Nat)(l:List UInt8)(v:Value)(m:MV)(c:MC)(w:World)(hw:WrAt B g l 0 v w)(hl:l.length<=100000000)(h1:w.heap[fb]?=some m.box)(hm:MAt w m c)(hu:U64M m c)(hf:MayF 101 m c)(hlo:MLow B m):Calls Tryz.prog 214 #[.pointer (some ⟨g,0,none⟩),.pointer (some ⟨fb,0,none⟩)] w (wH B g (l++bW 101 m c) v w):=by
 have HF:=hf.seen rfl;have hn:=HF;have hlx:c.seen.length=m.hn:=by have:=hm.se.1;rw[iq] at this;omega
 have hlen:(df c.seen).length<=4194304:=by rw[jS];omega
 have hall2:bK (qU c.seen) m.hn=df c.seen:=by rw[AO _ _ (by omega),yak (by omega)]
 have c26:=(McAt.of h1).c26;have hb0:=bN w (fB fb);have k0:=aN w (fB fb)
 have HB:B<=w.heap.size:=sK hw;have HA:=hid hall2;have HL:=hid hlen;have HX:=hid hlx;clear hall2 hlen hlx;unfold fB at hb0 k0;go_in;go_upto_region 1 with fail;generalize hg:w.alloc _=W0 at *;have kp:W0.heap[w.heap.size]?=some (fB fb):=k0;have q1:=af h1 hb0;have hm0:=hm.later hb0;have hw0:=hw.later hb0;clear hg k0 c26;have c26:=(McAt.of q1).c26;have d0:W0.cell? ⟨w.heap.size,0,none⟩=some (.pointer (some ⟨fb,0,none⟩)):=by simp[World.cell?,kp,fB]
 go_wp2_with fail;have hW:=Cc B g l v 16 (by decide) m.hn 215 #[.pointer (some ⟨w.heap.size,0,none⟩)] (qU c.seen) W0 hw0 (by omega) (enters_of Tryz.func215 (by kernel_rfl) rfl)
  (fun i hi=>by
   obtain⟨p,hp⟩:∃p,c.seen[i]?=some p:=⟨_,yac (by rw[HX.out];exact hi)⟩
   unfold qU;rw[hp];exact⟨kD 1 _ (by decide) (by dsimp only;rw[ai];omega),by rw[ae];omega⟩)
  (by rw[HA.out];exact HL.out) hl
  (fun i W1 hi hb1 hwr=>by
   obtain⟨p,hp⟩:∃p,c.seen[i]?=some p:=⟨_,yac (by rw[HX.out];exact hi)⟩
   have hmn:=mX (qU c.seen) (yaZ hi);rw[HA.out] at hmn;have hL:=HL.out;have e5:qU c.seen i=val 1 (au p):=by unfold qU;rw[hp]
   refine (Pz _ _ w.heap.size fb _ i p m c W1 hwr (by omega) ((hb1.q kp)) (af q1 hb1) (hm0.se.later hb1) hp).mono ?_;rintro e1 w1 ⟨q1,q2,q3⟩;exact⟨q1,by rw[ed,e5];exact q2,q3⟩)
 rw[HA.out] at hW;refine (show Calls _ _ _ _ _ from hW).mono ?_;rintro e w2 ⟨rfl,v2,hw2,hb2,hk2⟩;go_wp2_with fail;refine yaL (yaJ rfl _ _ _) rfl ?_;exact⟨rfl,v2,hw2,(hb0.mono HB).trans hb2,hk2.after hb0⟩
structure PutOk (t0 t1 t2 t3 t4 t5 t6 t7:Nat)(f:FV)(pf:FuncId)(pc:Array Value):Prop where
 eq:f.pt=.func (.func pf) #[] pc
 en:∀args w,(callFunc pf args).run Tryz.prog w=.ok (.enter pf args) w
 calls:∀(B g fb:Nat) (l:List UInt8) (v:Value) (m:MV) (c:MC) (w:World),AllAt t0 t1 t2 t3 t4 t5 t6 t7 w->WrAt B g l 0 v w->l.length<=100000000->w.heap[fb]?=some m.box->MAt w m c->U64M m c->MayF f.l m c->MLow B m->Calls Tryz.prog pf (#[.pointer (some ⟨g,0,none⟩),.pointer (some ⟨fb,0,none⟩)]++pc) w (wH B g (l++bW f.l m c) v w)
theorem QK{t0 t1 t2 t3 t4 t5 t6 t7:Nat}:∀f∈allL t0 t1 t2 t3 t4 t5 t6 t7,∃pf pc,PutOk t0 t1 t2 t3 t4 t5 t6 t7 f pf pc:=by
 intro f hf;simp only[allL,yas,yal,or_false] at hf;rcases hf with rfl|rfl|rfl|rfl|rfl|rfl|rfl|rfl|rfl|rfl|rfl|rfl|rfl|rfl|rfl
 ·refine⟨219,#[.pointer (some ⟨t0,0,none⟩),.pointer (some ⟨t0+1,0,none⟩)],rfl,enters_of Tryz.func219 (by kernel_rfl) rfl,fun B g fb l v m c w ha h0 hl h1 hm hu hf hlo=>?_⟩;obtain⟨u0,u1⟩:=hu.vi;have hx:m.cells[1]?=some (.int .u64 ((m.vi.toNat:Nat):Int)):=by rw[ybr u0];rfl
  refine (wI Ho 2 (by decide) B g fb t0 (t0+1) l v m.cells m.vi.toNat w h0 hl h1 hx ha.a0).mono ?_;rintro e w' ⟨rfl,v',h2,h3,h4⟩;exact⟨rfl,v',h2,h3,h4⟩
 ·refine⟨219,#[.pointer (some ⟨t1,0,none⟩),.pointer (some ⟨t1+1,0,none⟩)],rfl,enters_of Tryz.func219 (by kernel_rfl) rfl,fun B g fb l v m c w ha h0 hl h1 hm hu hf hlo=>?_⟩;obtain⟨u0,u1⟩:=hu.no;have hx:m.cells[2]?=some (.int .u64 ((m.no.toNat:Nat):Int)):=by rw[ybr u0];rfl
  refine (wI Io 3 (by decide) B g fb t1 (t1+1) l v m.cells m.no.toNat w h0 hl h1 hx ha.a1).mono ?_;rintro e w' ⟨rfl,v',h2,h3,h4⟩;exact⟨rfl,v',h2,h3,h4⟩
 ·exact⟨187,#[],rfl,enters_of Tryz.func187 (by kernel_rfl) rfl,fun B g fb l v m c w _ h0 hl h1 hm hu hf hlo=>SC B g fb l v m c w h0 hl h1 hm hu hf hlo⟩
 ·refine⟨219,#[.pointer (some ⟨t2,0,none⟩),.pointer (some ⟨t2+1,0,none⟩)],rfl,enters_of Tryz.func219 (by kernel_rfl) rfl,fun B g fb l v m c w ha h0 hl h1 hm hu hf hlo=>?_⟩;obtain⟨u0,u1⟩:=hu.cl;have hx:m.cells[4]?=some (.int .u64 ((m.cl.toNat:Nat):Int)):=by rw[ybr u0];rfl
  refine (wI IY 5 (by decide) B g fb t2 (t2+1) l v m.cells m.cl.toNat w h0 hl h1 hx ha.a2).mono ?_;rintro e w' ⟨rfl,v',h2,h3,h4⟩;exact⟨rfl,v',h2,h3,h4⟩
 ·refine⟨219,#[.pointer (some ⟨t3,0,none⟩),.pointer (some ⟨t3+1,0,none⟩)],rfl,enters_of Tryz.func219 (by kernel_rfl) rfl,fun B g fb l v m c w ha h0 hl h1 hm hu hf hlo=>?_⟩;obtain⟨u0,u1⟩:=hu.nu;have hx:m.cells[5]?=some (.int .u64 ((m.nu.toNat:Nat):Int)):=by rw[ybr u0];rfl
  refine (wI Ie 6 (by decide) B g fb t3 (t3+1) l v m.cells m.nu.toNat w h0 hl h1 hx ha.a3).mono ?_;rintro e w' ⟨rfl,v',h2,h3,h4⟩;exact⟨rfl,v',h2,h3,h4⟩
 ·exact⟨190,#[],rfl,enters_of Tryz.func190 (by kernel_rfl) rfl,fun B g fb l v m c w _ h0 hl h1 hm hu hf hlo=>Su B g fb l v m c w h0 hl h1 hm hu hf hlo⟩
 ·exact⟨196,#[],rfl,enters_of Tryz.func196 (by kernel_rfl) rfl,fun B g fb l v m c w _ h0 hl h1 hm hu hf hlo=>SE B g fb l v m c w h0 hl h1 hm hu hf hlo⟩
 ·refine⟨219,#[.pointer (some ⟨t4,0,none⟩),.pointer (some ⟨t4+1,0,none⟩)],rfl,enters_of Tryz.func219 (by kernel_rfl) rfl,fun B g fb l v m c w ha h0 hl h1 hm hu hf hlo=>?_⟩;obtain⟨u0,u1⟩:=hu.at_;have hx:m.cells[19]?=some (.int .u64 ((m.at_.toNat:Nat):Int)):=by rw[ybr u0];rfl
  refine (wI GK 9 (by decide) B g fb t4 (t4+1) l v m.cells m.at_.toNat w h0 hl h1 hx ha.a4).mono ?_;rintro e w' ⟨rfl,v',h2,h3,h4⟩;exact⟨rfl,v',h2,h3,h4⟩
 ·refine⟨219,#[.pointer (some ⟨t5,0,none⟩),.pointer (some ⟨t5+1,0,none⟩)],rfl,enters_of Tryz.func219 (by kernel_rfl) rfl,fun B g fb l v m c w ha h0 hl h1 hm hu hf hlo=>?_⟩;obtain⟨u0,u1⟩:=hu.cm;have hx:m.cells[20]?=some (.int .u64 ((m.cm.toNat:Nat):Int)):=by rw[ybr u0];rfl
  refine (wI Gz 10 (by decide) B g fb t5 (t5+1) l v m.cells m.cm.toNat w h0 hl h1 hx ha.a5).mono ?_;rintro e w' ⟨rfl,v',h2,h3,h4⟩;exact⟨rfl,v',h2,h3,h4⟩
 ·refine⟨219,#[.pointer (some ⟨t6,0,none⟩),.pointer (some ⟨t6+1,0,none⟩)],rfl,enters_of Tryz.func219 (by kernel_rfl) rfl,fun B g fb l v m c w ha h0 hl h1 hm hu hf hlo=>?_⟩;obtain⟨u0,u1⟩:=hu.bs;have hx:m.cells[21]?=some (.int .u64 ((m.bs.toNat:Nat):Int)):=by rw[ybr u0];rfl
  refine (wI Gg 11 (by decide) B g fb t6 (t6+1) l v m.cells m.bs.toNat w h0 hl h1 hx ha.a6).mono ?_;rintro e w' ⟨rfl,v',h2,h3,h4⟩;exact⟨rfl,v',h2,h3,h4⟩
 ·exact⟨201,#[],rfl,enters_of Tryz.func201 (by kernel_rfl) rfl,fun B g fb l v m c w _ h0 hl h1 hm hu hf hlo=>RH B g fb l v m c w h0 hl h1 hm hu hf hlo⟩
 ·exact⟨204,#[],rfl,enters_of Tryz.func204 (by kernel_rfl) rfl,fun B g fb l v m c w _ h0 hl h1 hm hu hf hlo=>SH B g fb l v m c w h0 hl h1 hm hu hf hlo⟩
 ·refine⟨219,#[.pointer (some ⟨t7,0,none⟩),.pointer (some ⟨t7+1,0,none⟩)],rfl,enters_of Tryz.func219 (by kernel_rfl) rfl,fun B g fb l v m c w ha h0 hl h1 hm hu hf hlo=>?_⟩;obtain⟨u0,u1⟩:=hu.nc;have hx:m.cells[24]?=some (.int .u64 ((m.nc.toNat:Nat):Int)):=by rw[ybr u0];rfl
  refine (wI GZ 14 (by decide) B g fb t7 (t7+1) l v m.cells m.nc.toNat w h0 hl h1 hx ha.a7).mono ?_;rintro e w' ⟨rfl,v',h2,h3,h4⟩;exact⟨rfl,v',h2,h3,h4⟩
 ·exact⟨210,#[],rfl,enters_of Tryz.func210 (by kernel_rfl) rfl,fun B g fb l v m c w _ h0 hl h1 hm hu hf hlo=>RY B g fb l v m c w h0 hl h1 hm hu hf hlo⟩
 exact⟨214,#[],rfl,enters_of Tryz.func214 (by kernel_rfl) rfl,fun B g fb l v m c w _ h0 hl h1 hm hu hf hlo=>RJ B g fb l v m c w h0 hl h1 hm hu hf hlo⟩
