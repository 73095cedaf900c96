/-
  A part of the proof.
-/
import Derived.Test.YtfmmandlmbcncaaGreatDoorKabl
import Derived.Test.YtfmmandlmbcncaaGreatDoorKaaw
set_option maxHeartbeats 40000000
namespace Go.Proofs.YtfmmandlmbcncaaGreatDoor.Msg
open Go.RowKit Go.Lib Go.Proofs.YtfmmandlmbcncaaGreatDoor.Mem Go.Proofs.YtfmmandlmbcncaaGreatDoor.Tlv
def setF (x:Int)(m0 m:MV):MV:=
 if x=118 then { m0 with vi:=m.vi }
 else if x=110 then { m0 with no:=m.no }
 else if x=102 then { m0 with fr:=m.fr }
 else if x=99 then { m0 with cl:=m.cl }
 else if x=117 then { m0 with nu:=m.nu }
 else if x=113 then { m0 with rq:=m.rq }
 else if x=114 then { m0 with rs:=m.rs }
 else if x=97 then { m0 with at_:=m.at_ }
 else if x=109 then { m0 with cm:=m.cm }
 else if x=98 then { m0 with bs:=m.bs }
 else if x=115 then { m0 with so:=m.so,sn:=m.sn,sc:=m.sc }
 else if x=108 then { m0 with lo:=m.lo,ln:=m.ln,lc:=m.lc }
 else if x=111 then { m0 with nc:=m.nc }
 else if x=119 then { m0 with wh:=m.wh }
 else if x=101 then { m0 with ho:=m.ho,hn:=m.hn,hc:=m.hc }
 else m0
def Keeps (B tb:Nat)(m1:MV)(w:World)(e:Ending)(w':World):Prop:=e=.returned (.tuple #[])∧w'.heap[tb]?=some m1.box∧Oth B tb w w'
set_option maxRecDepth 100000 in
theorem keep102 (B tb fb:Nat)(m0 m:MV)(w:World)(h0:w.heap[tb]?=some m0.box)(h1:w.heap[fb]?=some m.box)(hB:B≤tb):Calls Tryz.prog 186 #[.pointer (some ⟨tb,0,none⟩),.pointer (some ⟨fb,0,none⟩)] w (Keeps B tb (setF 102 m0 m) w):=by
 have a3:=(McAt.of h1).c3
 have b3:=(McAt.of h0).c3
 have z0:=mfrozen h0
 have g:=h0
 unfold MV.box MV.cells at g
 have g3:=at_set (i:=3) (x:=.int .i64 m.fr) g
 have H:=hid (g3.trans (show _=some (setF 102 m0 m).box by kernel_rfl))
 clear g g3
 go_enter Tryz.func186,Tryz.ntmps186
 go_wp2_with fail
 refine bodyPost_end (results_none rfl _ _ _) rfl ?_
 exact⟨rfl,H.out,((Oth.refl B tb w).set hB 3 _)⟩
set_option maxRecDepth 100000 in
theorem keep113 (B tb fb:Nat)(m0 m:MV)(w:World)(h0:w.heap[tb]?=some m0.box)(h1:w.heap[fb]?=some m.box)(hB:B≤tb):Calls Tryz.prog 189 #[.pointer (some ⟨tb,0,none⟩),.pointer (some ⟨fb,0,none⟩)] w (Keeps B tb (setF 113 m0 m) w):=by
 have a6:=(McAt.of h1).c6
 have b6:=(McAt.of h0).c6
 have a7:=(McAt.of h1).c7
 have b7:=(McAt.of h0).c7
 have a8:=(McAt.of h1).c8
 have b8:=(McAt.of h0).c8
 have a9:=(McAt.of h1).c9
 have b9:=(McAt.of h0).c9
 have a10:=(McAt.of h1).c10
 have b10:=(McAt.of h0).c10
 have a11:=(McAt.of h1).c11
 have b11:=(McAt.of h0).c11
 have a12:=(McAt.of h1).c12
 have b12:=(McAt.of h0).c12
 have a13:=(McAt.of h1).c13
 have b13:=(McAt.of h0).c13
 have a14:=(McAt.of h1).c14
 have b14:=(McAt.of h0).c14
 have z0:=mfrozen h0
 have g:=h0
 unfold MV.box MV.cells at g
 have g6:=at_set (i:=6) (x:=.int .u64 m.rq.cl) g
 have g7:=at_set (i:=7) (x:=.int .u64 m.rq.nu) g6
 have g8:=at_set (i:=8) (x:=.int .i64 m.rq.op.k) g7
 have g9:=at_set (i:=9) (x:=.string m.rq.op.name) g8
 have g10:=at_set (i:=10) (x:=.string m.rq.op.to) g9
 have g11:=at_set (i:=11) (x:=.slice m.rq.op.ao m.rq.op.an m.rq.op.ac) g10
 have g12:=at_set (i:=12) (x:=.slice m.rq.op.bo m.rq.op.bn m.rq.op.bc) g11
 have g13:=at_set (i:=13) (x:=.slice m.rq.op.co m.rq.op.cn m.rq.op.cc) g12
 have g14:=at_set (i:=14) (x:=.int .i64 m.rq.op.n) g13
 have H:=hid (g14.trans (show _=some (setF 113 m0 m).box by kernel_rfl))
 clear g g6 g7 g8 g9 g10 g11 g12 g13 g14
 go_enter Tryz.func189,Tryz.ntmps189
 go_wp2_with fail
 refine bodyPost_end (results_none rfl _ _ _) rfl ?_
 exact⟨rfl,H.out,((((((((((Oth.refl B tb w).set hB 6 _).set hB 7 _).set hB 8 _).set hB 9 _).set hB 10 _).set hB 11 _).set hB 12 _).set hB 13 _).set hB 14 _)⟩
set_option maxRecDepth 100000 in
theorem keep114 (B tb fb:Nat)(m0 m:MV)(w:World)(h0:w.heap[tb]?=some m0.box)(h1:w.heap[fb]?=some m.box)(hB:B≤tb):Calls Tryz.prog 195 #[.pointer (some ⟨tb,0,none⟩),.pointer (some ⟨fb,0,none⟩)] w (Keeps B tb (setF 114 m0 m) w):=by
 have a15:=(McAt.of h1).c15
 have b15:=(McAt.of h0).c15
 have a16:=(McAt.of h1).c16
 have b16:=(McAt.of h0).c16
 have a17:=(McAt.of h1).c17
 have b17:=(McAt.of h0).c17
 have a18:=(McAt.of h1).c18
 have b18:=(McAt.of h0).c18
 have z0:=mfrozen h0
 have g:=h0
 unfold MV.box MV.cells at g
 have g15:=at_set (i:=15) (x:=.int .i64 m.rs.code) g
 have g16:=at_set (i:=16) (x:=.bool m.rs.yes) g15
 have g17:=at_set (i:=17) (x:=.slice m.rs.eo m.rs.en m.rs.ec) g16
 have g18:=at_set (i:=18) (x:=.slice m.rs.co m.rs.cn m.rs.cc) g17
 have H:=hid (g18.trans (show _=some (setF 114 m0 m).box by kernel_rfl))
 clear g g15 g16 g17 g18
 go_enter Tryz.func195,Tryz.ntmps195
 go_wp2_with fail
 refine bodyPost_end (results_none rfl _ _ _) rfl ?_
 exact⟨rfl,H.out,(((((Oth.refl B tb w).set hB 15 _).set hB 16 _).set hB 17 _).set hB 18 _)⟩
set_option maxRecDepth 100000 in
theorem keep115 (B tb fb:Nat)(m0 m:MV)(w:World)(h0:w.heap[tb]?=some m0.box)(h1:w.heap[fb]?=some m.box)(hB:B≤tb):Calls Tryz.prog 200 #[.pointer (some ⟨tb,0,none⟩),.pointer (some ⟨fb,0,none⟩)] w (Keeps B tb (setF 115 m0 m) w):=by
 have a22:=(McAt.of h1).c22
 have b22:=(McAt.of h0).c22
 have z0:=mfrozen h0
 have g:=h0
 unfold MV.box MV.cells at g
 have g22:=at_set (i:=22) (x:=.slice m.so m.sn m.sc) g
 have H:=hid (g22.trans (show _=some (setF 115 m0 m).box by kernel_rfl))
 clear g g22
 go_enter Tryz.func200,Tryz.ntmps200
 go_wp2_with fail
 refine bodyPost_end (results_none rfl _ _ _) rfl ?_
 exact⟨rfl,H.out,((Oth.refl B tb w).set hB 22 _)⟩
set_option maxRecDepth 100000 in
theorem keep108 (B tb fb:Nat)(m0 m:MV)(w:World)(h0:w.heap[tb]?=some m0.box)(h1:w.heap[fb]?=some m.box)(hB:B≤tb):Calls Tryz.prog 203 #[.pointer (some ⟨tb,0,none⟩),.pointer (some ⟨fb,0,none⟩)] w (Keeps B tb (setF 108 m0 m) w):=by
 have a23:=(McAt.of h1).c23
 have b23:=(McAt.of h0).c23
 have z0:=mfrozen h0
 have g:=h0
 unfold MV.box MV.cells at g
 have g23:=at_set (i:=23) (x:=.slice m.lo m.ln m.lc) g
 have H:=hid (g23.trans (show _=some (setF 108 m0 m).box by kernel_rfl))
 clear g g23
 go_enter Tryz.func203,Tryz.ntmps203
 go_wp2_with fail
 refine bodyPost_end (results_none rfl _ _ _) rfl ?_
 exact⟨rfl,H.out,((Oth.refl B tb w).set hB 23 _)⟩
set_option maxRecDepth 100000 in
theorem keep119 (B tb fb:Nat)(m0 m:MV)(w:World)(h0:w.heap[tb]?=some m0.box)(h1:w.heap[fb]?=some m.box)(hB:B≤tb):Calls Tryz.prog 209 #[.pointer (some ⟨tb,0,none⟩),.pointer (some ⟨fb,0,none⟩)] w (Keeps B tb (setF 119 m0 m) w):=by
 have a25:=(McAt.of h1).c25
 have b25:=(McAt.of h0).c25
 have z0:=mfrozen h0
 have g:=h0
 unfold MV.box MV.cells at g
 have g25:=at_set (i:=25) (x:=.bool m.wh) g
 have H:=hid (g25.trans (show _=some (setF 119 m0 m).box by kernel_rfl))
 clear g g25
 go_enter Tryz.func209,Tryz.ntmps209
 go_wp2_with fail
 refine bodyPost_end (results_none rfl _ _ _) rfl ?_
 exact⟨rfl,H.out,((Oth.refl B tb w).set hB 25 _)⟩
set_option maxRecDepth 100000 in
theorem keep101 (B tb fb:Nat)(m0 m:MV)(w:World)(h0:w.heap[tb]?=some m0.box)(h1:w.heap[fb]?=some m.box)(hB:B≤tb):Calls Tryz.prog 213 #[.pointer (some ⟨tb,0,none⟩),.pointer (some ⟨fb,0,none⟩)] w (Keeps B tb (setF 101 m0 m) w):=by
 have a26:=(McAt.of h1).c26
 have b26:=(McAt.of h0).c26
 have z0:=mfrozen h0
 have g:=h0
 unfold MV.box MV.cells at g
 have g26:=at_set (i:=26) (x:=.slice m.ho m.hn m.hc) g
 have H:=hid (g26.trans (show _=some (setF 101 m0 m).box by kernel_rfl))
 clear g g26
 go_enter Tryz.func213,Tryz.ntmps213
 go_wp2_with fail
 refine bodyPost_end (results_none rfl _ _ _) rfl ?_
 exact⟨rfl,H.out,((Oth.refl B tb w).set hB 26 _)⟩
structure KeepOk (t0 t1 t2 t3 t4 t5 t6 t7:Nat)(f:FV)(kf:FuncId)(kc:Array Value):Prop where
 eq:f.kp=.func (.func kf) #[] kc
 en:∀args w,(callFunc kf args).run Tryz.prog w=.ok (.enter kf args) w
 calls:∀(B tb fb:Nat) (m0 m:MV) (w:World),AllAt t0 t1 t2 t3 t4 t5 t6 t7 w→w.heap[tb]?=some m0.box→w.heap[fb]?=some m.box→B≤tb→Calls Tryz.prog kf (#[.pointer (some ⟨tb,0,none⟩),.pointer (some ⟨fb,0,none⟩)]++kc) w (Keeps B tb (setF f.l m0 m) w)
set_option maxRecDepth 100000 in
theorem keep_all {t0 t1 t2 t3 t4 t5 t6 t7:Nat}:∀f∈allL t0 t1 t2 t3 t4 t5 t6 t7,∃kf kc,KeepOk t0 t1 t2 t3 t4 t5 t6 t7 f kf kc:=by
 intro f hf
 simp only[allL,List.mem_cons,List.not_mem_nil,or_false] at hf
 rcases hf with rfl|rfl|rfl|rfl|rfl|rfl|rfl|rfl|rfl|rfl|rfl|rfl|rfl|rfl|rfl
 ·refine⟨218,#[.pointer (some ⟨t0+1,0,none⟩)],rfl,enters_of Tryz.func218 (by kernel_rfl) rfl,fun B tb fb m0 m w ha h0 h1 hB=>(keepP1 B tb fb (t0+1) m0.cells m.cells m.vi _ w h0 h1 rfl rfl ha.a0.2 hB).mono ?_⟩
  rintro e w' ⟨rfl,h2,h3⟩
  exact⟨rfl,h2.trans (show _=some (setF 118 m0 m).box by kernel_rfl),h3⟩
 ·refine⟨218,#[.pointer (some ⟨t1+1,0,none⟩)],rfl,enters_of Tryz.func218 (by kernel_rfl) rfl,fun B tb fb m0 m w ha h0 h1 hB=>(keepP2 B tb fb (t1+1) m0.cells m.cells m.no _ w h0 h1 rfl rfl ha.a1.2 hB).mono ?_⟩
  rintro e w' ⟨rfl,h2,h3⟩
  exact⟨rfl,h2.trans (show _=some (setF 110 m0 m).box by kernel_rfl),h3⟩
 ·exact⟨186,#[],rfl,enters_of Tryz.func186 (by kernel_rfl) rfl,fun B tb fb m0 m w _ h0 h1 hB=>keep102 B tb fb m0 m w h0 h1 hB⟩
 ·refine⟨218,#[.pointer (some ⟨t2+1,0,none⟩)],rfl,enters_of Tryz.func218 (by kernel_rfl) rfl,fun B tb fb m0 m w ha h0 h1 hB=>(keepP3 B tb fb (t2+1) m0.cells m.cells m.cl _ w h0 h1 rfl rfl ha.a2.2 hB).mono ?_⟩
  rintro e w' ⟨rfl,h2,h3⟩
  exact⟨rfl,h2.trans (show _=some (setF 99 m0 m).box by kernel_rfl),h3⟩
 ·refine⟨218,#[.pointer (some ⟨t3+1,0,none⟩)],rfl,enters_of Tryz.func218 (by kernel_rfl) rfl,fun B tb fb m0 m w ha h0 h1 hB=>(keepP4 B tb fb (t3+1) m0.cells m.cells m.nu _ w h0 h1 rfl rfl ha.a3.2 hB).mono ?_⟩
  rintro e w' ⟨rfl,h2,h3⟩
  exact⟨rfl,h2.trans (show _=some (setF 117 m0 m).box by kernel_rfl),h3⟩
 ·exact⟨189,#[],rfl,enters_of Tryz.func189 (by kernel_rfl) rfl,fun B tb fb m0 m w _ h0 h1 hB=>keep113 B tb fb m0 m w h0 h1 hB⟩
 ·exact⟨195,#[],rfl,enters_of Tryz.func195 (by kernel_rfl) rfl,fun B tb fb m0 m w _ h0 h1 hB=>keep114 B tb fb m0 m w h0 h1 hB⟩
 ·refine⟨218,#[.pointer (some ⟨t4+1,0,none⟩)],rfl,enters_of Tryz.func218 (by kernel_rfl) rfl,fun B tb fb m0 m w ha h0 h1 hB=>(keepP5 B tb fb (t4+1) m0.cells m.cells m.at_ _ w h0 h1 rfl rfl ha.a4.2 hB).mono ?_⟩
  rintro e w' ⟨rfl,h2,h3⟩
  exact⟨rfl,h2.trans (show _=some (setF 97 m0 m).box by kernel_rfl),h3⟩
 ·refine⟨218,#[.pointer (some ⟨t5+1,0,none⟩)],rfl,enters_of Tryz.func218 (by kernel_rfl) rfl,fun B tb fb m0 m w ha h0 h1 hB=>(keepP6 B tb fb (t5+1) m0.cells m.cells m.cm _ w h0 h1 rfl rfl ha.a5.2 hB).mono ?_⟩
  rintro e w' ⟨rfl,h2,h3⟩
  exact⟨rfl,h2.trans (show _=some (setF 109 m0 m).box by kernel_rfl),h3⟩
 ·refine⟨218,#[.pointer (some ⟨t6+1,0,none⟩)],rfl,enters_of Tryz.func218 (by kernel_rfl) rfl,fun B tb fb m0 m w ha h0 h1 hB=>(keepP7 B tb fb (t6+1) m0.cells m.cells m.bs _ w h0 h1 rfl rfl ha.a6.2 hB).mono ?_⟩
  rintro e w' ⟨rfl,h2,h3⟩
  exact⟨rfl,h2.trans (show _=some (setF 98 m0 m).box by kernel_rfl),h3⟩
 ·exact⟨200,#[],rfl,enters_of Tryz.func200 (by kernel_rfl) rfl,fun B tb fb m0 m w _ h0 h1 hB=>keep115 B tb fb m0 m w h0 h1 hB⟩
 ·exact⟨203,#[],rfl,enters_of Tryz.func203 (by kernel_rfl) rfl,fun B tb fb m0 m w _ h0 h1 hB=>keep108 B tb fb m0 m w h0 h1 hB⟩
 ·refine⟨218,#[.pointer (some ⟨t7+1,0,none⟩)],rfl,enters_of Tryz.func218 (by kernel_rfl) rfl,fun B tb fb m0 m w ha h0 h1 hB=>(keepP8 B tb fb (t7+1) m0.cells m.cells m.nc _ w h0 h1 rfl rfl ha.a7.2 hB).mono ?_⟩
  rintro e w' ⟨rfl,h2,h3⟩
  exact⟨rfl,h2.trans (show _=some (setF 111 m0 m).box by kernel_rfl),h3⟩
 ·exact⟨209,#[],rfl,enters_of Tryz.func209 (by kernel_rfl) rfl,fun B tb fb m0 m w _ h0 h1 hB=>keep119 B tb fb m0 m w h0 h1 hB⟩
 exact⟨213,#[],rfl,enters_of Tryz.func213 (by kernel_rfl) rfl,fun B tb fb m0 m w _ h0 h1 hB=>keep101 B tb fb m0 m w h0 h1 hB⟩
end Go.Proofs.YtfmmandlmbcncaaGreatDoor.Msg
