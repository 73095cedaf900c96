/-
  A part of the proof.
-/
import Derived.Test.YtgeafnggodkpaaaGreatKabj
import Derived.Test.YtgeafnggodkpaaaGreatKabk
import Derived.Test.YtgeafnggodkpaaaGreatKabf
import Derived.Test.YtgeafnggodkpaaaGreatKaau
import Derived.Test.YtgeafnggodkpaaaGreatKabb
import Derived.Test.YtgeafnggodkpaaaGreatKaab
set_option maxHeartbeats 40000000
namespace Go.Proofs.YtgeafnggodkpaaaGreat.Msg
open Go.RowKit Go.Lib Go.Proofs.YtgeafnggodkpaaaGreat.Mem Go.Proofs.YtgeafnggodkpaaaGreat.Tlv
def mayFb (x:Int)(m:MV)(c:MC):Bool:=
 if x=102 then decide (0≤m.fr)&&decide (m.fr<7)
 else if x=113 then mayOp m.rq.op c.rq
 else if x=114 then mayRes m.rs c.rs
 else if x=108 then !(c.log.any fun u=>!mayOp u.1.op u.2)&&decide (m.ln≤4096)
 else if x=101 then decide (m.hn≤7)
 else true
def GivesFd (x:Int)(m:MV)(c:MC)(w:World)(e:Ending)(w':World):Prop:=∃(l:List UInt8) (ax:Option Addr) (cx:Nat) (ok:Bool),e=.returned (.tuple #[.slice ax l.length cx,.bool ok])∧Rd w' 1 ax l.length cx (byV l)∧Below w.heap.size w w'∧ok=mayFb x m c∧(ok=true→l=fieldL x m c)
theorem rnum_int (t:UInt8)(z:Int)(W:World)(h0:0≤z)(h1:z<18446744073709551616) :
  Calls Tryz.prog 76 #[.int .u8 (t.toNat:Int),.int .u64 z] W (GivesO W (val t (num8 z.toNat))):=by
 have:=rnumber_any t z.toNat W (by omega)
 rw[Int.toNat_of_nonneg h0] at this
 exact this
theorem McAt.op {W:World}{B:Nat}{m:MV}(h:McAt W B m):∀(j:Nat) (v:Value),m.rq.op.cells[j]?=some v→W.cell? ⟨B,8+j,none⟩=some v:=fun j v hv=>by
 have hj:j<7:=by
  have:=(Array.getElem?_eq_some_iff.1 hv).1
  simpa [OV.cells] using this
 have:=h.q (2+j) v (by rcases (by omega:j=0∨j=1∨j=2∨j=3∨j=4∨j=5∨j=6) with rfl|rfl|rfl|rfl|rfl|rfl|rfl<;>exact hv)
 rw[show 6+(2+j)=8+j by omega] at this
 exact this
set_option maxRecDepth 100000 in
theorem rfield_118 (m:MV)(c:MC)(w:World)(hu:U64M m c):Calls Tryz.prog 106 #[m.val,.int .u8 2] w (GivesFd 118 m c w):=by
 have hb0:Below w.heap.size w (w.alloc m.box):=(Below.refl _ _).alloc (Nat.le_refl _) _
 have k0:(w.alloc m.box).heap[w.heap.size]?=some m.box:=by show (w.heap.push _)[w.heap.size]?=some _;exact Array.getElem?_push_size
 unfold MV.box MV.cells at hb0 k0
 unfold MV.val MV.cells
 go_enter Tryz.func106,Tryz.ntmps106
 go_upto_region 1 with fail
 generalize hg:w.alloc _=W0 at *
 have q0:W0.heap[w.heap.size]?=some m.box:=k0
 clear hg k0
 have hpl:=rplain_any m W0
 unfold plainA nums17 at hpl
 unfold MV.val MV.cells at hpl
 have q1:=q0
 unfold MV.box MV.cells at q1
 go_wp2_with (refine wpList_load_row (ty:=74) q1 rfl rfl rfl (by kernel_rfl) (by kernel_rfl) ?_;go_simp)
 refine hpl.mono ?_
 rintro e W1 ⟨rfl,hb1⟩
 have hx:(Instr.index 177 (.agg #[.int .u64 0,.int .u64 0,.int .u64 m.vi,.int .u64 m.no,.int .u64 0,.int .u64 m.cl,.int .u64 m.nu,.int .u64 0,.int .u64 0,.int .u64 m.at_,.int .u64 m.cm,.int .u64 m.bs,.int .u64 0,.int .u64 0,.int .u64 m.nc,.int .u64 0,.int .u64 0]) (.int .u8 2)).run Tryz.prog W1=.ok (.int .u64 m.vi) W1:=by kernel_rfl
 have hc:=rnum_int 2 m.vi W1 hu.vi.1 hu.vi.2
 have hbel:=hb0.trans (hb1.mono hb0.size)
 clear hpl q0 q1 hb0 hb1
 go_wp2_with fail
 refine hc.mono ?_
 rintro e W2 ⟨v2,rfl,o2,hb2⟩
 obtain⟨a2,k2,e2,r2⟩:=Rd.of_own o2
 subst e2
 have hbel2:=hbel.trans (hb2.mono hbel.size)
 clear hc o2 hb2
 go_wp2_with fail
 go_ret2
 exact⟨_,a2,k2,true,rfl,r2,hbel2,rfl,fun _=>rfl⟩
set_option maxRecDepth 100000 in
theorem rfield_110 (m:MV)(c:MC)(w:World)(hu:U64M m c):Calls Tryz.prog 106 #[m.val,.int .u8 3] w (GivesFd 110 m c w):=by
 have hb0:Below w.heap.size w (w.alloc m.box):=(Below.refl _ _).alloc (Nat.le_refl _) _
 have k0:(w.alloc m.box).heap[w.heap.size]?=some m.box:=by show (w.heap.push _)[w.heap.size]?=some _;exact Array.getElem?_push_size
 unfold MV.box MV.cells at hb0 k0
 unfold MV.val MV.cells
 go_enter Tryz.func106,Tryz.ntmps106
 go_upto_region 1 with fail
 generalize hg:w.alloc _=W0 at *
 have q0:W0.heap[w.heap.size]?=some m.box:=k0
 clear hg k0
 have hpl:=rplain_any m W0
 unfold plainA nums17 at hpl
 unfold MV.val MV.cells at hpl
 have q1:=q0
 unfold MV.box MV.cells at q1
 go_wp2_with (refine wpList_load_row (ty:=74) q1 rfl rfl rfl (by kernel_rfl) (by kernel_rfl) ?_;go_simp)
 refine hpl.mono ?_
 rintro e W1 ⟨rfl,hb1⟩
 have hx:(Instr.index 177 (.agg #[.int .u64 0,.int .u64 0,.int .u64 m.vi,.int .u64 m.no,.int .u64 0,.int .u64 m.cl,.int .u64 m.nu,.int .u64 0,.int .u64 0,.int .u64 m.at_,.int .u64 m.cm,.int .u64 m.bs,.int .u64 0,.int .u64 0,.int .u64 m.nc,.int .u64 0,.int .u64 0]) (.int .u8 3)).run Tryz.prog W1=.ok (.int .u64 m.no) W1:=by kernel_rfl
 have hc:=rnum_int 3 m.no W1 hu.no.1 hu.no.2
 have hbel:=hb0.trans (hb1.mono hb0.size)
 clear hpl q0 q1 hb0 hb1
 go_wp2_with fail
 refine hc.mono ?_
 rintro e W2 ⟨v2,rfl,o2,hb2⟩
 obtain⟨a2,k2,e2,r2⟩:=Rd.of_own o2
 subst e2
 have hbel2:=hbel.trans (hb2.mono hbel.size)
 clear hc o2 hb2
 go_wp2_with fail
 go_ret2
 exact⟨_,a2,k2,true,rfl,r2,hbel2,rfl,fun _=>rfl⟩
set_option maxRecDepth 100000 in
theorem rfield_99 (m:MV)(c:MC)(w:World)(hu:U64M m c):Calls Tryz.prog 106 #[m.val,.int .u8 5] w (GivesFd 99 m c w):=by
 have hb0:Below w.heap.size w (w.alloc m.box):=(Below.refl _ _).alloc (Nat.le_refl _) _
 have k0:(w.alloc m.box).heap[w.heap.size]?=some m.box:=by show (w.heap.push _)[w.heap.size]?=some _;exact Array.getElem?_push_size
 unfold MV.box MV.cells at hb0 k0
 unfold MV.val MV.cells
 go_enter Tryz.func106,Tryz.ntmps106
 go_upto_region 1 with fail
 generalize hg:w.alloc _=W0 at *
 have q0:W0.heap[w.heap.size]?=some m.box:=k0
 clear hg k0
 have hpl:=rplain_any m W0
 unfold plainA nums17 at hpl
 unfold MV.val MV.cells at hpl
 have q1:=q0
 unfold MV.box MV.cells at q1
 go_wp2_with (refine wpList_load_row (ty:=74) q1 rfl rfl rfl (by kernel_rfl) (by kernel_rfl) ?_;go_simp)
 refine hpl.mono ?_
 rintro e W1 ⟨rfl,hb1⟩
 have hx:(Instr.index 177 (.agg #[.int .u64 0,.int .u64 0,.int .u64 m.vi,.int .u64 m.no,.int .u64 0,.int .u64 m.cl,.int .u64 m.nu,.int .u64 0,.int .u64 0,.int .u64 m.at_,.int .u64 m.cm,.int .u64 m.bs,.int .u64 0,.int .u64 0,.int .u64 m.nc,.int .u64 0,.int .u64 0]) (.int .u8 5)).run Tryz.prog W1=.ok (.int .u64 m.cl) W1:=by kernel_rfl
 have hc:=rnum_int 5 m.cl W1 hu.cl.1 hu.cl.2
 have hbel:=hb0.trans (hb1.mono hb0.size)
 clear hpl q0 q1 hb0 hb1
 go_wp2_with fail
 refine hc.mono ?_
 rintro e W2 ⟨v2,rfl,o2,hb2⟩
 obtain⟨a2,k2,e2,r2⟩:=Rd.of_own o2
 subst e2
 have hbel2:=hbel.trans (hb2.mono hbel.size)
 clear hc o2 hb2
 go_wp2_with fail
 go_ret2
 exact⟨_,a2,k2,true,rfl,r2,hbel2,rfl,fun _=>rfl⟩
set_option maxRecDepth 100000 in
theorem rfield_117 (m:MV)(c:MC)(w:World)(hu:U64M m c):Calls Tryz.prog 106 #[m.val,.int .u8 6] w (GivesFd 117 m c w):=by
 have hb0:Below w.heap.size w (w.alloc m.box):=(Below.refl _ _).alloc (Nat.le_refl _) _
 have k0:(w.alloc m.box).heap[w.heap.size]?=some m.box:=by show (w.heap.push _)[w.heap.size]?=some _;exact Array.getElem?_push_size
 unfold MV.box MV.cells at hb0 k0
 unfold MV.val MV.cells
 go_enter Tryz.func106,Tryz.ntmps106
 go_upto_region 1 with fail
 generalize hg:w.alloc _=W0 at *
 have q0:W0.heap[w.heap.size]?=some m.box:=k0
 clear hg k0
 have hpl:=rplain_any m W0
 unfold plainA nums17 at hpl
 unfold MV.val MV.cells at hpl
 have q1:=q0
 unfold MV.box MV.cells at q1
 go_wp2_with (refine wpList_load_row (ty:=74) q1 rfl rfl rfl (by kernel_rfl) (by kernel_rfl) ?_;go_simp)
 refine hpl.mono ?_
 rintro e W1 ⟨rfl,hb1⟩
 have hx:(Instr.index 177 (.agg #[.int .u64 0,.int .u64 0,.int .u64 m.vi,.int .u64 m.no,.int .u64 0,.int .u64 m.cl,.int .u64 m.nu,.int .u64 0,.int .u64 0,.int .u64 m.at_,.int .u64 m.cm,.int .u64 m.bs,.int .u64 0,.int .u64 0,.int .u64 m.nc,.int .u64 0,.int .u64 0]) (.int .u8 6)).run Tryz.prog W1=.ok (.int .u64 m.nu) W1:=by kernel_rfl
 have hc:=rnum_int 6 m.nu W1 hu.nu.1 hu.nu.2
 have hbel:=hb0.trans (hb1.mono hb0.size)
 clear hpl q0 q1 hb0 hb1
 go_wp2_with fail
 refine hc.mono ?_
 rintro e W2 ⟨v2,rfl,o2,hb2⟩
 obtain⟨a2,k2,e2,r2⟩:=Rd.of_own o2
 subst e2
 have hbel2:=hbel.trans (hb2.mono hbel.size)
 clear hc o2 hb2
 go_wp2_with fail
 go_ret2
 exact⟨_,a2,k2,true,rfl,r2,hbel2,rfl,fun _=>rfl⟩
set_option maxRecDepth 100000 in
theorem rfield_97 (m:MV)(c:MC)(w:World)(hu:U64M m c):Calls Tryz.prog 106 #[m.val,.int .u8 9] w (GivesFd 97 m c w):=by
 have hb0:Below w.heap.size w (w.alloc m.box):=(Below.refl _ _).alloc (Nat.le_refl _) _
 have k0:(w.alloc m.box).heap[w.heap.size]?=some m.box:=by show (w.heap.push _)[w.heap.size]?=some _;exact Array.getElem?_push_size
 unfold MV.box MV.cells at hb0 k0
 unfold MV.val MV.cells
 go_enter Tryz.func106,Tryz.ntmps106
 go_upto_region 1 with fail
 generalize hg:w.alloc _=W0 at *
 have q0:W0.heap[w.heap.size]?=some m.box:=k0
 clear hg k0
 have hpl:=rplain_any m W0
 unfold plainA nums17 at hpl
 unfold MV.val MV.cells at hpl
 have q1:=q0
 unfold MV.box MV.cells at q1
 go_wp2_with (refine wpList_load_row (ty:=74) q1 rfl rfl rfl (by kernel_rfl) (by kernel_rfl) ?_;go_simp)
 refine hpl.mono ?_
 rintro e W1 ⟨rfl,hb1⟩
 have hx:(Instr.index 177 (.agg #[.int .u64 0,.int .u64 0,.int .u64 m.vi,.int .u64 m.no,.int .u64 0,.int .u64 m.cl,.int .u64 m.nu,.int .u64 0,.int .u64 0,.int .u64 m.at_,.int .u64 m.cm,.int .u64 m.bs,.int .u64 0,.int .u64 0,.int .u64 m.nc,.int .u64 0,.int .u64 0]) (.int .u8 9)).run Tryz.prog W1=.ok (.int .u64 m.at_) W1:=by kernel_rfl
 have hc:=rnum_int 9 m.at_ W1 hu.at_.1 hu.at_.2
 have hbel:=hb0.trans (hb1.mono hb0.size)
 clear hpl q0 q1 hb0 hb1
 go_wp2_with fail
 refine hc.mono ?_
 rintro e W2 ⟨v2,rfl,o2,hb2⟩
 obtain⟨a2,k2,e2,r2⟩:=Rd.of_own o2
 subst e2
 have hbel2:=hbel.trans (hb2.mono hbel.size)
 clear hc o2 hb2
 go_wp2_with fail
 go_ret2
 exact⟨_,a2,k2,true,rfl,r2,hbel2,rfl,fun _=>rfl⟩
set_option maxRecDepth 100000 in
theorem rfield_109 (m:MV)(c:MC)(w:World)(hu:U64M m c):Calls Tryz.prog 106 #[m.val,.int .u8 10] w (GivesFd 109 m c w):=by
 have hb0:Below w.heap.size w (w.alloc m.box):=(Below.refl _ _).alloc (Nat.le_refl _) _
 have k0:(w.alloc m.box).heap[w.heap.size]?=some m.box:=by show (w.heap.push _)[w.heap.size]?=some _;exact Array.getElem?_push_size
 unfold MV.box MV.cells at hb0 k0
 unfold MV.val MV.cells
 go_enter Tryz.func106,Tryz.ntmps106
 go_upto_region 1 with fail
 generalize hg:w.alloc _=W0 at *
 have q0:W0.heap[w.heap.size]?=some m.box:=k0
 clear hg k0
 have hpl:=rplain_any m W0
 unfold plainA nums17 at hpl
 unfold MV.val MV.cells at hpl
 have q1:=q0
 unfold MV.box MV.cells at q1
 go_wp2_with (refine wpList_load_row (ty:=74) q1 rfl rfl rfl (by kernel_rfl) (by kernel_rfl) ?_;go_simp)
 refine hpl.mono ?_
 rintro e W1 ⟨rfl,hb1⟩
 have hx:(Instr.index 177 (.agg #[.int .u64 0,.int .u64 0,.int .u64 m.vi,.int .u64 m.no,.int .u64 0,.int .u64 m.cl,.int .u64 m.nu,.int .u64 0,.int .u64 0,.int .u64 m.at_,.int .u64 m.cm,.int .u64 m.bs,.int .u64 0,.int .u64 0,.int .u64 m.nc,.int .u64 0,.int .u64 0]) (.int .u8 10)).run Tryz.prog W1=.ok (.int .u64 m.cm) W1:=by kernel_rfl
 have hc:=rnum_int 10 m.cm W1 hu.cm.1 hu.cm.2
 have hbel:=hb0.trans (hb1.mono hb0.size)
 clear hpl q0 q1 hb0 hb1
 go_wp2_with fail
 refine hc.mono ?_
 rintro e W2 ⟨v2,rfl,o2,hb2⟩
 obtain⟨a2,k2,e2,r2⟩:=Rd.of_own o2
 subst e2
 have hbel2:=hbel.trans (hb2.mono hbel.size)
 clear hc o2 hb2
 go_wp2_with fail
 go_ret2
 exact⟨_,a2,k2,true,rfl,r2,hbel2,rfl,fun _=>rfl⟩
set_option maxRecDepth 100000 in
theorem rfield_98 (m:MV)(c:MC)(w:World)(hu:U64M m c):Calls Tryz.prog 106 #[m.val,.int .u8 11] w (GivesFd 98 m c w):=by
 have hb0:Below w.heap.size w (w.alloc m.box):=(Below.refl _ _).alloc (Nat.le_refl _) _
 have k0:(w.alloc m.box).heap[w.heap.size]?=some m.box:=by show (w.heap.push _)[w.heap.size]?=some _;exact Array.getElem?_push_size
 unfold MV.box MV.cells at hb0 k0
 unfold MV.val MV.cells
 go_enter Tryz.func106,Tryz.ntmps106
 go_upto_region 1 with fail
 generalize hg:w.alloc _=W0 at *
 have q0:W0.heap[w.heap.size]?=some m.box:=k0
 clear hg k0
 have hpl:=rplain_any m W0
 unfold plainA nums17 at hpl
 unfold MV.val MV.cells at hpl
 have q1:=q0
 unfold MV.box MV.cells at q1
 go_wp2_with (refine wpList_load_row (ty:=74) q1 rfl rfl rfl (by kernel_rfl) (by kernel_rfl) ?_;go_simp)
 refine hpl.mono ?_
 rintro e W1 ⟨rfl,hb1⟩
 have hx:(Instr.index 177 (.agg #[.int .u64 0,.int .u64 0,.int .u64 m.vi,.int .u64 m.no,.int .u64 0,.int .u64 m.cl,.int .u64 m.nu,.int .u64 0,.int .u64 0,.int .u64 m.at_,.int .u64 m.cm,.int .u64 m.bs,.int .u64 0,.int .u64 0,.int .u64 m.nc,.int .u64 0,.int .u64 0]) (.int .u8 11)).run Tryz.prog W1=.ok (.int .u64 m.bs) W1:=by kernel_rfl
 have hc:=rnum_int 11 m.bs W1 hu.bs.1 hu.bs.2
 have hbel:=hb0.trans (hb1.mono hb0.size)
 clear hpl q0 q1 hb0 hb1
 go_wp2_with fail
 refine hc.mono ?_
 rintro e W2 ⟨v2,rfl,o2,hb2⟩
 obtain⟨a2,k2,e2,r2⟩:=Rd.of_own o2
 subst e2
 have hbel2:=hbel.trans (hb2.mono hbel.size)
 clear hc o2 hb2
 go_wp2_with fail
 go_ret2
 exact⟨_,a2,k2,true,rfl,r2,hbel2,rfl,fun _=>rfl⟩
set_option maxRecDepth 100000 in
theorem rfield_111 (m:MV)(c:MC)(w:World)(hu:U64M m c):Calls Tryz.prog 106 #[m.val,.int .u8 14] w (GivesFd 111 m c w):=by
 have hb0:Below w.heap.size w (w.alloc m.box):=(Below.refl _ _).alloc (Nat.le_refl _) _
 have k0:(w.alloc m.box).heap[w.heap.size]?=some m.box:=by show (w.heap.push _)[w.heap.size]?=some _;exact Array.getElem?_push_size
 unfold MV.box MV.cells at hb0 k0
 unfold MV.val MV.cells
 go_enter Tryz.func106,Tryz.ntmps106
 go_upto_region 1 with fail
 generalize hg:w.alloc _=W0 at *
 have q0:W0.heap[w.heap.size]?=some m.box:=k0
 clear hg k0
 have hpl:=rplain_any m W0
 unfold plainA nums17 at hpl
 unfold MV.val MV.cells at hpl
 have q1:=q0
 unfold MV.box MV.cells at q1
 go_wp2_with (refine wpList_load_row (ty:=74) q1 rfl rfl rfl (by kernel_rfl) (by kernel_rfl) ?_;go_simp)
 refine hpl.mono ?_
 rintro e W1 ⟨rfl,hb1⟩
 have hx:(Instr.index 177 (.agg #[.int .u64 0,.int .u64 0,.int .u64 m.vi,.int .u64 m.no,.int .u64 0,.int .u64 m.cl,.int .u64 m.nu,.int .u64 0,.int .u64 0,.int .u64 m.at_,.int .u64 m.cm,.int .u64 m.bs,.int .u64 0,.int .u64 0,.int .u64 m.nc,.int .u64 0,.int .u64 0]) (.int .u8 14)).run Tryz.prog W1=.ok (.int .u64 m.nc) W1:=by kernel_rfl
 have hc:=rnum_int 14 m.nc W1 hu.nc.1 hu.nc.2
 have hbel:=hb0.trans (hb1.mono hb0.size)
 clear hpl q0 q1 hb0 hb1
 go_wp2_with fail
 refine hc.mono ?_
 rintro e W2 ⟨v2,rfl,o2,hb2⟩
 obtain⟨a2,k2,e2,r2⟩:=Rd.of_own o2
 subst e2
 have hbel2:=hbel.trans (hb2.mono hbel.size)
 clear hc o2 hb2
 go_wp2_with fail
 go_ret2
 exact⟨_,a2,k2,true,rfl,r2,hbel2,rfl,fun _=>rfl⟩
set_option maxRecDepth 100000 in
theorem rfield_119 (m:MV)(c:MC)(w:World):Calls Tryz.prog 106 #[m.val,.int .u8 15] w (GivesFd 119 m c w):=by
 have hb0:Below w.heap.size w (w.alloc m.box):=(Below.refl _ _).alloc (Nat.le_refl _) _
 have k0:(w.alloc m.box).heap[w.heap.size]?=some m.box:=by show (w.heap.push _)[w.heap.size]?=some _;exact Array.getElem?_push_size
 unfold MV.box MV.cells at hb0 k0
 unfold MV.val MV.cells
 go_enter Tryz.func106,Tryz.ntmps106
 go_upto_region 1 with fail
 generalize hg:w.alloc _=W0 at *
 have q0:W0.heap[w.heap.size]?=some m.box:=k0
 clear hg k0
 have c25:=(McAt.of q0).c25
 have hv:=rflag_any 15 m.wh W0
 obtain⟨L,hL⟩:∃L,val 15 [if m.wh then 1 else 0]=L:=⟨_,rfl⟩
 rw[hL] at hv
 have HL:Hid (fieldL 119 m c=L):=hid hL
 clear hL
 go_wp2_with fail
 refine hv.mono ?_
 rintro e W2 ⟨v2,rfl,o2,hb2⟩
 obtain⟨a2,k2,e2,r2⟩:=Rd.of_own o2
 subst e2
 have hbel2:=hb0.trans (hb2.mono hb0.size)
 clear o2 hb2 c25 q0 hv
 go_wp2_with fail
 go_ret2
 exact⟨L,a2,k2,true,rfl,r2,hbel2,rfl,fun _=>HL.out.symm⟩
set_option maxRecDepth 100000 in
theorem rfield_113 (m:MV)(c:MC)(w:World)(h:MAt w m c)(hu:U64M m c):Calls Tryz.prog 106 #[m.val,.int .u8 7] w (GivesFd 113 m c w):=by
 have hb0:Below w.heap.size w (w.alloc m.box):=(Below.refl _ _).alloc (Nat.le_refl _) _
 have k0:(w.alloc m.box).heap[w.heap.size]?=some m.box:=by show (w.heap.push _)[w.heap.size]?=some _;exact Array.getElem?_push_size
 unfold MV.box MV.cells at hb0 k0
 unfold MV.val MV.cells
 go_enter Tryz.func106,Tryz.ntmps106
 go_upto_region 1 with fail
 generalize hg:w.alloc _=W0 at *
 have q0:W0.heap[w.heap.size]?=some m.box:=k0
 clear hg k0
 have hop:=(McAt.of q0).op
 unfold OV.cells at hop
 have hm0:=rMayOp_any m.rq.op c.rq W0 (h.later hb0).rq
 unfold OV.val at hm0
 go_wp2_with (refine wpList_load_at (ty:=27) hop rfl rfl rfl (by kernel_rfl) (by kernel_rfl) ?_;go_simp)
 refine hm0.mono ?_
 rintro e W1 ⟨rfl,hb1⟩
 have q1:=mbox_step q0 hb1
 have hbel:=hb0.trans (hb1.mono hb0.size)
 clear hm0 hop q0 hb0 hb1
 cases hm:mayOp m.rq.op c.rq with
 | false=>
  have HM:Hid (mayFb 113 m c=false):=hid hm
  clear hm
  go_wp2_with fail
  go_ret2
  exact⟨[],none,0,false,rfl,Rd.nil _ _,hbel,HM.out.symm,fun e=>by cases e⟩
 | true=>
  have HM:Hid (mayFb 113 m c=true):=hid hm
  have hr:=rReqBytes_any m.rq c.rq W1 (h.later hbel).rq hm hu.rq.c0 hu.rq.c1 hu.rq.n0 hu.rq.n1
  rw[opBy_yes hm] at hr
  have hlen:(reqL m.rq (opL m.rq.op c.rq)).length≤4194304:=by rw[reqL_len];have:=opL_len h.rq hm;omega
  have hq:=(McAt.of q1).q
  unfold RV.cells at hq
  unfold RV.val RV.cells at hr
  obtain⟨Z,hZ⟩:∃Z,reqL m.rq (opL m.rq.op c.rq)=Z:=⟨_,rfl⟩
  rw[hZ] at hr hlen
  have HZ:Hid (fieldL 113 m c=val 7 Z):=hid (by rw[←hZ];rfl)
  clear hm hZ
  go_wp2_with (refine wpList_load_at (ty:=43) hq rfl rfl rfl (by kernel_rfl) (by kernel_rfl) ?_;go_simp)
  refine hr.mono ?_
  rintro e W2 ⟨v2,rfl,o2,hb2⟩
  obtain⟨a2,k2,e2,r2⟩:=Rd.of_own o2
  subst e2
  have hbel2:=hbel.trans (hb2.mono hbel.size)
  have hv:=rvalue_any 7 Z a2 _ k2 W2 hlen r2
  clear hr hq q1 o2 hb2 hbel r2
  go_wp2_with fail
  refine hv.mono ?_
  rintro e W3 ⟨v3,rfl,o3,hb3⟩
  obtain⟨a3,k3,e3,r3⟩:=Rd.of_own o3
  subst e3
  have hbel3:=hbel2.trans (hb3.mono hbel2.size)
  clear hv o3 hb3
  go_wp2_with fail
  go_ret2
  exact⟨_,a3,k3,true,rfl,r3,hbel3,HM.out.symm,fun _=>HZ.out.symm⟩
set_option maxRecDepth 100000 in
theorem rfield_114 (m:MV)(c:MC)(w:World)(h:MAt w m c)(hf:FitsM m c):Calls Tryz.prog 106 #[m.val,.int .u8 8] w (GivesFd 114 m c w):=by
 have hb0:Below w.heap.size w (w.alloc m.box):=(Below.refl _ _).alloc (Nat.le_refl _) _
 have k0:(w.alloc m.box).heap[w.heap.size]?=some m.box:=by show (w.heap.push _)[w.heap.size]?=some _;exact Array.getElem?_push_size
 unfold MV.box MV.cells at hb0 k0
 unfold MV.val MV.cells
 go_enter Tryz.func106,Tryz.ntmps106
 go_upto_region 1 with fail
 generalize hg:w.alloc _=W0 at *
 have q0:W0.heap[w.heap.size]?=some m.box:=k0
 clear hg k0
 have hrg:=(McAt.of q0).r
 unfold QV.cells at hrg
 have hm0:=rResBytes_any m.rs c.rs W0 (h.later hb0).rs hf.rs
 unfold QV.val QV.cells at hm0
 go_wp2_with (refine wpList_load_at (ty:=58) hrg rfl rfl rfl (by kernel_rfl) (by kernel_rfl) ?_;go_simp)
 refine hm0.mono ?_
 rintro e W1 ⟨l,ax,cx,ok,rfl,r1,hb1,h1,h2⟩
 have hbel:=hb0.trans (hb1.mono hb0.size)
 clear hm0 hrg q0 hb0 hb1
 cases hm:mayRes m.rs c.rs with
 | false=>
  obtain⟨rfl,rfl⟩:=h2 hm
  have HM:Hid (mayFb 114 m c=false):=hid hm
  have hv:=rvalue_any 8 [] ax 0 cx W1 (by decide) r1
  clear hm h1 h2
  go_wp2_with fail
  refine hv.mono ?_
  rintro e W2 ⟨v2,rfl,o2,hb2⟩
  obtain⟨a2,k2,e2,r2⟩:=Rd.of_own o2
  subst e2
  have hbel2:=hbel.trans (hb2.mono hbel.size)
  clear hv o2 hb2
  go_wp2_with fail
  go_ret2
  exact⟨val 8 [],a2,k2,false,rfl,r2,hbel2,HM.out.symm,fun e=>by cases e⟩
 | true=>
  obtain⟨hl,rfl⟩:=h1 hm
  have HM:Hid (mayFb 114 m c=true):=hid hm
  have HL:Hid (fieldL 114 m c=val 8 l):=hid (by rw[hl];rfl)
  have hl4:l.length≤4194304:=by rw[hl];exact hf.rl hm
  have hv:=rvalue_any 8 l ax _ cx W1 hl4 r1
  have f1:decide ((l.length:Int)≤4194304)=true:=decide_eq_true (by omega)
  clear hm h1 h2 hl hl4
  go_wp2_with fail
  refine hv.mono ?_
  rintro e W2 ⟨v2,rfl,o2,hb2⟩
  obtain⟨a2,k2,e2,r2⟩:=Rd.of_own o2
  subst e2
  have hbel2:=hbel.trans (hb2.mono hbel.size)
  clear hv o2 hb2
  go_wp2_with fail
  go_ret2
  exact⟨val 8 l,a2,k2,true,rfl,r2,hbel2,HM.out.symm,fun _=>HL.out.symm⟩
set_option maxRecDepth 100000 in
theorem rfield_115 (m:MV)(c:MC)(w:World)(h:MAt w m c)(hs:m.sn≤4194304):Calls Tryz.prog 106 #[m.val,.int .u8 12] w (GivesFd 115 m c w):=by
 have hb0:Below w.heap.size w (w.alloc m.box):=(Below.refl _ _).alloc (Nat.le_refl _) _
 have k0:(w.alloc m.box).heap[w.heap.size]?=some m.box:=by show (w.heap.push _)[w.heap.size]?=some _;exact Array.getElem?_push_size
 unfold MV.box MV.cells at hb0 k0
 unfold MV.val MV.cells
 go_enter Tryz.func106,Tryz.ntmps106
 go_upto_region 1 with fail
 generalize hg:w.alloc _=W0 at *
 have q0:W0.heap[w.heap.size]?=some m.box:=k0
 clear hg k0
 have hmo:Tryz.prog.follows .mixedOrders=true:=by kernel_rfl
 have f1:decide ((m.sn:Int)≤4194304)=true:=decide_eq_true (by omega)
 go_upto_region 12 with fail
 refine wp_region_held (S:=fun W=>W.heap[w.heap.size]?=some m.box) hmo ?_
 change wpAnyH _ _ _ _ _ _ _ _ (World.drew W0)
 have hd:Below W0.heap.size W0 W0.drew:=(Below.refl _ _).drew
 have s0:=mbox_step q0 hd
 have hbel:=hb0.trans (hd.mono hb0.size)
 generalize World.drew W0=X0 at *
 have hv:=rvalue_any 12 c.snap m.so m.sn m.sc X0 hs (h.later hbel).sn
 have HS:=hid hs
 clear hd q0 hs
 refine zHp 0 (.pointer (some ⟨w.heap.size,22,none⟩)) rfl s0 ?_
 go_simp
 refine zHa 1 (.slice m.so m.sn m.sc) rfl (by rintro w2 h2;have cc:w2.cell? ⟨w.heap.size,22,none⟩=some (.slice m.so m.sn m.sc):=(McAt.of h2).c22;go_simp) s0 ?_
 go_simp
 refine zHp 3 (.pointer (some ⟨w.heap.size,22,none⟩)) rfl s0 ?_
 go_simp
 refine zHa 4 (.slice m.so m.sn m.sc) rfl (by rintro w2 h2;have cc:w2.cell? ⟨w.heap.size,22,none⟩=some (.slice m.so m.sn m.sc):=(McAt.of h2).c22;go_simp) s0 ?_
 go_simp
 refine zHp 5 (.int .i64 (m.sn:Int)) rfl s0 ?_
 go_simp
 refine zHp 6 (.bool (decide ((m.sn:Int)≤4194304))) rfl s0 ?_
 go_simp
 refine zH1 2 rfl (fun K hK=>?_)
 go_simp
 refine hv.mono ?_
 rintro e X1 ⟨v2,rfl,o2,hb2⟩
 obtain⟨a2,k2,e2,r2⟩:=Rd.of_own o2
 subst e2
 have s1:=mbox_step s0 hb2
 have hbel2:=hbel.trans (hb2.mono hbel.size)
 clear o2 hb2 hv
 go_simp
 refine hK _ _ ⟨s1,?_⟩
 clear hK K
 refine zHp 7 (.slice a2 (val 12 c.snap).length k2) rfl s1 ?_
 go_simp
 refine zHp 8 (.bool true) rfl s1 ?_
 go_simp
 refine wpAnyH_done (by kernel_rfl) ?_ _
 go_wp2_with fail
 go_ret2
 exact⟨_,a2,k2,true,rfl,r2,hbel2,rfl,fun _=>rfl⟩
set_option maxRecDepth 100000 in
theorem rfield_102 (m:MV)(c:MC)(w:World):Calls Tryz.prog 106 #[m.val,.int .u8 4] w (GivesFd 102 m c w):=by
 have hb0:Below w.heap.size w (w.alloc m.box):=(Below.refl _ _).alloc (Nat.le_refl _) _
 have k0:(w.alloc m.box).heap[w.heap.size]?=some m.box:=by show (w.heap.push _)[w.heap.size]?=some _;exact Array.getElem?_push_size
 unfold MV.box MV.cells at hb0 k0
 unfold MV.val MV.cells
 go_enter Tryz.func106,Tryz.ntmps106
 go_upto_region 1 with fail
 generalize hg:w.alloc _=W0 at *
 have q0:W0.heap[w.heap.size]?=some m.box:=k0
 clear hg k0
 have hmo:Tryz.prog.follows .mixedOrders=true:=by kernel_rfl
 go_upto_region 3 with fail
 refine wp_region_held (S:=fun W=>W.heap[w.heap.size]?=some m.box) hmo ?_
 change wpAnyH _ _ _ _ _ _ _ _ (World.drew W0)
 have hd:Below W0.heap.size W0 W0.drew:=(Below.refl _ _).drew
 have s0:=mbox_step q0 hd
 have hbel:=hb0.trans (hd.mono hb0.size)
 generalize World.drew W0=X0 at *
 have hw:0≤IntKind.wrap .u64 m.fr∧IntKind.wrap .u64 m.fr<18446744073709551616:=by rw[IntKind.wrap_u64];omega
 have hc:=rnum_int 4 (IntKind.wrap .u64 m.fr) X0 hw.1 hw.2
 clear hd q0 hw
 by_cases h0:0≤m.fr
 ·have f0:decide (0≤m.fr)=true:=decide_eq_true h0
  by_cases h7:m.fr<7
  ·have f7:decide (m.fr<7)=true:=decide_eq_true h7
   have HE:Hid (mayFb 102 m c=true∧val 4 (num8 (IntKind.wrap .u64 m.fr).toNat)=fieldL 102 m c):=hid ⟨by unfold mayFb;simp[h0,h7],by rw[show IntKind.wrap .u64 m.fr=m.fr by rw[IntKind.wrap_u64];omega];rfl⟩
   clear h0 h7
   refine zHp 0 (.pointer (some ⟨w.heap.size,3,none⟩)) rfl s0 ?_
   go_simp
   refine zHa 1 (.int .i64 m.fr) rfl (by rintro w2 h2;have cc:w2.cell? ⟨w.heap.size,3,none⟩=some (.int .i64 m.fr):=(McAt.of h2).c3;go_simp) s0 ?_
   go_simp
   refine zHp 2 (.int .u64 (IntKind.wrap .u64 m.fr)) rfl s0 ?_
   go_simp
   refine zHp 4 (.pointer (some ⟨w.heap.size,3,none⟩)) rfl s0 ?_
   go_simp
   refine zHa 5 (.int .i64 m.fr) rfl (by rintro w2 h2;have cc:w2.cell? ⟨w.heap.size,3,none⟩=some (.int .i64 m.fr):=(McAt.of h2).c3;go_simp) s0 ?_
   go_simp
   refine zHp 6 (.bool (decide (0≤m.fr))) rfl s0 ?_
   go_simp
   refine zH1 3 rfl (fun K hK=>?_)
   go_simp
   refine hc.mono ?_
   rintro e X1 ⟨v2,rfl,o2,hb2⟩
   obtain⟨a2,k2,e2,r2⟩:=Rd.of_own o2
   subst e2
   have s1:=mbox_step s0 hb2
   have hbel2:=hbel.trans (hb2.mono hbel.size)
   clear o2 hb2 hc
   go_simp
   refine hK _ _ ⟨s1,?_⟩
   clear hK K
   refine zHp 7 (.bool true) rfl s1 ?_
   go_simp
   refine zHp 8 (.pointer (some ⟨w.heap.size,3,none⟩)) rfl s1 ?_
   go_simp
   refine zHa 9 (.int .i64 m.fr) rfl (by rintro w2 h2;have cc:w2.cell? ⟨w.heap.size,3,none⟩=some (.int .i64 m.fr):=(McAt.of h2).c3;go_simp) s1 ?_
   go_simp
   refine zHp 10 (.bool (decide (m.fr<7))) rfl s1 ?_
   go_simp
   refine zHp 11 (.bool true) rfl s1 ?_
   go_simp
   refine zHp 12 (.slice a2 (val 4 (num8 (IntKind.wrap .u64 m.fr).toNat)).length k2) rfl s1 ?_
   go_simp
   refine zHp 13 (.bool true) rfl s1 ?_
   go_simp
   refine wpAnyH_done (by kernel_rfl) ?_ _
   go_wp2_with fail
   go_ret2
   exact⟨_,a2,k2,true,rfl,r2,hbel2,HE.out.1.symm,fun _=>HE.out.2⟩
  have f7:decide (m.fr<7)=false:=decide_eq_false h7
  have HE:Hid (mayFb 102 m c=false):=hid (by unfold mayFb;simp[h7])
  clear h0 h7
  refine zHp 0 (.pointer (some ⟨w.heap.size,3,none⟩)) rfl s0 ?_
  go_simp
  refine zHa 1 (.int .i64 m.fr) rfl (by rintro w2 h2;have cc:w2.cell? ⟨w.heap.size,3,none⟩=some (.int .i64 m.fr):=(McAt.of h2).c3;go_simp) s0 ?_
  go_simp
  refine zHp 2 (.int .u64 (IntKind.wrap .u64 m.fr)) rfl s0 ?_
  go_simp
  refine zHp 4 (.pointer (some ⟨w.heap.size,3,none⟩)) rfl s0 ?_
  go_simp
  refine zHa 5 (.int .i64 m.fr) rfl (by rintro w2 h2;have cc:w2.cell? ⟨w.heap.size,3,none⟩=some (.int .i64 m.fr):=(McAt.of h2).c3;go_simp) s0 ?_
  go_simp
  refine zHp 6 (.bool (decide (0≤m.fr))) rfl s0 ?_
  go_simp
  refine zH1 3 rfl (fun K hK=>?_)
  go_simp
  refine hc.mono ?_
  rintro e X1 ⟨v2,rfl,o2,hb2⟩
  obtain⟨a2,k2,e2,r2⟩:=Rd.of_own o2
  subst e2
  have s1:=mbox_step s0 hb2
  have hbel2:=hbel.trans (hb2.mono hbel.size)
  clear o2 hb2 hc
  go_simp
  refine hK _ _ ⟨s1,?_⟩
  clear hK K
  refine zHp 7 (.bool true) rfl s1 ?_
  go_simp
  refine zHp 8 (.pointer (some ⟨w.heap.size,3,none⟩)) rfl s1 ?_
  go_simp
  refine zHa 9 (.int .i64 m.fr) rfl (by rintro w2 h2;have cc:w2.cell? ⟨w.heap.size,3,none⟩=some (.int .i64 m.fr):=(McAt.of h2).c3;go_simp) s1 ?_
  go_simp
  refine zHp 10 (.bool (decide (m.fr<7))) rfl s1 ?_
  go_simp
  refine zHp 11 (.bool false) rfl s1 ?_
  go_simp
  refine zHp 12 (.slice a2 (val 4 (num8 (IntKind.wrap .u64 m.fr).toNat)).length k2) rfl s1 ?_
  go_simp
  refine zHp 13 (.bool false) rfl s1 ?_
  go_simp
  refine wpAnyH_done (by kernel_rfl) ?_ _
  go_wp2_with fail
  go_ret2
  exact⟨_,a2,k2,false,rfl,r2,hbel2,HE.out.symm,fun e=>by cases e⟩
 have f0:decide (0≤m.fr)=false:=decide_eq_false h0
 have HE:Hid (mayFb 102 m c=false):=hid (by unfold mayFb;simp[h0])
 clear h0
 refine zHp 0 (.pointer (some ⟨w.heap.size,3,none⟩)) rfl s0 ?_
 go_simp
 refine zHa 1 (.int .i64 m.fr) rfl (by rintro w2 h2;have cc:w2.cell? ⟨w.heap.size,3,none⟩=some (.int .i64 m.fr):=(McAt.of h2).c3;go_simp) s0 ?_
 go_simp
 refine zHp 2 (.int .u64 (IntKind.wrap .u64 m.fr)) rfl s0 ?_
 go_simp
 refine zHp 4 (.pointer (some ⟨w.heap.size,3,none⟩)) rfl s0 ?_
 go_simp
 refine zHa 5 (.int .i64 m.fr) rfl (by rintro w2 h2;have cc:w2.cell? ⟨w.heap.size,3,none⟩=some (.int .i64 m.fr):=(McAt.of h2).c3;go_simp) s0 ?_
 go_simp
 refine zHp 6 (.bool (decide (0≤m.fr))) rfl s0 ?_
 go_simp
 refine zH1 3 rfl (fun K hK=>?_)
 go_simp
 refine hc.mono ?_
 rintro e X1 ⟨v2,rfl,o2,hb2⟩
 obtain⟨a2,k2,e2,r2⟩:=Rd.of_own o2
 subst e2
 have s1:=mbox_step s0 hb2
 have hbel2:=hbel.trans (hb2.mono hbel.size)
 clear o2 hb2 hc
 go_simp
 refine hK _ _ ⟨s1,?_⟩
 clear hK K
 refine zHp 7 (.bool false) rfl s1 ?_
 go_simp
 refine zHo 8 rfl s1 ?_
 go_simp
 refine zHo 9 rfl s1 ?_
 go_simp
 refine zHo 10 rfl s1 ?_
 go_simp
 refine zHp 11 (.bool false) rfl s1 ?_
 go_simp
 refine zHp 12 (.slice a2 (val 4 (num8 (IntKind.wrap .u64 m.fr).toNat)).length k2) rfl s1 ?_
 go_simp
 refine zHp 13 (.bool false) rfl s1 ?_
 go_simp
 refine wpAnyH_done (by kernel_rfl) ?_ _
 go_wp2_with fail
 go_ret2
 exact⟨_,a2,k2,false,rfl,r2,hbel2,HE.out.symm,fun e=>by cases e⟩
end Go.Proofs.YtgeafnggodkpaaaGreat.Msg
