/-
  A part of the proof.
-/
import Derived.Test.YtgeafnggodkpaaaGreatKaad
set_option maxHeartbeats 40000000
namespace Go.Proofs.YtgeafnggodkpaaaGreat.Msg
open Go.RowKit Go.Proofs.YtgeafnggodkpaaaGreat.Mem
def GivesCp (w:World)(size:Nat)(xs:List Value)(n:Nat)(ao0:Option Addr)(e:Ending)(w':World):Prop:=
 ∃ao cap,e=.returned (.slice ao n cap)∧Rd w' size ao n cap xs∧Below w.heap.size w w'∧(∀a,ao=some a→w.heap.size≤a.block)∧(ao0=none→ao=none∧cap=0)
theorem txV_one (l:List ByteArray):∀u∈txV l,u.oneCell'=true:=by
 intro u hu;simp only[txV,List.mem_map] at hu;obtain⟨c,_,rfl⟩:=hu;rfl
theorem atV_one (l:List (ByteArray×ByteArray)):∀u∈atV l,u.oneCell'=true:=by
 intro u hu;simp only[atV,List.mem_flatMap,List.mem_cons,List.not_mem_nil,or_false] at hu;obtain⟨c,_,rfl|rfl⟩:=hu<;>rfl
theorem gives_cp {w w1:World}{t:TypeId}{size:Nat}{xs:List Value}{n:Nat}{a0:Addr}{ao:Option Addr}{cap:Nat}(ho:w1.ownsRow w.heap.size t size (.slice ao (0+n) cap) (0+n) ([]++xs))(hb:Below w.heap.size w w1):GivesCp w size xs n (some a0) (.returned (.slice ao n cap)) w1:=by
 rw[Nat.zero_add,List.nil_append] at ho
 refine⟨ao,cap,rfl,Rd.of_own_slice ho,hb,fun a ha=>?_,fun h=>by cases h⟩
 rcases ho.2 with ⟨h,_⟩ | ⟨g,c,cur,h,hg,_⟩
 ·have:=(Value.slice.inj h).1;rw[ha] at this;cases this
 have:=(Value.slice.inj h).1;rw[ha] at this;cases this;exact hg
theorem sliceT_txt:SliceT Tryz.prog 24 9 (.string ⟨#[]⟩) 1 16:=⟨Tryz.underlying24,by kernel_rfl,rfl,by decide⟩
set_option maxRecDepth 100000 in
theorem clone_txt (ao:Option Addr)(n cap:Nat)(l:List ByteArray)(w:World)(hr:Rd w 1 ao n cap (txV l))(hn:n≤1000000000) :
  Calls Tryz.prog 130 #[.slice ao n cap] w (GivesCp w 1 (txV l) n ao):=by
 cases ao with
 | none=>
  have hc:=hr.2.2.2.1 rfl
  obtain⟨h0,hx⟩:=hr.empty hc
  subst hc;subst h0
  have hn0:Sem.run Tryz.prog (binOp BinOp.eql 24 (.slice none 0 0) (.slice none 0 0)) w=.ok (.bool true) w:=by kernel_rfl
  go_enter Tryz.func130,Tryz.ntmps130
  go_wp2
  go_ret
  exact⟨none,0,rfl,hr,Below.refl _ _,(fun a ha=>by cases ha),fun _=>⟨rfl,rfl⟩⟩
 | some a=>
  have hn0:Sem.run Tryz.prog (binOp BinOp.eql 24 (.slice (some a) n cap) (.slice none 0 0)) w=.ok (.bool false) w:=by kernel_rfl
  go_enter Tryz.func130,Tryz.ntmps130
  have ho0:(w.alloc (.cells #[] 9)).ownsRow w.heap.size 9 1 (.slice (some ⟨w.heap.size,0,none⟩) 0 0) 0 []:=by
   refine⟨rfl,.inr ⟨w.heap.size,0,#[],rfl,?_⟩⟩
   exact⟨Nat.le_refl _,(by show (w.heap.push _)[w.heap.size]?=some _;simp),Nat.le_refl _,Nat.zero_le _,rfl,rfl⟩
  go_wp2_with (at_builtin;refine wpList_app _ rfl (.tmp 5) (.tmp 6) 24 rfl w.heap.size 9 (.string ⟨#[]⟩) 1 16 sliceT_txt _ 0 [] rfl ho0 (some a) n cap (txV l) rfl (hr.later ((Below.refl _ w).alloc (Nat.le_refl _) _)) (txV_one _) (by unfold maxLen;omega) (by omega) (by simp) ?_;intro ao' cap' w1 ho1 _ hb1 _)
  go_ret
  exact gives_cp ho1 (((Below.refl _ w).alloc (Nat.le_refl _) _).trans hb1)
theorem sliceT_byt:SliceT Tryz.prog 25 5 (.int .u8 0) 1 1:=⟨Tryz.underlying25,by kernel_rfl,rfl,by decide⟩
set_option maxRecDepth 100000 in
theorem clone_byt (ao:Option Addr)(n cap:Nat)(l:List UInt8)(w:World)(hr:Rd w 1 ao n cap (byV l))(hn:n≤1000000000) :
  Calls Tryz.prog 102 #[.slice ao n cap] w (GivesCp w 1 (byV l) n ao):=by
 cases ao with
 | none=>
  have hc:=hr.2.2.2.1 rfl
  obtain⟨h0,hx⟩:=hr.empty hc
  subst hc;subst h0
  have hn0:Sem.run Tryz.prog (binOp BinOp.eql 25 (.slice none 0 0) (.slice none 0 0)) w=.ok (.bool true) w:=by kernel_rfl
  go_enter Tryz.func102,Tryz.ntmps102
  go_wp2
  go_ret
  exact⟨none,0,rfl,hr,Below.refl _ _,(fun a ha=>by cases ha),fun _=>⟨rfl,rfl⟩⟩
 | some a=>
  have hn0:Sem.run Tryz.prog (binOp BinOp.eql 25 (.slice (some a) n cap) (.slice none 0 0)) w=.ok (.bool false) w:=by kernel_rfl
  go_enter Tryz.func102,Tryz.ntmps102
  have ho0:(w.alloc (.cells #[] 5)).ownsRow w.heap.size 5 1 (.slice (some ⟨w.heap.size,0,none⟩) 0 0) 0 []:=by
   refine⟨rfl,.inr ⟨w.heap.size,0,#[],rfl,?_⟩⟩
   exact⟨Nat.le_refl _,(by show (w.heap.push _)[w.heap.size]?=some _;simp),Nat.le_refl _,Nat.zero_le _,rfl,rfl⟩
  go_wp2_with (at_builtin;refine wpList_app _ rfl (.tmp 5) (.tmp 6) 25 rfl w.heap.size 5 (.int .u8 0) 1 1 sliceT_byt _ 0 [] rfl ho0 (some a) n cap (byV l) rfl (hr.later ((Below.refl _ w).alloc (Nat.le_refl _) _)) (byV_one _) (by unfold maxLen;omega) (by omega) (by simp) ?_;intro ao' cap' w1 ho1 _ hb1 _)
  go_ret
  exact gives_cp ho1 (((Below.refl _ w).alloc (Nat.le_refl _) _).trans hb1)
theorem sliceT_att:SliceT Tryz.prog 23 53 (.agg #[.string ⟨#[]⟩,.string ⟨#[]⟩]) 2 32:=⟨Tryz.underlying23,by kernel_rfl,rfl,by decide⟩
set_option maxRecDepth 100000 in
theorem clone_att (ao:Option Addr)(n cap:Nat)(l:List (ByteArray×ByteArray))(w:World)(hr:Rd w 2 ao n cap (atV l))(hn:n≤1000000000) :
  Calls Tryz.prog 129 #[.slice ao n cap] w (GivesCp w 2 (atV l) n ao):=by
 cases ao with
 | none=>
  have hc:=hr.2.2.2.1 rfl
  obtain⟨h0,hx⟩:=hr.empty hc
  subst hc;subst h0
  have hn0:Sem.run Tryz.prog (binOp BinOp.eql 23 (.slice none 0 0) (.slice none 0 0)) w=.ok (.bool true) w:=by kernel_rfl
  go_enter Tryz.func129,Tryz.ntmps129
  go_wp2
  go_ret
  exact⟨none,0,rfl,hr,Below.refl _ _,(fun a ha=>by cases ha),fun _=>⟨rfl,rfl⟩⟩
 | some a=>
  have hn0:Sem.run Tryz.prog (binOp BinOp.eql 23 (.slice (some a) n cap) (.slice none 0 0)) w=.ok (.bool false) w:=by kernel_rfl
  go_enter Tryz.func129,Tryz.ntmps129
  have ho0:(w.alloc (.cells #[] 53)).ownsRow w.heap.size 53 2 (.slice (some ⟨w.heap.size,0,none⟩) 0 0) 0 []:=by
   refine⟨rfl,.inr ⟨w.heap.size,0,#[],rfl,?_⟩⟩
   exact⟨Nat.le_refl _,(by show (w.heap.push _)[w.heap.size]?=some _;simp),Nat.le_refl _,Nat.zero_le _,rfl,rfl⟩
  go_wp2_with (at_builtin;refine wpList_app _ rfl (.tmp 5) (.tmp 6) 23 rfl w.heap.size 53 (.agg #[.string ⟨#[]⟩,.string ⟨#[]⟩]) 2 32 sliceT_att _ 0 [] rfl ho0 (some a) n cap (atV l) rfl (hr.later ((Below.refl _ w).alloc (Nat.le_refl _) _)) (atV_one _) (by unfold maxLen;omega) (by omega) (by simp) ?_;intro ao' cap' w1 ho1 _ hb1 _)
  go_ret
  exact gives_cp ho1 (((Below.refl _ w).alloc (Nat.le_refl _) _).trans hb1)
end Go.Proofs.YtgeafnggodkpaaaGreat.Msg
