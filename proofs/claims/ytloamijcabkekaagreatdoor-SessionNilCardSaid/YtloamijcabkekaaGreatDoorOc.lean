/-
  A session: New, there; a whole struct stored, as a step of a region.
-/
import Derived.Laws.CopyOwn
import Derived.Test.YtloamijcabkekaaGreatDoorOb
namespace Go.Proofs.YtloamijcabkekaaGreatDoor.Msg
open Go.RowKit Go.Lib Go.Proofs.YtloamijcabkekaaGreatDoor.Mem Go.Proofs.YtloamijcabkekaaGreatDoor.Tlv

/-- A new session. -/
def newS (cl n : Int) : SV := ⟨cl, n, 0, none, 0, 0, none, 0⟩
def GivesN (cl n : Int) (w : World) (e : Ending) (w' : World) : Prop :=
  if n = 3 ∨ n = 5 ∨ n = 7 then e = .returned (.tuple #[.pointer (some ⟨w.heap.size, 0, none⟩), .int .i64 0]) ∧ w' = w.alloc (newS cl n).box
  else e = .returned (.tuple #[.pointer none, .int .i64 2]) ∧ w' = w

set_option maxRecDepth 100000 in
set_option maxHeartbeats 4000000 in
theorem new_any (cl n : Int) (w : World) : Calls Tryz.prog 21 #[.int .u64 cl, .int .i64 n] w (GivesN cl n w) := by
  go_enter Tryz.func21, Tryz.ntmps21
  by_cases h : n = 3 ∨ n = 5 ∨ n = 7
  · rcases h with rfl | rfl | rfl
    all_goals
      go_wp2_with fail
      go_ret2
      unfold GivesN
      rw [if_pos (by decide)]
      exact ⟨rfl, rfl⟩
  · have f3 : (n == 3) = false := by simp; omega
    have f5 : (n == 5) = false := by simp; omega
    have f7 : (n == 7) = false := by simp; omega
    have H := Lib.hid h
    clear h
    go_wp2_with fail
    go_ret2
    unfold GivesN
    rw [if_neg H.out]
    exact ⟨rfl, rfl⟩

def GivesSt (b : Bool) (w : World) (e : Ending) (w' : World) : Prop := e = .returned (.bool b) ∧ w' = w
set_option maxRecDepth 100000 in
theorem there_nil (w : World) : Calls Tryz.prog 15 #[.pointer none] w (GivesSt false w) := by
  have hpe : ∀ (w : World), Sem.run Tryz.prog (binOp BinOp.neq 27 (.pointer none) (.pointer none)) w = .ok (.bool false) w := fun _ => by kernel_rfl
  go_enter Tryz.func15, Tryz.ntmps15
  go_wp2_with fail
  go_ret
  exact ⟨rfl, rfl⟩
set_option maxRecDepth 100000 in
theorem there_any (S : SV) (sb : Nat) (w : World) (h : w.heap[sb]? = some S.box) : Calls Tryz.prog 15 #[.pointer (some ⟨sb, 0, none⟩)] w (GivesSt (decide (0 < S.nodes)) w) := by
  have hpe : ∀ (w : World), Sem.run Tryz.prog (binOp BinOp.neq 27 (.pointer (some ⟨sb, 0, none⟩)) (.pointer none)) w = .ok (.bool true) w := fun _ => by kernel_rfl
  obtain ⟨-, c1, -⟩ := sbox_all h
  go_enter Tryz.func15, Tryz.ntmps15
  go_wp2_with fail
  go_ret
  exact ⟨rfl, rfl⟩

/-- A whole struct is stored, as a step of a region that draws its order. -/
theorem step_store_row {P : Program} {ops : Array Oper} {o : Oper} {a : Act} {K : Act → World → Prop} {Q : Exit → Act → World → Prop} {E : Prop} {w : World} {t ty : TypeId} {p v : Operand} {g : Nat} {old cells : Array Value}
    (hgd : o.guard = none) (hop : o.op = .store ty p v) (hg : w.heap[g]? = some (.cells old t (0, 0))) (hp : a.eval p = .pointer (some ⟨g, 0, none⟩)) (hv : a.eval v = .agg cells) (hi : (P.info? ty).map (·.size) = some cells.size)
    (ho : old.size = cells.size) (h1 : cells.all (·.oneCell') = true) (hn : K (a.put o.dst undef) (w.setRow g cells)) :
    if Region.wanted o (yielded ops a.tmps) = true then Oper.wp P o a w K Q else E := by
  have hw : Region.wanted o (yielded ops a.tmps) = true := by simp [Region.wanted, hgd]
  rw [if_pos hw]
  have hl : (Instr.storeAt ty (.pointer (some ⟨g, 0, none⟩)) (.agg cells)).run P w = .ok () (w.setRow g cells) := by
    simp only [Instr.storeAt, Instr.sureAddr, Sem.run_bind, Sem.run_pure, Result.andThen]
    exact run_storeVar_row w g t ty old cells hg hi ho h1
  have : (execOp a.eval o).run P w = .ok .skip (w.setRow g cells) := by
    unfold execOp
    rw [hop]
    simp only [hp, hv, Sem.run_bind, hl, Result.andThen, Sem.run_pure]
  unfold Oper.wp
  rw [this]
  exact hn

theorem mayOp_copy {w : World} {v u : OV} {c : OC} (h : CopyOf w v u) : mayOp u c = mayOp v c ∧ opBy u c = opBy v c := by
  obtain ⟨e1, e2, e3, e4, e5, e6, e7, -, -, -, -, -, -⟩ := h
  obtain ⟨k, nm, tt, ao, an, ac, bo, bn, bc, co, cn, cc, n⟩ := v
  obtain ⟨k', nm', tt', ao', an', ac', bo', bn', bc', co', cn', cc', n'⟩ := u
  dsimp only at e1 e2 e3 e4 e5 e6 e7
  subst e1 e2 e3 e4 e5 e6 e7
  exact ⟨rfl, rfl⟩
end Go.Proofs.YtloamijcabkekaaGreatDoor.Msg
