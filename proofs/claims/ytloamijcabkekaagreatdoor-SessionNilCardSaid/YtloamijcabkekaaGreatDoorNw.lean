/-
  A whole struct is loaded, or stored into the block that was made last, in one step.
-/
import Derived.Deep.WholeRow
import Derived.Calls
import Derived.Tactics2

namespace Go.Proofs.YtloamijcabkekaaGreatDoor.Msg

/-- Is it a struct or an array? -/
def isRowT (P : Program) (t : TypeId) : Bool := match P.underlying t with | some (.struct _) => true | some (.array _ _) => true | _ => false
theorem isRowT_d {P : Program} {t : TypeId} (h : isRowT P t = true) : ∃ d, P.underlying t = some d ∧ (match d with | .struct _ | .array _ _ => true | _ => false) = true := by
  unfold isRowT at h
  cases hu : P.underlying t with
  | none => rw [hu] at h; cases h
  | some d => rw [hu] at h; exact ⟨d, rfl, by cases d <;> first | rfl | cases h⟩

theorem wp_load_row {P : Program} {o : Oper} {a : Act} {next : Act → World → Prop} {Q : Exit → Act → World → Prop} {w : World} {t ty : TypeId} {p : Operand} {g : Nat} {cs : Array Value} {fr : Nat × Nat}
    (hg : w.heap[g]? = some (.cells cs t fr)) (hop : o.op = .load ty p) (hp : a.eval p = .pointer (some ⟨g, 0, none⟩)) (hu : isRowT P ty = true) (hi : (P.info? ty).map (·.size) = some cs.size)
    (hn : next (a.put o.dst (.agg cs)) w) : o.wp P a w next Q := by
  obtain ⟨d, h1, h2⟩ := isRowT_d hu
  have hl : (Instr.loadAt ty (.pointer (some ⟨g, 0, none⟩))).run P w = .ok (.agg cs) w := by
    simp only [Instr.loadAt, Instr.sureAddr, Sem.run_bind, Sem.run_pure, Result.andThen]
    cases d <;> first | exact run_loadVar_row w g t ty cs fr _ hg h1 rfl hi | cases h2
  have : (execOp a.eval o).run P w = .ok (.value (.agg cs)) w := by
    unfold execOp
    rw [hop]
    simp only [hp, Sem.run_bind, hl, Result.andThen, Sem.run_pure]
  unfold Oper.wp
  rw [this]
  exact hn

theorem wp_store_new {P : Program} {o : Oper} {a : Act} {next : Act → World → Prop} {Q : Exit → Act → World → Prop} {w : World} {t : TypeId} {p v : Operand} {c c' : Array Value}
    (hop : o.op = .store t p v) (hp : a.eval p = .pointer (some ⟨w.heap.size, 0, none⟩)) (hv : a.eval v = .agg c') (hi : (P.info? t).map (·.size) = some c'.size) (ho : c.size = c'.size) (h1 : c'.all (·.oneCell') = true)
    (hn : next (a.put o.dst undef) (w.alloc (.cells c' t))) : o.wp P a (w.alloc (.cells c t)) next Q := by
  have hl := run_storeAt_new (P := P) w t c c' hi ho h1
  have : (execOp a.eval o).run P (w.alloc (.cells c t)) = .ok .skip (w.alloc (.cells c' t)) := by
    unfold execOp
    rw [hop]
    simp only [hp, hv, Sem.run_bind, hl, Result.andThen, Sem.run_pure]
  unfold Oper.wp
  rw [this]
  exact hn

theorem wpList_load_row {P : Program} {ops : Array Oper} {rest : List Oper} {o : Oper} {a : Act} {Q : Exit → Act → World → Prop} {w : World} {t ty : TypeId} {p : Operand} {g : Nat} {cs : Array Value} {fr : Nat × Nat}
    (hg : w.heap[g]? = some (.cells cs t fr)) (hop : o.op = .load ty p) (hw : Region.wanted o (yielded ops a.tmps) = true) (hp : a.eval p = .pointer (some ⟨g, 0, none⟩)) (hu : isRowT P ty = true) (hi : (P.info? ty).map (·.size) = some cs.size)
    (hn : wpList P ops Q rest (a.put o.dst (.agg cs)) w) : wpList P ops Q (o :: rest) a w :=
  wpList_step fun K hK => by rw [if_pos hw]; exact wp_load_row hg hop hp hu hi (hK _ _ hn)
theorem wpList_store_new {P : Program} {ops : Array Oper} {rest : List Oper} {o : Oper} {a : Act} {Q : Exit → Act → World → Prop} {w : World} {t : TypeId} {p v : Operand} {c c' : Array Value}
    (hop : o.op = .store t p v) (hw : Region.wanted o (yielded ops a.tmps) = true) (hp : a.eval p = .pointer (some ⟨w.heap.size, 0, none⟩)) (hv : a.eval v = .agg c') (hi : (P.info? t).map (·.size) = some c'.size) (ho : c.size = c'.size) (h1 : c'.all (·.oneCell') = true)
    (hn : wpList P ops Q rest (a.put o.dst undef) (w.alloc (.cells c' t))) : wpList P ops Q (o :: rest) a (w.alloc (.cells c t)) :=
  wpList_step fun K hK => by rw [if_pos hw]; exact wp_store_new hop hp hv hi ho h1 (hK _ _ hn)
end Go.Proofs.YtloamijcabkekaaGreatDoor.Msg
