/-
  Messages: which fields a kind has.
-/
import Derived.Test.YtloamijcabkekaaGreatDoorLa
namespace Go.Proofs.YtloamijcabkekaaGreatDoor.Msg
open Go.RowKit Go.Lib Go.Proofs.YtloamijcabkekaaGreatDoor.Mem

/-- The letters of the table's row. -/
def mapM (k : Int) : List UInt8 :=
  if k = 1 then [113] else if k = 2 then [99, 117, 114] else if k = 3 then [113, 97, 109] else if k = 4 then [102, 97] else if k = 6 then [102, 101] else if k = 7 then [110, 102, 101] else if k = 8 then [101] else if k = 9 then [102, 111] else if k = 10 then [102, 111, 119, 101] else if k = 11 then [102, 97] else []
/-- The letters of a kind's fields. -/
def fieldsM (k : Int) (whole : Bool) : List UInt8 :=
  mapM k ++ (if k = 10 ∧ whole = true then [109, 98, 115, 108] else []) ++ (if k = 7 ∨ k = 8 ∨ k = 12 then [98, 115, 108, 109, 118] else if k = 5 then [109, 118] else if k = 2 ∨ k = 3 ∨ k = 4 ∨ k = 6 ∨ k = 10 ∨ k = 11 then [118] else [])
def rowsM : Array MapEntry := #[{ key := .int .i64 1, val := .agg #[.string ⟨#[113]⟩], born := 0 }, { key := .int .i64 2, val := .agg #[.string ⟨#[99, 117, 114]⟩], born := 1 }, { key := .int .i64 3, val := .agg #[.string ⟨#[113, 97, 109]⟩], born := 2 }, { key := .int .i64 4, val := .agg #[.string ⟨#[102, 97]⟩], born := 3 }, { key := .int .i64 6, val := .agg #[.string ⟨#[102, 101]⟩], born := 4 }, { key := .int .i64 7, val := .agg #[.string ⟨#[110, 102, 101]⟩], born := 5 }, { key := .int .i64 8, val := .agg #[.string ⟨#[101]⟩], born := 6 }, { key := .int .i64 9, val := .agg #[.string ⟨#[102, 111]⟩], born := 7 }, { key := .int .i64 10, val := .agg #[.string ⟨#[102, 111, 119, 101]⟩], born := 8 }, { key := .int .i64 11, val := .agg #[.string ⟨#[102, 97]⟩], born := 9 }]
theorem look_rowsM (k : Int) : ∃ r, Instr.findNow (.int .i64) (.int .i64 k) rowsM.toList 0 = some r ∧ (r.map (·.2)).getD (.agg #[.string ⟨#[]⟩]) = .agg #[.string ⟨(mapM k).toArray⟩] := by
  simp only [rowsM, Instr.findNow, Instr.sameNow, if_true]
  unfold mapM
  by_cases h1 : k = 1
  · subst h1; exact ⟨_, rfl, rfl⟩
  have b1 : (k == 1) = false := by simp [h1]
  by_cases h2 : k = 2
  · subst h2; exact ⟨_, rfl, rfl⟩
  have b2 : (k == 2) = false := by simp [h2]
  by_cases h3 : k = 3
  · subst h3; exact ⟨_, rfl, rfl⟩
  have b3 : (k == 3) = false := by simp [h3]
  by_cases h4 : k = 4
  · subst h4; exact ⟨_, rfl, rfl⟩
  have b4 : (k == 4) = false := by simp [h4]
  by_cases h6 : k = 6
  · subst h6; exact ⟨_, rfl, rfl⟩
  have b6 : (k == 6) = false := by simp [h6]
  by_cases h7 : k = 7
  · subst h7; exact ⟨_, rfl, rfl⟩
  have b7 : (k == 7) = false := by simp [h7]
  by_cases h8 : k = 8
  · subst h8; exact ⟨_, rfl, rfl⟩
  have b8 : (k == 8) = false := by simp [h8]
  by_cases h9 : k = 9
  · subst h9; exact ⟨_, rfl, rfl⟩
  have b9 : (k == 9) = false := by simp [h9]
  by_cases h10 : k = 10
  · subst h10; exact ⟨_, rfl, rfl⟩
  have b10 : (k == 10) = false := by simp [h10]
  by_cases h11 : k = 11
  · subst h11; exact ⟨_, rfl, rfl⟩
  have b11 : (k == 11) = false := by simp [h11]
  simp only [h1, h2, h3, h4, h6, h7, h8, h9, h10, h11, b1, b2, b3, b4, b6, b7, b8, b9, b10, b11, if_false]
  exact ⟨_, rfl, rfl⟩

set_option maxRecDepth 100000 in
set_option maxHeartbeats 4000000 in
theorem fieldsM_any (k : Int) (whole : Bool) (w : World) : Calls Tryz.prog 54 #[.int .i64 k, .bool whole] w fun e w' => e = .returned (.string ⟨(fieldsM k whole).toArray⟩) ∧ Below w.heap.size w w' := by
  have hm : Tryz.prog.underlying 152 = some (.map 58 96) := Tryz.underlying152
  have hk : Tryz.prog.underlying 58 = some (.int .i64) := Tryz.underlying58
  have h0 : Sem.run Tryz.prog (Instr.makeMap 152 none) w = .ok (.map (some w.heap.size)) (w.alloc (.map #[] 0)) := by simp [Instr.makeMap]
  have r0 : Sem.run Tryz.prog (Instr.mapUpdate 152 (.map (some w.heap.size)) (.int .i64 1) (.agg #[.string ⟨#[113]⟩])) (w.alloc (.map #[] 0)) = .ok () (w.alloc (.map #[{ key := .int .i64 1, val := .agg #[.string ⟨#[113]⟩], born := 0 }] 1)) := run_key_new w _ _ _ .i64 #[] 0 1 _ hm hk (by rfl)
  have r1 : Sem.run Tryz.prog (Instr.mapUpdate 152 (.map (some w.heap.size)) (.int .i64 2) (.agg #[.string ⟨#[99, 117, 114]⟩])) (w.alloc (.map #[{ key := .int .i64 1, val := .agg #[.string ⟨#[113]⟩], born := 0 }] 1)) = .ok () (w.alloc (.map #[{ key := .int .i64 1, val := .agg #[.string ⟨#[113]⟩], born := 0 }, { key := .int .i64 2, val := .agg #[.string ⟨#[99, 117, 114]⟩], born := 1 }] 2)) := run_key_new w _ _ _ .i64 #[{ key := .int .i64 1, val := .agg #[.string ⟨#[113]⟩], born := 0 }] 1 2 _ hm hk (by rfl)
  have r2 : Sem.run Tryz.prog (Instr.mapUpdate 152 (.map (some w.heap.size)) (.int .i64 3) (.agg #[.string ⟨#[113, 97, 109]⟩])) (w.alloc (.map #[{ key := .int .i64 1, val := .agg #[.string ⟨#[113]⟩], born := 0 }, { key := .int .i64 2, val := .agg #[.string ⟨#[99, 117, 114]⟩], born := 1 }] 2)) = .ok () (w.alloc (.map #[{ key := .int .i64 1, val := .agg #[.string ⟨#[113]⟩], born := 0 }, { key := .int .i64 2, val := .agg #[.string ⟨#[99, 117, 114]⟩], born := 1 }, { key := .int .i64 3, val := .agg #[.string ⟨#[113, 97, 109]⟩], born := 2 }] 3)) := run_key_new w _ _ _ .i64 #[{ key := .int .i64 1, val := .agg #[.string ⟨#[113]⟩], born := 0 }, { key := .int .i64 2, val := .agg #[.string ⟨#[99, 117, 114]⟩], born := 1 }] 2 3 _ hm hk (by rfl)
  have r3 : Sem.run Tryz.prog (Instr.mapUpdate 152 (.map (some w.heap.size)) (.int .i64 4) (.agg #[.string ⟨#[102, 97]⟩])) (w.alloc (.map #[{ key := .int .i64 1, val := .agg #[.string ⟨#[113]⟩], born := 0 }, { key := .int .i64 2, val := .agg #[.string ⟨#[99, 117, 114]⟩], born := 1 }, { key := .int .i64 3, val := .agg #[.string ⟨#[113, 97, 109]⟩], born := 2 }] 3)) = .ok () (w.alloc (.map #[{ key := .int .i64 1, val := .agg #[.string ⟨#[113]⟩], born := 0 }, { key := .int .i64 2, val := .agg #[.string ⟨#[99, 117, 114]⟩], born := 1 }, { key := .int .i64 3, val := .agg #[.string ⟨#[113, 97, 109]⟩], born := 2 }, { key := .int .i64 4, val := .agg #[.string ⟨#[102, 97]⟩], born := 3 }] 4)) := run_key_new w _ _ _ .i64 #[{ key := .int .i64 1, val := .agg #[.string ⟨#[113]⟩], born := 0 }, { key := .int .i64 2, val := .agg #[.string ⟨#[99, 117, 114]⟩], born := 1 }, { key := .int .i64 3, val := .agg #[.string ⟨#[113, 97, 109]⟩], born := 2 }] 3 4 _ hm hk (by rfl)
  have r4 : Sem.run Tryz.prog (Instr.mapUpdate 152 (.map (some w.heap.size)) (.int .i64 6) (.agg #[.string ⟨#[102, 101]⟩])) (w.alloc (.map #[{ key := .int .i64 1, val := .agg #[.string ⟨#[113]⟩], born := 0 }, { key := .int .i64 2, val := .agg #[.string ⟨#[99, 117, 114]⟩], born := 1 }, { key := .int .i64 3, val := .agg #[.string ⟨#[113, 97, 109]⟩], born := 2 }, { key := .int .i64 4, val := .agg #[.string ⟨#[102, 97]⟩], born := 3 }] 4)) = .ok () (w.alloc (.map #[{ key := .int .i64 1, val := .agg #[.string ⟨#[113]⟩], born := 0 }, { key := .int .i64 2, val := .agg #[.string ⟨#[99, 117, 114]⟩], born := 1 }, { key := .int .i64 3, val := .agg #[.string ⟨#[113, 97, 109]⟩], born := 2 }, { key := .int .i64 4, val := .agg #[.string ⟨#[102, 97]⟩], born := 3 }, { key := .int .i64 6, val := .agg #[.string ⟨#[102, 101]⟩], born := 4 }] 5)) := run_key_new w _ _ _ .i64 #[{ key := .int .i64 1, val := .agg #[.string ⟨#[113]⟩], born := 0 }, { key := .int .i64 2, val := .agg #[.string ⟨#[99, 117, 114]⟩], born := 1 }, { key := .int .i64 3, val := .agg #[.string ⟨#[113, 97, 109]⟩], born := 2 }, { key := .int .i64 4, val := .agg #[.string ⟨#[102, 97]⟩], born := 3 }] 4 6 _ hm hk (by rfl)
  have r5 : Sem.run Tryz.prog (Instr.mapUpdate 152 (.map (some w.heap.size)) (.int .i64 7) (.agg #[.string ⟨#[110, 102, 101]⟩])) (w.alloc (.map #[{ key := .int .i64 1, val := .agg #[.string ⟨#[113]⟩], born := 0 }, { key := .int .i64 2, val := .agg #[.string ⟨#[99, 117, 114]⟩], born := 1 }, { key := .int .i64 3, val := .agg #[.string ⟨#[113, 97, 109]⟩], born := 2 }, { key := .int .i64 4, val := .agg #[.string ⟨#[102, 97]⟩], born := 3 }, { key := .int .i64 6, val := .agg #[.string ⟨#[102, 101]⟩], born := 4 }] 5)) = .ok () (w.alloc (.map #[{ key := .int .i64 1, val := .agg #[.string ⟨#[113]⟩], born := 0 }, { key := .int .i64 2, val := .agg #[.string ⟨#[99, 117, 114]⟩], born := 1 }, { key := .int .i64 3, val := .agg #[.string ⟨#[113, 97, 109]⟩], born := 2 }, { key := .int .i64 4, val := .agg #[.string ⟨#[102, 97]⟩], born := 3 }, { key := .int .i64 6, val := .agg #[.string ⟨#[102, 101]⟩], born := 4 }, { key := .int .i64 7, val := .agg #[.string ⟨#[110, 102, 101]⟩], born := 5 }] 6)) := run_key_new w _ _ _ .i64 #[{ key := .int .i64 1, val := .agg #[.string ⟨#[113]⟩], born := 0 }, { key := .int .i64 2, val := .agg #[.string ⟨#[99, 117, 114]⟩], born := 1 }, { key := .int .i64 3, val := .agg #[.string ⟨#[113, 97, 109]⟩], born := 2 }, { key := .int .i64 4, val := .agg #[.string ⟨#[102, 97]⟩], born := 3 }, { key := .int .i64 6, val := .agg #[.string ⟨#[102, 101]⟩], born := 4 }] 5 7 _ hm hk (by rfl)
  have r6 : Sem.run Tryz.prog (Instr.mapUpdate 152 (.map (some w.heap.size)) (.int .i64 8) (.agg #[.string ⟨#[101]⟩])) (w.alloc (.map #[{ key := .int .i64 1, val := .agg #[.string ⟨#[113]⟩], born := 0 }, { key := .int .i64 2, val := .agg #[.string ⟨#[99, 117, 114]⟩], born := 1 }, { key := .int .i64 3, val := .agg #[.string ⟨#[113, 97, 109]⟩], born := 2 }, { key := .int .i64 4, val := .agg #[.string ⟨#[102, 97]⟩], born := 3 }, { key := .int .i64 6, val := .agg #[.string ⟨#[102, 101]⟩], born := 4 }, { key := .int .i64 7, val := .agg #[.string ⟨#[110, 102, 101]⟩], born := 5 }] 6)) = .ok () (w.alloc (.map #[{ key := .int .i64 1, val := .agg #[.string ⟨#[113]⟩], born := 0 }, { key := .int .i64 2, val := .agg #[.string ⟨#[99, 117, 114]⟩], born := 1 }, { key := .int .i64 3, val := .agg #[.string ⟨#[113, 97, 109]⟩], born := 2 }, { key := .int .i64 4, val := .agg #[.string ⟨#[102, 97]⟩], born := 3 }, { key := .int .i64 6, val := .agg #[.string ⟨#[102, 101]⟩], born := 4 }, { key := .int .i64 7, val := .agg #[.string ⟨#[110, 102, 101]⟩], born := 5 }, { key := .int .i64 8, val := .agg #[.string ⟨#[101]⟩], born := 6 }] 7)) := run_key_new w _ _ _ .i64 #[{ key := .int .i64 1, val := .agg #[.string ⟨#[113]⟩], born := 0 }, { key := .int .i64 2, val := .agg #[.string ⟨#[99, 117, 114]⟩], born := 1 }, { key := .int .i64 3, val := .agg #[.string ⟨#[113, 97, 109]⟩], born := 2 }, { key := .int .i64 4, val := .agg #[.string ⟨#[102, 97]⟩], born := 3 }, { key := .int .i64 6, val := .agg #[.string ⟨#[102, 101]⟩], born := 4 }, { key := .int .i64 7, val := .agg #[.string ⟨#[110, 102, 101]⟩], born := 5 }] 6 8 _ hm hk (by rfl)
  have r7 : Sem.run Tryz.prog (Instr.mapUpdate 152 (.map (some w.heap.size)) (.int .i64 9) (.agg #[.string ⟨#[102, 111]⟩])) (w.alloc (.map #[{ key := .int .i64 1, val := .agg #[.string ⟨#[113]⟩], born := 0 }, { key := .int .i64 2, val := .agg #[.string ⟨#[99, 117, 114]⟩], born := 1 }, { key := .int .i64 3, val := .agg #[.string ⟨#[113, 97, 109]⟩], born := 2 }, { key := .int .i64 4, val := .agg #[.string ⟨#[102, 97]⟩], born := 3 }, { key := .int .i64 6, val := .agg #[.string ⟨#[102, 101]⟩], born := 4 }, { key := .int .i64 7, val := .agg #[.string ⟨#[110, 102, 101]⟩], born := 5 }, { key := .int .i64 8, val := .agg #[.string ⟨#[101]⟩], born := 6 }] 7)) = .ok () (w.alloc (.map #[{ key := .int .i64 1, val := .agg #[.string ⟨#[113]⟩], born := 0 }, { key := .int .i64 2, val := .agg #[.string ⟨#[99, 117, 114]⟩], born := 1 }, { key := .int .i64 3, val := .agg #[.string ⟨#[113, 97, 109]⟩], born := 2 }, { key := .int .i64 4, val := .agg #[.string ⟨#[102, 97]⟩], born := 3 }, { key := .int .i64 6, val := .agg #[.string ⟨#[102, 101]⟩], born := 4 }, { key := .int .i64 7, val := .agg #[.string ⟨#[110, 102, 101]⟩], born := 5 }, { key := .int .i64 8, val := .agg #[.string ⟨#[101]⟩], born := 6 }, { key := .int .i64 9, val := .agg #[.string ⟨#[102, 111]⟩], born := 7 }] 8)) := run_key_new w _ _ _ .i64 #[{ key := .int .i64 1, val := .agg #[.string ⟨#[113]⟩], born := 0 }, { key := .int .i64 2, val := .agg #[.string ⟨#[99, 117, 114]⟩], born := 1 }, { key := .int .i64 3, val := .agg #[.string ⟨#[113, 97, 109]⟩], born := 2 }, { key := .int .i64 4, val := .agg #[.string ⟨#[102, 97]⟩], born := 3 }, { key := .int .i64 6, val := .agg #[.string ⟨#[102, 101]⟩], born := 4 }, { key := .int .i64 7, val := .agg #[.string ⟨#[110, 102, 101]⟩], born := 5 }, { key := .int .i64 8, val := .agg #[.string ⟨#[101]⟩], born := 6 }] 7 9 _ hm hk (by rfl)
  have r8 : Sem.run Tryz.prog (Instr.mapUpdate 152 (.map (some w.heap.size)) (.int .i64 10) (.agg #[.string ⟨#[102, 111, 119, 101]⟩])) (w.alloc (.map #[{ key := .int .i64 1, val := .agg #[.string ⟨#[113]⟩], born := 0 }, { key := .int .i64 2, val := .agg #[.string ⟨#[99, 117, 114]⟩], born := 1 }, { key := .int .i64 3, val := .agg #[.string ⟨#[113, 97, 109]⟩], born := 2 }, { key := .int .i64 4, val := .agg #[.string ⟨#[102, 97]⟩], born := 3 }, { key := .int .i64 6, val := .agg #[.string ⟨#[102, 101]⟩], born := 4 }, { key := .int .i64 7, val := .agg #[.string ⟨#[110, 102, 101]⟩], born := 5 }, { key := .int .i64 8, val := .agg #[.string ⟨#[101]⟩], born := 6 }, { key := .int .i64 9, val := .agg #[.string ⟨#[102, 111]⟩], born := 7 }] 8)) = .ok () (w.alloc (.map #[{ key := .int .i64 1, val := .agg #[.string ⟨#[113]⟩], born := 0 }, { key := .int .i64 2, val := .agg #[.string ⟨#[99, 117, 114]⟩], born := 1 }, { key := .int .i64 3, val := .agg #[.string ⟨#[113, 97, 109]⟩], born := 2 }, { key := .int .i64 4, val := .agg #[.string ⟨#[102, 97]⟩], born := 3 }, { key := .int .i64 6, val := .agg #[.string ⟨#[102, 101]⟩], born := 4 }, { key := .int .i64 7, val := .agg #[.string ⟨#[110, 102, 101]⟩], born := 5 }, { key := .int .i64 8, val := .agg #[.string ⟨#[101]⟩], born := 6 }, { key := .int .i64 9, val := .agg #[.string ⟨#[102, 111]⟩], born := 7 }, { key := .int .i64 10, val := .agg #[.string ⟨#[102, 111, 119, 101]⟩], born := 8 }] 9)) := run_key_new w _ _ _ .i64 #[{ key := .int .i64 1, val := .agg #[.string ⟨#[113]⟩], born := 0 }, { key := .int .i64 2, val := .agg #[.string ⟨#[99, 117, 114]⟩], born := 1 }, { key := .int .i64 3, val := .agg #[.string ⟨#[113, 97, 109]⟩], born := 2 }, { key := .int .i64 4, val := .agg #[.string ⟨#[102, 97]⟩], born := 3 }, { key := .int .i64 6, val := .agg #[.string ⟨#[102, 101]⟩], born := 4 }, { key := .int .i64 7, val := .agg #[.string ⟨#[110, 102, 101]⟩], born := 5 }, { key := .int .i64 8, val := .agg #[.string ⟨#[101]⟩], born := 6 }, { key := .int .i64 9, val := .agg #[.string ⟨#[102, 111]⟩], born := 7 }] 8 10 _ hm hk (by rfl)
  have r9 : Sem.run Tryz.prog (Instr.mapUpdate 152 (.map (some w.heap.size)) (.int .i64 11) (.agg #[.string ⟨#[102, 97]⟩])) (w.alloc (.map #[{ key := .int .i64 1, val := .agg #[.string ⟨#[113]⟩], born := 0 }, { key := .int .i64 2, val := .agg #[.string ⟨#[99, 117, 114]⟩], born := 1 }, { key := .int .i64 3, val := .agg #[.string ⟨#[113, 97, 109]⟩], born := 2 }, { key := .int .i64 4, val := .agg #[.string ⟨#[102, 97]⟩], born := 3 }, { key := .int .i64 6, val := .agg #[.string ⟨#[102, 101]⟩], born := 4 }, { key := .int .i64 7, val := .agg #[.string ⟨#[110, 102, 101]⟩], born := 5 }, { key := .int .i64 8, val := .agg #[.string ⟨#[101]⟩], born := 6 }, { key := .int .i64 9, val := .agg #[.string ⟨#[102, 111]⟩], born := 7 }, { key := .int .i64 10, val := .agg #[.string ⟨#[102, 111, 119, 101]⟩], born := 8 }] 9)) = .ok () (w.alloc (.map #[{ key := .int .i64 1, val := .agg #[.string ⟨#[113]⟩], born := 0 }, { key := .int .i64 2, val := .agg #[.string ⟨#[99, 117, 114]⟩], born := 1 }, { key := .int .i64 3, val := .agg #[.string ⟨#[113, 97, 109]⟩], born := 2 }, { key := .int .i64 4, val := .agg #[.string ⟨#[102, 97]⟩], born := 3 }, { key := .int .i64 6, val := .agg #[.string ⟨#[102, 101]⟩], born := 4 }, { key := .int .i64 7, val := .agg #[.string ⟨#[110, 102, 101]⟩], born := 5 }, { key := .int .i64 8, val := .agg #[.string ⟨#[101]⟩], born := 6 }, { key := .int .i64 9, val := .agg #[.string ⟨#[102, 111]⟩], born := 7 }, { key := .int .i64 10, val := .agg #[.string ⟨#[102, 111, 119, 101]⟩], born := 8 }, { key := .int .i64 11, val := .agg #[.string ⟨#[102, 97]⟩], born := 9 }] 10)) := run_key_new w _ _ _ .i64 #[{ key := .int .i64 1, val := .agg #[.string ⟨#[113]⟩], born := 0 }, { key := .int .i64 2, val := .agg #[.string ⟨#[99, 117, 114]⟩], born := 1 }, { key := .int .i64 3, val := .agg #[.string ⟨#[113, 97, 109]⟩], born := 2 }, { key := .int .i64 4, val := .agg #[.string ⟨#[102, 97]⟩], born := 3 }, { key := .int .i64 6, val := .agg #[.string ⟨#[102, 101]⟩], born := 4 }, { key := .int .i64 7, val := .agg #[.string ⟨#[110, 102, 101]⟩], born := 5 }, { key := .int .i64 8, val := .agg #[.string ⟨#[101]⟩], born := 6 }, { key := .int .i64 9, val := .agg #[.string ⟨#[102, 111]⟩], born := 7 }, { key := .int .i64 10, val := .agg #[.string ⟨#[102, 111, 119, 101]⟩], born := 8 }] 9 11 _ hm hk (by rfl)
  obtain ⟨r, hr, hv⟩ := look_rowsM k
  have hz : (zeroValue 96).run Tryz.prog (w.alloc (.map rowsM 10)) = .ok (.agg #[.string ⟨#[]⟩]) (w.alloc (.map rowsM 10)) := by kernel_rfl
  have hl := run_key_look w _ _ _ .i64 rowsM 10 k _ hm hk hz hr
  rw [hv] at hl
  have hf : ∀ (s : ByteArray) (W : World), Sem.run Tryz.prog (Instr.field 96 (.agg #[.string s]) 0) W = .ok (.string s) W := fun _ _ => by kernel_rfl
  have hb : Below w.heap.size w (w.alloc (.map #[{ key := .int .i64 1, val := .agg #[.string ⟨#[113]⟩], born := 0 }, { key := .int .i64 2, val := .agg #[.string ⟨#[99, 117, 114]⟩], born := 1 }, { key := .int .i64 3, val := .agg #[.string ⟨#[113, 97, 109]⟩], born := 2 }, { key := .int .i64 4, val := .agg #[.string ⟨#[102, 97]⟩], born := 3 }, { key := .int .i64 6, val := .agg #[.string ⟨#[102, 101]⟩], born := 4 }, { key := .int .i64 7, val := .agg #[.string ⟨#[110, 102, 101]⟩], born := 5 }, { key := .int .i64 8, val := .agg #[.string ⟨#[101]⟩], born := 6 }, { key := .int .i64 9, val := .agg #[.string ⟨#[102, 111]⟩], born := 7 }, { key := .int .i64 10, val := .agg #[.string ⟨#[102, 111, 119, 101]⟩], born := 8 }, { key := .int .i64 11, val := .agg #[.string ⟨#[102, 97]⟩], born := 9 }] 10)) := (Below.refl _ _).alloc (Nat.le_refl _) _
  clear hr hv hz hm hk
  unfold rowsM at hl
  by_cases k1 : k = 1
  · subst k1
    go_enter Tryz.func54, Tryz.ntmps54
    go_wp2_with fail
    go_ret
    exact ⟨by cases whole <;> rfl, hb⟩
  have g1 : (k == 1) = false := by simp [k1]
  by_cases k2 : k = 2
  · subst k2
    go_enter Tryz.func54, Tryz.ntmps54
    go_wp2_with fail
    go_ret
    exact ⟨by cases whole <;> rfl, hb⟩
  have g2 : (k == 2) = false := by simp [k2]
  by_cases k3 : k = 3
  · subst k3
    go_enter Tryz.func54, Tryz.ntmps54
    go_wp2_with fail
    go_ret
    exact ⟨by cases whole <;> rfl, hb⟩
  have g3 : (k == 3) = false := by simp [k3]
  by_cases k4 : k = 4
  · subst k4
    go_enter Tryz.func54, Tryz.ntmps54
    go_wp2_with fail
    go_ret
    exact ⟨by cases whole <;> rfl, hb⟩
  have g4 : (k == 4) = false := by simp [k4]
  by_cases k5 : k = 5
  · subst k5
    go_enter Tryz.func54, Tryz.ntmps54
    go_wp2_with fail
    go_ret
    exact ⟨by cases whole <;> rfl, hb⟩
  have g5 : (k == 5) = false := by simp [k5]
  by_cases k6 : k = 6
  · subst k6
    go_enter Tryz.func54, Tryz.ntmps54
    go_wp2_with fail
    go_ret
    exact ⟨by cases whole <;> rfl, hb⟩
  have g6 : (k == 6) = false := by simp [k6]
  by_cases k7 : k = 7
  · subst k7
    go_enter Tryz.func54, Tryz.ntmps54
    go_wp2_with fail
    go_ret
    exact ⟨by cases whole <;> rfl, hb⟩
  have g7 : (k == 7) = false := by simp [k7]
  by_cases k8 : k = 8
  · subst k8
    go_enter Tryz.func54, Tryz.ntmps54
    go_wp2_with fail
    go_ret
    exact ⟨by cases whole <;> rfl, hb⟩
  have g8 : (k == 8) = false := by simp [k8]
  by_cases k9 : k = 9
  · subst k9
    go_enter Tryz.func54, Tryz.ntmps54
    go_wp2_with fail
    go_ret
    exact ⟨by cases whole <;> rfl, hb⟩
  have g9 : (k == 9) = false := by simp [k9]
  by_cases k10 : k = 10
  · subst k10
    cases whole with
    | true =>
      go_enter Tryz.func54, Tryz.ntmps54
      go_wp2_with fail
      go_ret
      exact ⟨by rfl, hb⟩
    | false =>
      go_enter Tryz.func54, Tryz.ntmps54
      go_wp2_with fail
      go_ret
      exact ⟨by rfl, hb⟩
  have g10 : (k == 10) = false := by simp [k10]
  by_cases k11 : k = 11
  · subst k11
    go_enter Tryz.func54, Tryz.ntmps54
    go_wp2_with fail
    go_ret
    exact ⟨by cases whole <;> rfl, hb⟩
  have g11 : (k == 11) = false := by simp [k11]
  by_cases k12 : k = 12
  · subst k12
    go_enter Tryz.func54, Tryz.ntmps54
    go_wp2_with fail
    go_ret
    exact ⟨by cases whole <;> rfl, hb⟩
  have g12 : (k == 12) = false := by simp [k12]
  have hE : Hid (fieldsM k whole = mapM k) := Lib.hid (by simp [fieldsM, k2, k3, k4, k5, k6, k7, k8, k10, k11, k12])
  clear k1 k2 k3 k4 k5 k6 k7 k8 k9 k10 k11 k12
  go_enter Tryz.func54, Tryz.ntmps54
  go_wp2_with fail
  go_ret
  exact ⟨by rw [hE.out]; rfl, hb⟩
end Go.Proofs.YtloamijcabkekaaGreatDoor.Msg
