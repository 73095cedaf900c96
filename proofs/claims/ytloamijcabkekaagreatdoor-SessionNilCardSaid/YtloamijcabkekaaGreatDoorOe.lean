/-
  Sessions that are not there.
-/
import Derived.Test.YtloamijcabkekaaGreatDoorOd
namespace Go.Proofs.YtloamijcabkekaaGreatDoor.Msg
open Go.RowKit Go.Lib Go.Proofs.YtloamijcabkekaaGreatDoor.Mem Go.Proofs.YtloamijcabkekaaGreatDoor.Tlv

/-- A pointer to a session, or nil. -/
def ptr (p : Option Nat) : Value := .pointer (p.map fun g => ⟨g, 0, none⟩)
def zeroS : SV := ⟨0, 0, 0, none, 0, 0, none, 0⟩
/-- None is there: nil, or a zero one. -/
def Gone (p : Option Nat) (W : World) : Prop := ∀ g, p = some g → W.heap[g]? = some zeroS.box
theorem Gone.later {p : Option Nat} {W W' : World} (h : Gone p W) (hb : Below W.heap.size W W') : Gone p W' := fun g hg => (hb.block _ (Array.getElem?_eq_some_iff.1 (h g hg)).1).trans (h g hg)
theorem there_gone (p : Option Nat) (w : World) (h : Gone p w) : Calls Tryz.prog 15 #[ptr p] w (GivesSt false w) := by
  cases p with
  | none => exact there_nil w
  | some g => exact there_any zeroS g w (h g rfl)
theorem ask_gone (p : Option Nat) (v : OV) (w : World) (h : Gone p w) : Calls Tryz.prog 4 #[ptr p, v.val] w (GivesAskBad 1 w) := by
  cases p with
  | none => exact ask_nil v w
  | some g => exact ask_zero v zeroS g w (h g rfl) (by decide)

/-- The zero result. -/
def resZ : Array Value := #[.int .i64 0, .bool false, .slice none 0 0, .slice none 0 0]
theorem results_cell2 {f : Func} {i j : Nat} {t : TypeId} {tmps : Array Value} {W : World} {b : Nat} {cs : Array Value} {v : Value} (hr : f.results = #[.cell i t, .tmp j]) (hp : tmps.getD i undef = .pointer (some ⟨b, 0, none⟩)) (hv : tmps.getD j undef = v)
    (hu : isRowT Tryz.prog t = true) (hi : (Tryz.prog.info? t).map (·.size) = some cs.size) (h : W.heap[b]? = some (.cells cs t)) : (results f tmps).run Tryz.prog W = .ok (.tuple #[.agg cs, v]) W := by
  obtain ⟨d, h1, h2⟩ := isRowT_d hu
  have hl : (loadVar t ⟨b, 0, none⟩).run Tryz.prog W = .ok (.agg cs) W := by
    cases d <;> first | exact run_loadVar_row W b t t cs _ _ h h1 rfl hi | cases h2
  have hp' : tmps[i]?.getD undef = .pointer (some ⟨b, 0, none⟩) := by simpa using hp
  have hv' : tmps[j]?.getD undef = v := by simpa using hv
  simp only [results, hr]
  simp [hp', hv', asAddr, hl, Result.andThen]
theorem results_cell3 {f : Func} {i j k : Nat} {t : TypeId} {tmps : Array Value} {W : World} {b : Nat} {cs : Array Value} {u v : Value} (hr : f.results = #[.tmp k, .cell i t, .tmp j]) (hp : tmps.getD i undef = .pointer (some ⟨b, 0, none⟩)) (hk : tmps.getD k undef = u) (hv : tmps.getD j undef = v)
    (hu : isRowT Tryz.prog t = true) (hi : (Tryz.prog.info? t).map (·.size) = some cs.size) (h : W.heap[b]? = some (.cells cs t)) : (results f tmps).run Tryz.prog W = .ok (.tuple #[u, .agg cs, v]) W := by
  obtain ⟨d, h1, h2⟩ := isRowT_d hu
  have hl : (loadVar t ⟨b, 0, none⟩).run Tryz.prog W = .ok (.agg cs) W := by
    cases d <;> first | exact run_loadVar_row W b t t cs _ _ h h1 rfl hi | cases h2
  have hp' : tmps[i]?.getD undef = .pointer (some ⟨b, 0, none⟩) := by simpa using hp
  have hv' : tmps[j]?.getD undef = v := by simpa using hv
  have hk' : tmps[k]?.getD undef = u := by simpa using hk
  simp only [results, hr]
  simp [hp', hv', hk', asAddr, hl, Result.andThen]

set_option maxRecDepth 100000 in
theorem take_gone (p : Option Nat) (w : World) (h : Gone p w) : Calls Tryz.prog 5 #[ptr p, .slice none 0 0] w fun e w' => e = .returned (.tuple #[.agg resZ, .bool false]) ∧ Below w.heap.size w w' := by
  have hb : Below w.heap.size w (w.alloc (.cells resZ 41)) := (Below.refl _ _).alloc (Nat.le_refl _) _
  have hk : (w.alloc (.cells resZ 41)).heap[w.heap.size]? = some (.cells resZ 41) := by show (w.heap.push _)[w.heap.size]? = some _; exact Array.getElem?_push_size
  have hth := there_gone p _ (h.later hb)
  unfold resZ at hth
  go_enter Tryz.func5, Tryz.ntmps5
  go_wp2_with fail
  refine hth.mono ?_
  rintro e w1 ⟨rfl, rfl⟩
  go_wp2_with (refine wpList_store_new rfl rfl rfl rfl (by kernel_rfl) rfl (by kernel_rfl) ?_; go_simp)
  exact bodyPost_ret (results_cell2 (i := 4) (j := 5) (t := 41) rfl rfl rfl (by kernel_rfl) (by kernel_rfl) hk) rfl ⟨rfl, hb⟩
set_option maxRecDepth 100000 in
theorem under_gone (p : Option Nat) (w : World) (h : Gone p w) : Calls Tryz.prog 6 #[ptr p] w fun e w' => e = .returned (.tuple #[zeroR.val, .bool false]) ∧ Below w.heap.size w w' := by
  have hb : Below w.heap.size w (w.alloc zeroR.box) := (Below.refl _ _).alloc (Nat.le_refl _) _
  have hk : (w.alloc zeroR.box).heap[w.heap.size]? = some zeroR.box := by show (w.heap.push _)[w.heap.size]? = some _; exact Array.getElem?_push_size
  have hth := there_gone p _ (h.later hb)
  unfold RV.box RV.cells at hth
  dsimp only [zeroR, zeroV] at hth
  go_enter Tryz.func6, Tryz.ntmps6
  go_wp2_with fail
  refine hth.mono ?_
  rintro e w1 ⟨rfl, rfl⟩
  go_wp2_with (refine wpList_store_new rfl rfl rfl rfl (by kernel_rfl) rfl (by kernel_rfl) ?_; go_simp)
  exact bodyPost_ret (results_cell2 (i := 2) (j := 3) (t := 45) rfl rfl rfl (by kernel_rfl) (by kernel_rfl) hk) rfl ⟨rfl, hb⟩
set_option maxRecDepth 100000 in
theorem last_gone (p : Option Nat) (w : World) (h : Gone p w) : Calls Tryz.prog 7 #[ptr p] w fun e w' => e = .returned (.tuple #[.int .u64 0, .agg resZ, .bool false]) ∧ Below w.heap.size w w' := by
  have hb : Below w.heap.size w (w.alloc (.cells resZ 41)) := (Below.refl _ _).alloc (Nat.le_refl _) _
  have hk : (w.alloc (.cells resZ 41)).heap[w.heap.size]? = some (.cells resZ 41) := by show (w.heap.push _)[w.heap.size]? = some _; exact Array.getElem?_push_size
  have hth := there_gone p _ (h.later hb)
  unfold resZ at hth
  go_enter Tryz.func7, Tryz.ntmps7
  go_wp2_with fail
  refine hth.mono ?_
  rintro e w1 ⟨rfl, rfl⟩
  go_wp2_with (refine wpList_store_new rfl rfl rfl rfl (by kernel_rfl) rfl (by kernel_rfl) ?_; go_simp)
  exact bodyPost_ret (results_cell3 (k := 2) (i := 3) (j := 4) (t := 41) rfl rfl rfl rfl (by kernel_rfl) (by kernel_rfl) hk) rfl ⟨rfl, hb⟩
set_option maxRecDepth 100000 in
theorem tick_gone (p : Option Nat) (w : World) (h : Gone p w) : Calls Tryz.prog 8 #[ptr p] w fun e w' => e = .returned (.slice none 0 0) ∧ w' = w := by
  go_enter Tryz.func8, Tryz.ntmps8
  go_wp2_with fail
  refine (there_gone p w h).mono ?_
  rintro e w1 ⟨rfl, rfl⟩
  go_wp2_with fail
  go_ret
  exact ⟨rfl, rfl⟩
theorem copy_gone (p : Option Nat) (w : World) (h : Gone p w) : Calls Tryz.prog 13 #[ptr p] w fun e w' => e = .returned (.pointer none) ∧ w' = w := by
  go_enter Tryz.func13, Tryz.ntmps13
  go_wp2_with fail
  refine (there_gone p w h).mono ?_
  rintro e w1 ⟨rfl, rfl⟩
  go_wp2_with fail
  go_ret
  exact ⟨rfl, rfl⟩
theorem eqPtr (a : Addr) (w : World) : Sem.run Tryz.prog (binOp BinOp.eql 27 (.pointer (some a)) (.pointer none)) w = .ok (.bool false) w := by kernel_rfl
theorem eqNil (w : World) : Sem.run Tryz.prog (binOp BinOp.eql 27 (.pointer none) (.pointer none)) w = .ok (.bool true) w := by kernel_rfl
/-- View. -/
theorem view_any (S : SV) (g : Nat) (w : World) (h : w.heap[g]? = some S.box) : Calls Tryz.prog 9 #[.pointer (some ⟨g, 0, none⟩)] w fun e w' => e = .returned (.int .u64 S.vi) ∧ w' = w := by
  obtain ⟨c0, c1, c2, c3, c4, c5, c6, c7, -⟩ := sbox_all h
  have hpe := eqPtr ⟨g, 0, none⟩
  go_enter Tryz.func9, Tryz.ntmps9
  go_wp2_with fail
  go_ret
  exact ⟨rfl, rfl⟩
theorem view_gone (p : Option Nat) (w : World) (h : Gone p w) : Calls Tryz.prog 9 #[ptr p] w fun e w' => e = .returned (.int .u64 0) ∧ w' = w := by
  cases p with
  | none =>
    have hpe := eqNil
    show Calls Tryz.prog 9 #[.pointer none] w _
    go_enter Tryz.func9, Tryz.ntmps9
    go_wp2_with fail
    go_ret
    exact ⟨rfl, rfl⟩
  | some g => exact view_any zeroS g w (h g rfl)
/-- Client. -/
theorem client_any (S : SV) (g : Nat) (w : World) (h : w.heap[g]? = some S.box) : Calls Tryz.prog 10 #[.pointer (some ⟨g, 0, none⟩)] w fun e w' => e = .returned (.int .u64 S.cl) ∧ w' = w := by
  obtain ⟨c0, c1, c2, c3, c4, c5, c6, c7, -⟩ := sbox_all h
  have hpe := eqPtr ⟨g, 0, none⟩
  go_enter Tryz.func10, Tryz.ntmps10
  go_wp2_with fail
  go_ret
  exact ⟨rfl, rfl⟩
theorem client_gone (p : Option Nat) (w : World) (h : Gone p w) : Calls Tryz.prog 10 #[ptr p] w fun e w' => e = .returned (.int .u64 0) ∧ w' = w := by
  cases p with
  | none =>
    have hpe := eqNil
    show Calls Tryz.prog 10 #[.pointer none] w _
    go_enter Tryz.func10, Tryz.ntmps10
    go_wp2_with fail
    go_ret
    exact ⟨rfl, rfl⟩
  | some g => exact client_any zeroS g w (h g rfl)
/-- Num. -/
theorem num_any (S : SV) (g : Nat) (w : World) (h : w.heap[g]? = some S.box) : Calls Tryz.prog 11 #[.pointer (some ⟨g, 0, none⟩)] w fun e w' => e = .returned (.int .u64 S.num) ∧ w' = w := by
  obtain ⟨c0, c1, c2, c3, c4, c5, c6, c7, -⟩ := sbox_all h
  have hpe := eqPtr ⟨g, 0, none⟩
  go_enter Tryz.func11, Tryz.ntmps11
  go_wp2_with fail
  go_ret
  exact ⟨rfl, rfl⟩
theorem num_gone (p : Option Nat) (w : World) (h : Gone p w) : Calls Tryz.prog 11 #[ptr p] w fun e w' => e = .returned (.int .u64 0) ∧ w' = w := by
  cases p with
  | none =>
    have hpe := eqNil
    show Calls Tryz.prog 11 #[.pointer none] w _
    go_enter Tryz.func11, Tryz.ntmps11
    go_wp2_with fail
    go_ret
    exact ⟨rfl, rfl⟩
  | some g => exact num_any zeroS g w (h g rfl)
/-- Dropped. -/
theorem dropped_any (S : SV) (g : Nat) (w : World) (h : w.heap[g]? = some S.box) : Calls Tryz.prog 12 #[.pointer (some ⟨g, 0, none⟩)] w fun e w' => e = .returned (.int .i64 S.dr) ∧ w' = w := by
  obtain ⟨c0, c1, c2, c3, c4, c5, c6, c7, -⟩ := sbox_all h
  have hpe := eqPtr ⟨g, 0, none⟩
  go_enter Tryz.func12, Tryz.ntmps12
  go_wp2_with fail
  go_ret
  exact ⟨rfl, rfl⟩
theorem dropped_gone (p : Option Nat) (w : World) (h : Gone p w) : Calls Tryz.prog 12 #[ptr p] w fun e w' => e = .returned (.int .i64 0) ∧ w' = w := by
  cases p with
  | none =>
    have hpe := eqNil
    show Calls Tryz.prog 12 #[.pointer none] w _
    go_enter Tryz.func12, Tryz.ntmps12
    go_wp2_with fail
    go_ret
    exact ⟨rfl, rfl⟩
  | some g => exact dropped_any zeroS g w (h g rfl)
end Go.Proofs.YtloamijcabkekaaGreatDoor.Msg
