/-
  The walk of the statement's own 'once' over values.
-/
import Derived.Test.YtienfppidmjfpaaVf
import Derived.Test.YtienfppidmjfpaaVh
import Derived.Test.YtienfppidmjfpaaUh
import Derived.Shelf.RegionOpen
import Derived.RangeFuncNested
namespace Go.Proofs.Ytienfppidmjfpaa.Tlv
open Go.RowKit Go.Shelf Go.Proofs.Ytienfppidmjfpaa.Mem
attribute [local go_sem] Oper.semAt_some

theorem itV_at (xs : List El) (k : Nat) (y : El) (h : xs[k]? = some y) : (itV xs)[k * 2]? = some (.int .u8 (y.it.1.toNat : Int)) ∧ (itV xs)[k * 2 + 1]? = some (.slice y.ao y.it.2.length y.cap) := by
  induction xs generalizing k with
  | nil => simp at h
  | cons z xs ih =>
    cases k with
    | zero =>
      rw [List.getElem?_cons_zero, Option.some.injEq] at h
      subst h
      exact ⟨rfl, rfl⟩
    | succ k =>
      rw [List.getElem?_cons_succ] at h
      obtain ⟨h1, h2⟩ := ih k h
      simp only [itV, List.flatMap_cons, List.cons_append, List.nil_append] at h1 h2 ⊢
      rw [show (k + 1) * 2 = k * 2 + 1 + 1 by omega]
      simp only [List.getElem?_cons_succ]
      exact ⟨h1, h2⟩
theorem run_strD (ao : Option Addr) (n cap : Nat) (l : List UInt8) (w : World) (hr : Rd w 1 ao n cap (byV l)) :
    (convert 29 9 (.slice ao n cap)).run Try.prog w = .ok (.string ⟨l.toArray⟩) w :=
  run_str w 29 9 5 Try.underlying29 (by kernel_rfl) (by kernel_rfl) ao n cap l hr

theorem came_last {pre : List El} {x : El} {rs : List It} {k : Nat} (hk : pre.length = k) (h : came (pre ++ [x]) = rs.take (pre ++ [x]).length) : rs[k]?.getD (0, []) = x.it := by
  have h2 := congrArg (fun l => l[k]?) h
  have h3 : (pre ++ [x]).length = k + 1 := by simp [hk]
  simp only [h3] at h2
  rw [List.getElem?_take_of_lt (Nat.lt_succ_self k)] at h2
  rw [← h2, came, List.getElem?_map, List.getElem?_append_right (by omega)]
  simp [hk]
theorem keepsOthers_b {W W' : World} (h : Below W.heap.size W W') : KeepsOthers W W' := ⟨h.size, fun k _ hk _ => (h.block k (Array.getElem?_eq_some_iff.1 hk).1).trans hk⟩
theorem boxed_drew {W : World} {B : Nat} {t : TypeId} {v : Value} (h : Boxed W B t v) (q : Nat) : Boxed (W.drewN q) B t v := (Below.block (below_drewN (Below.refl _ W) q) B h.lt).trans h

/-- .. and where a round has left. -/
def OnceEnd (w : World) (rs : List It) (pre : List El) (W : World) : Prop :=
  (∃ b, Boxed W (w.heap.size + 1 + 1) 4 (.bool b) ∧ (b = true ∨ ¬ came pre = rs.take pre.length)) ∧ Below w.heap.size w W
theorem onceEnd_own (w : World) (rs : List It) (B : Nat) (hB : w.heap.size ≤ B) : OwnFrom B (OnceEnd w rs) := by
  intro pre X Y row h hg hr
  obtain ⟨⟨b, hb, hc⟩, hbel⟩ := h
  exact ⟨⟨b, boxed_own _ _ (fun _ : Unit => Value.bool b) () X Y row hb hg (fun r e => (hr r e).2), hc⟩, hbel.grown hg hbel.size (fun k e => by have := (hr k e).1; omega)⟩
/-- The iterator's contract at its callers. -/
theorem all1_seq (m : Nat) (hm : 1 ≤ m) (n0 : Nat) (ao : Option Addr) (n cap : Nat) (b : List UInt8) (hn : n ≤ 1000000000) (w : World) (hrd : Rd w 1 ao n cap (byV b)) (hlow : 0 < cap → ∀ a, ao = some a → a.block < n0) (hn0 : n0 ≤ w.heap.size) (Bn : Nat) (hBn : w.cell? ⟨Bn, 0, none⟩ = some (.slice ao n cap)) :
    SeqG Fence.wide m Try.prog 81 #[.pointer (some ⟨Bn, 0, none⟩)] elV (Below n0) elG elFr (SAll (its b)) (SPart (its b)) (its b).length w :=
  fun l J Jx W hW hJa _ hY h0 => all1_in m hm l Bn n0 ao n cap b hn J Jx hY W hJa ((hW.cell (p := ⟨Bn, 0, none⟩) (World.block_lt_of_cell? w _ hBn)).trans hBn) (hrd.later hW) hlow (Nat.le_trans hn0 hW.size) h0

end Go.Proofs.Ytienfppidmjfpaa.Tlv
