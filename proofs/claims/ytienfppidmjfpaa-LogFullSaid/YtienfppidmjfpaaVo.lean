/-
  The writer's lists.
-/
import Derived.Test.YtienfppidmjfpaaVm
import Derived.Test.YtienfppidmjfpaaVn
import Derived.WalkMore
import Derived.Deep.LoopGhost
namespace Go.Proofs.Ytienfppidmjfpaa.Tlv
open Go.RowKit Go.Proofs.Ytienfppidmjfpaa.Mem

set_option maxRecDepth 100000 in
set_option maxHeartbeats 2000000 in
theorem wlist_bad (B g : Nat) (s : WS) (t : UInt8) (n : Int) (fv : Value) (W : World) (hw : WrS B g s W) (hb : ¬ s.bad = 0) :
    Calls Try.prog 63 #[.pointer (some ⟨g, 0, none⟩), .int .u8 (t.toNat : Int), .int .i64 n, fv] W (Turns B g s W) := by
  have hws := hw
  obtain ⟨v, hw⟩ := hw
  obtain ⟨l, bad⟩ := s
  dsimp only at hw hb
  have hat := hw.at_
  have c1 : W.cell? ⟨g, 1, none⟩ = some (.int .i64 bad) := by simp [World.cell?, hat]
  have f1 : (bad == 0) = false := by simp [hb]
  have hpe : ∀ (w : World), Sem.run Try.prog (binOp BinOp.eql 76 (.pointer (some ⟨g, 0, none⟩)) (.pointer none)) w = .ok (.bool false) w := fun _ => by kernel_rfl
  go_enter Try.func63, Try.ntmps63
  go_wp2_with fail
  go_step3
  go_wp2_with fail
  rw [Exit.noGoto_ret]
  go_ret
  exact ⟨rfl, hws, Below.refl _ _, Stays.refl g W⟩
set_option maxRecDepth 100000 in
set_option maxHeartbeats 2000000 in
theorem wlist_neg (B g : Nat) (s : WS) (t : UInt8) (fv : Value) (W : World) (hw : WrS B g s W) :
    Calls Try.prog 63 #[.pointer (some ⟨g, 0, none⟩), .int .u8 (t.toNat : Int), .int .i64 (-1), fv] W (Turns B g (s.fail 2) W) := by
  by_cases hb : s.bad = 0
  · have hws := hw
    obtain ⟨v, hw⟩ := hw
    obtain ⟨l, bad⟩ := s
    dsimp only at hw hb
    subst hb
    have hat := hw.at_
    have c1 : W.cell? ⟨g, 1, none⟩ = some (.int .i64 0) := by simp [World.cell?, hat]
    have hpe : ∀ (w : World), Sem.run Try.prog (binOp BinOp.eql 76 (.pointer (some ⟨g, 0, none⟩)) (.pointer none)) w = .ok (.bool false) w := fun _ => by kernel_rfl
    go_enter Try.func63, Try.ntmps63
    go_wp2_with fail
    go_step3
    go_wp2_with fail
    refine (wfail_any B g ⟨l, 0⟩ 2 W hws).mono ?_
    rintro e w' ⟨rfl, h2⟩
    go_wp2
    rw [Exit.noGoto_ret]
    go_ret
    exact ⟨rfl, h2⟩
  · rw [show s.fail 2 = s from by unfold WS.fail; rw [if_neg hb]]
    exact wlist_bad B g s t (-1) fv W hw hb
end Go.Proofs.Ytienfppidmjfpaa.Tlv
