/-
  The walk of TlvGoes.
-/
import Derived.Test.YtpkabinmnkadeaaVk
namespace Go.Proofs.Ytpkabinmnkadeaa.Tlv
open Go.RowKit Go.Proofs.Ytpkabinmnkadeaa.Mem

theorem bytes_of (zs : List Int) (h : ∀ z ∈ zs, 0 ≤ z ∧ z < 256) : ∃ b : List UInt8, zs.map (Value.int .u8) = byV b := by
  induction zs with
  | nil => exact ⟨[], rfl⟩
  | cons z zs ih =>
    obtain ⟨b, hb⟩ := ih (fun y hy => h y (List.mem_cons_of_mem _ hy))
    obtain ⟨h1, h2⟩ := h z List.mem_cons_self
    refine ⟨UInt8.ofNat z.toNat :: b, ?_⟩
    show Value.int .u8 z :: zs.map (Value.int .u8) = .int .u8 ((UInt8.ofNat z.toNat).toNat : Int) :: byV b
    rw [hb, UInt8.toNat_ofNat', Nat.mod_eq_of_lt (by omega), Int.toNat_of_nonneg h1]
theorem allEl.mono {B B' : Nat} {xs : List El} {W : World} (h : allEl B xs W) (hB : B ≤ B') : allEl B' xs W := fun x hx => ⟨(h x hx).1, fun h0 a ha => Nat.lt_of_lt_of_le ((h x hx).2 h0 a ha) hB⟩

set_option maxRecDepth 100000 in
theorem goes_any (ao : Option Addr) (n cap : Nat) (b : List UInt8) (most : Int) (W : World) (hr : Rd W 1 ao n cap (byV b)) : Calls Try.prog 3 #[.slice ao n cap, .int .i64 most] W (Utf.GivesTrue W) := by
  have hm := hr.2.2.1
  by_cases hn : 9000 < n
  · have f0 : decide ((9000 : Int) < (n : Int)) = true := decide_eq_true (by omega)
    go_enter Try.func3, Try.ntmps3
    go_wp2_with fail
    refine (known_any _).mono ?_
    rintro e w' ⟨rfl, hb⟩
    go_wp2
    go_ret
    exact ⟨rfl, hb⟩
  · have f0 : decide ((9000 : Int) < (n : Int)) = false := decide_eq_false (by omega)
    go_enter Try.func3, Try.ntmps3
    go_wp2_with fail
    refine (rall_any ao n cap b W hr (by omega)).mono ?_
    rintro e w1 ⟨aw, capw, xs, rfl, hc, hrw, hall, hb1, _⟩
    have hr1 := hr.later hb1
    have hall1 := hall.mono hb1.size
    go_wp2_with fail
    refine (once_any ao aw n cap _ capw b xs 0 w1 (by omega) hr1 hrw hc hall1).mono ?_
    rintro e w2 ⟨rfl, hb2⟩
    go_wp2_with fail
    refine (once_any ao aw n cap _ capw b xs most w2 (by omega) (hr1.later hb2) (hrw.later hb2) hc ((hall1.below hb2).mono hb2.size)).mono ?_
    rintro e w3 ⟨rfl, hb3⟩
    go_wp2_with fail
    refine (known_any w3).mono ?_
    rintro e w4 ⟨rfl, hb4⟩
    go_wp2
    go_ret
    exact ⟨rfl, ((hb1.trans (hb2.mono hb1.size)).trans (hb3.mono (hb2.mono hb1.size |>.size |> Nat.le_trans hb1.size))).trans (hb4.mono (Nat.le_trans hb1.size (Nat.le_trans hb2.size hb3.size)))⟩

/-- .. as it comes in. -/
theorem goes_in (ao : Option Addr) (n cap : Nat) (zs : List Int) (most : Int) (W : World) (hr : Rd W 1 ao n cap (zs.map (Value.int .u8))) (hz : ∀ z ∈ zs, (Lit.int .u8 z).wf = true) : Calls Try.prog 3 #[.slice ao n cap, .int .i64 most] W (Utf.GivesTrue W) := by
  obtain ⟨b, hb⟩ := bytes_of zs (fun z h => by have := hz z h; simp only [Lit.wf, Bool.and_eq_true, decide_eq_true_eq] at this; exact ⟨this.1, Int.lt_of_le_sub_one this.2⟩)
  rw [hb] at hr
  exact goes_any ao n cap b most W hr
end Go.Proofs.Ytpkabinmnkadeaa.Tlv
