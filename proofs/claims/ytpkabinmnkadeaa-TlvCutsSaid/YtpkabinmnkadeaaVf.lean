/-
  tlv.All, and the reference's All.
-/
import Derived.Test.YtpkabinmnkadeaaVe
import Derived.Deep.RegionHeld3
namespace Go.Proofs.Ytpkabinmnkadeaa.Tlv
open Go.RowKit Go.Proofs.Ytpkabinmnkadeaa.Mem

theorem allF_any (ao : Option Addr) (n cap : Nat) (w : World) : Calls Try.prog 40 #[.slice ao n cap] w fun e w' => e = .returned (.func (.func 63) #[] #[.pointer (some ⟨w.heap.size, 0, none⟩)]) ∧ w.alloc (.cells #[.slice ao n cap] 22) = w' := by
  go_enter Try.func40, Try.ntmps40
  go_wp2
  go_ret
  exact ⟨rfl, rfl⟩

/-- The cells of items. -/
def itV (xs : List El) : List Value := xs.flatMap fun x => [.int .u8 (x.it.1.toNat : Int), .slice x.ao x.it.2.length x.cap]
theorem itV_app (a b : List El) : itV (a ++ b) = itV a ++ itV b := by simp [itV]
theorem itV_len (a : List El) : (itV a).length = a.length * 2 := by
  induction a with
  | nil => rfl
  | cons x a ih => simp only [itV, List.flatMap_cons, List.length_append] at ih ⊢; simp at ih ⊢; omega
theorem itT : SliceT Try.prog 24 79 (.agg #[.int .u8 0, .slice none 0 0]) 2 32 := ⟨Try.underlying24, by kernel_rfl, rfl, by decide⟩
/-- An element's bytes lie below a block. -/
def elLow (B : Nat) (x : El) : Prop := 0 < x.cap → ∀ a, x.ao = some a → a.block < B
def allEl (B : Nat) (xs : List El) (W : World) : Prop := ∀ x ∈ xs, elG x W ∧ elLow B x
theorem allEl.below {B : Nat} {xs : List El} {W W' : World} (h : allEl B xs W) (hb : Below B W W') : allEl B xs W' := fun x hx => ⟨Rd.below (h x hx).1 hb (h x hx).2, (h x hx).2⟩
theorem allEl.snoc {B : Nat} {xs : List El} {W : World} {x : El} (h : allEl B xs W) (h1 : elG x W) (h2 : elLow B x) : allEl B (xs ++ [x]) W := by
  intro y hy
  rcases List.mem_append.1 hy with hy | hy
  · exact h y hy
  · rw [List.mem_singleton] at hy; subst hy; exact ⟨h1, h2⟩

/-- What the reference's All answers. -/
def GivesAll (w : World) (b : List UInt8) (e : Ending) (w' : World) : Prop := ∃ ao cap xs, e = .returned (.tuple #[.slice ao (its b).length cap, .int .i64 (ip (its b) (its b).length : Nat)]) ∧ came xs = its b ∧
  Rd w' 2 ao (its b).length cap (itV xs) ∧ allEl w.heap.size xs w' ∧ Below w.heap.size w w' ∧ (0 < cap → ∀ a, ao = some a → w.heap.size ≤ a.block)

/-- First of what stands from a place on. -/
def AnsAt (B : Nat) (w : World) (l : List UInt8) (e : Ending) (w' : World) : Prop := Below w.heap.size w w' ∧
  ((fs l = 0 ∧ e = .returned (.tuple #[.int .u8 0, .slice none 0 0, .int .i64 0])) ∨
   (fs l ≠ 0 ∧ ∃ x : El, x.it = hd1 l ∧ e = .returned (.tuple #[.int .u8 (x.it.1.toNat : Int), .slice x.ao x.it.2.length x.cap, .int .i64 (fs l : Int)]) ∧ elG x w' ∧ elLow B x))
theorem rfirst_at (B : Nat) (ao : Option Addr) (n cap : Nat) (l : List UInt8) (w : World) (hr : Rd w 1 ao n cap (byV l)) (hn : n ≤ 1000000000) (hlow : 0 < cap → ∀ a, ao = some a → a.block < B) :
    Calls Try.prog 43 #[.slice ao n cap] w (AnsAt B w l) := by
  refine (rfirst_any ao n cap l w hr hn).mono ?_
  rintro e w' ⟨hb, h⟩
  refine ⟨hb, ?_⟩
  rcases h with h | ⟨hf, ao2, cap2, he, hg, hl⟩
  · exact .inl h
  · refine .inr ⟨hf, ⟨hd1 l, ao2, cap2⟩, rfl, he, hg, fun h0 a ha => ?_⟩
    obtain ⟨a0, h1, h2⟩ := hl h0 a ha
    have h5 := fs_five l hf
    have hle := fs_le l
    have hlen := hr.1
    rw [byV_len] at hlen
    have hcap := hr.le
    rw [h2]; exact hlow (by omega) a0 h1

theorem gives_all {w w1 : World} {b : List UInt8} {rs : List It} {xs : List El} {v : Value} (hrs : its b = rs) (hx : came xs = rs.take rs.length) (ho : w1.ownsRow w.heap.size 79 2 v rs.length (itV xs)) (ha : allEl w.heap.size xs w1) (hb : Below w.heap.size w w1) :
    GivesAll w b (.returned (.tuple #[v, .int .i64 ((ip rs rs.length : Nat) : Int)])) w1 := by
  subst hrs
  obtain ⟨ao, cap, rfl, hr⟩ := Rd.of_own ho
  refine ⟨ao, cap, xs, rfl, by rw [hx, List.take_of_length_le (Nat.le_refl _)], hr, ha, hb, fun h0 a hh => ?_⟩
  subst hh
  rcases ho.2 with ⟨h, _⟩ | ⟨g, c, cur, h, hg, _⟩
  · cases (Value.slice.inj h).1
  · have := (Value.slice.inj h).1
    cases this
    exact hg

set_option maxRecDepth 100000 in
set_option maxHeartbeats 1000000 in
theorem rall_any (ao : Option Addr) (n cap : Nat) (b : List UInt8) (w : World) (hrd : Rd w 1 ao n cap (byV b)) (hn : n ≤ 100000000) :
    Calls Try.prog 14 #[.slice ao n cap] w (GivesAll w b) := by
  have hb : b.length = n := by have := hrd.1; rw [byV_len] at this; omega
  have HB := Lib.hid hb
  have hAt := Lib.hid (its_at b)
  have hLast := Lib.hid (its_last b)
  have hlR := its_len b
  rw [hb] at hlR
  clear hb
  generalize hrs : its b = rs at *
  have Hrs := Lib.hid hrs
  clear hrs
  go_enter Try.func14, Try.ntmps14
  go_wp2_with fail
  have ho0 : w.ownsRow w.heap.size 79 2 (.slice none 0 0) 0 (itV []) := World.ownsRow_nil _ _ _ _
  go_loopw [4, 5] (fun v p wr => ∃ (k : Nat) (xs : List El), k ≤ rs.length ∧ p = .int .i64 ((ip rs k : Nat) : Int) ∧ wr.ownsRow w.heap.size 79 2 v k (itV xs) ∧ Hid (came xs = rs.take k) ∧ allEl w.heap.size xs wr ∧ Below w.heap.size w wr) (fun _ p _ => n - (intOf p).toNat)
  case atStart => exact ⟨0, [], Nat.zero_le _, by rw [ip_zero]; rfl, ho0, rfl, (fun x hx => by cases hx), Below.refl _ _⟩
  case round =>
    obtain ⟨k, xs, hk, rfl, hown, Hx, hall, hbr⟩ := hrel
    have hip : ip rs k ≤ n := by
      by_cases hkr : k < rs.length
      · obtain ⟨_, _, h3, h4⟩ := hAt.out k hkr
        have := HB.out; omega
      · obtain rfl : k = rs.length := by omega
        have := hLast.out.2; have := HB.out; omega
    have hlow0 : 0 < cap → ∀ a, ao = some a → a.block < w.heap.size := hrd.lt
    have hrw := hrd.below hbr hlow0
    have hca : cap = 0 ∨ ∃ b1 o1, ao = some ⟨b1, o1, none⟩ ∧ b1 < w.heap.size := by
      by_cases h0 : 0 < cap
      · obtain ⟨b1, o1, h1, h2, _⟩ := hrd.some h0
        exact .inr ⟨b1, o1, h1, h2⟩
      · exact .inl (by omega)
    by_cases hc : cap = ip rs k
    · have hn0 : n - ip rs k = 0 := by have := hrd.le; omega
      have hd0 : b.drop (ip rs k) = [] := List.drop_eq_nil_of_le (by have := HB.out; omega)
      have Hd0 := Lib.hid hd0
      clear hd0
      subst hc
      go_wp2_with fail
      refine (rfirst_at w.heap.size _ _ _ (b.drop (ip rs k)) wr (by rw [Hd0.out]; exact ⟨rfl, Nat.le_refl _, Nat.zero_le _, (fun _ => rfl), fun h => absurd h (Nat.lt_irrefl 0)⟩) (by omega) (fun h => absurd h (Nat.lt_irrefl 0))).mono ?_
      rintro e w1 ⟨hb1, hc1⟩
      have hbc := hbr.trans (hb1.mono hbr.size)
      have hall1 := hall.below (hb1.mono hbr.size)
      have hown1 := own_later hown hb1
      by_cases hkr : k < rs.length
      · obtain ⟨hx, hf, hip1, hle⟩ := hAt.out k hkr
        rcases hc1 with ⟨h00, _⟩ | ⟨_, x, hxi, rfl, hg, hlw⟩
        · exact absurd h00 hf
        have Hxi := Lib.hid (hx.trans hxi.symm)
        have Hip := Lib.hid hip1
        have hfp := fs_five _ hf
        have hle2 : ip rs k + fs (b.drop (ip rs k)) ≤ n := by have := HB.out; omega
        clear hx hip1 hle hxi
        generalize hff : fs (b.drop (ip rs k)) = f at *
        clear hff
        exfalso; have := hrd.le; omega
      · obtain rfl : k = rs.length := by omega
        rcases hc1 with ⟨_, rfl⟩ | ⟨h00, _⟩
        case inr => exact absurd hLast.out.1 h00
        have hfin := gives_all Hrs.out Hx.out hown1 hall1 hbc
        go_wp2
        go_ret2
        exact hfin
    · obtain ⟨b1, o1, e1, hlt1⟩ : ∃ b1 o1, ao = some ⟨b1, o1, none⟩ ∧ b1 < w.heap.size := hca.resolve_left (fun h0 => hc (by have := hrd.le; omega))
      subst e1
      have hc2 : ¬ cap - ip rs k = 0 := by have := hrd.le; omega
      go_wp2_with fail
      refine (rfirst_at w.heap.size _ _ _ (b.drop (ip rs k)) wr (rd_drop hrw hip) (by omega) (fun _ a ha => by cases ha; exact hlt1)).mono ?_
      rintro e w1 ⟨hb1, hc1⟩
      have hbc := hbr.trans (hb1.mono hbr.size)
      have hall1 := hall.below (hb1.mono hbr.size)
      have hown1 := own_later hown hb1
      by_cases hkr : k < rs.length
      · obtain ⟨hx, hf, hip1, hle⟩ := hAt.out k hkr
        rcases hc1 with ⟨h00, _⟩ | ⟨_, x, hxi, rfl, hg, hlw⟩
        · exact absurd h00 hf
        have Hxi := Lib.hid (hx.trans hxi.symm)
        have Hip := Lib.hid hip1
        have hfp := fs_five _ hf
        have hle2 : ip rs k + fs (b.drop (ip rs k)) ≤ n := by have := HB.out; omega
        clear hx hip1 hle hxi
        generalize hff : fs (b.drop (ip rs k)) = f at *
        clear hff
        have f1 : ((f : Int) == 0) = false := by simp; omega
        have hk5 : k ≤ 100000000 := by omega
        go_wp2_with (at_builtin; refine wpList_lit _ rfl (.tmp 21) (.tmp 25) 24 rfl w.heap.size 79 (.agg #[.int .u8 0, .slice none 0 0]) 2 32 itT (by decide) _ k (itV xs) rfl hown1 1 [.int .u8 (x.it.1.toNat : Int), .slice x.ao x.it.2.length x.cap] rfl rfl (fun u hu => by simp at hu; rcases hu with rfl | rfl <;> rfl) hbc.size (by omega) ?_; intro ao' cap' w2 ho2 _ hb2 _)
        go_roundw
        case rel => exact ⟨k + 1, xs ++ [x], by omega, (by rw [Hip.out]; go_num), (by rw [itV_app]; exact ho2), came_snoc Hx.out hkr Hxi.out, (hall1.snoc hg hlw).below hb2, hbc.trans hb2⟩
        case measure => simp [intOf]; omega
      · obtain rfl : k = rs.length := by omega
        rcases hc1 with ⟨_, rfl⟩ | ⟨h00, _⟩
        case inr => exact absurd hLast.out.1 h00
        have hfin := gives_all Hrs.out Hx.out hown1 hall1 hbc
        go_wp2
        go_ret2
        exact hfin
end Go.Proofs.Ytpkabinmnkadeaa.Tlv
