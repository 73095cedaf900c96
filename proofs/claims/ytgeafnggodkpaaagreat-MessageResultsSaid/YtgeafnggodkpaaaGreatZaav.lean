/-
  A part of the proof: what this text holds is told at each of its declarations.
-/
import Derived.Test.YtgeafnggodkpaaaGreatZaad
import Derived.Test.YtgeafnggodkpaaaGreatZaac
namespace Go.Proofs.YtgeafnggodkpaaaGreat.Tlv
open Go.RowKit Go.Proofs.YtgeafnggodkpaaaGreat.Mem

/-- A reader's state: what is left, and whether it failed. -/
structure RS where
  l : List UInt8
  bad : Bool
/-- What a slice of bytes points into is a block of bytes. -/
def Ty8 (W : World) (ao : Option Addr) (cap : Nat) : Prop := 0 < cap → ∀ a, ao = some a → ∃ c fr, W.heap[a.block]? = some (.cells c 5 fr)
theorem grown_set (W : World) (b i : Nat) (u : Value) : W.grownBy (W.setCell ⟨b, i, none⟩ u) (some b) :=
  ⟨rfl, rfl, rfl, by simp, fun k _ hk => Below.heap_setCell W ⟨b, i, none⟩ u k (fun e => hk (by rw [e]))⟩
theorem Ty8.ne {W : World} {ao : Option Addr} {cap g : Nat} {o : Obj} (h : Ty8 W ao cap) (hg : W.heap[g]? = some o) (ho : ∀ c fr, o ≠ .cells c 5 fr) : 0 < cap → ∀ a, ao = some a → a.block ≠ g := by
  rintro h0 a ha rfl
  obtain ⟨c, fr, h1⟩ := h h0 a ha
  rw [h1] at hg
  exact ho c fr (Option.some.inj hg).symm
theorem Ty8.grown {W W' : World} {ao : Option Addr} {cap : Nat} {row : Option Nat} (h : Ty8 W ao cap) (hg : W.grownBy W' row) (hd : 0 < cap → ∀ a, ao = some a → some a.block ≠ row) : Ty8 W' ao cap := fun h0 a ha => by
  obtain ⟨c, fr, h1⟩ := h h0 a ha
  exact ⟨c, fr, (hg.block _ (Array.getElem?_eq_some_iff.1 h1).1 (hd h0 a ha)).trans h1⟩
theorem Ty8.later {W W' : World} {ao : Option Addr} {cap : Nat} (h : Ty8 W ao cap) (hb : Below W.heap.size W W') : Ty8 W' ao cap := fun h0 a ha => by
  obtain ⟨c, fr, h1⟩ := h h0 a ha
  exact ⟨c, fr, (hb.block _ (Array.getElem?_eq_some_iff.1 h1).1).trans h1⟩
theorem Ty8.zero (W : World) (ao : Option Addr) : Ty8 W ao 0 := fun h => absurd h (Nat.lt_irrefl 0)
theorem Ty8.of_own {W : World} {B n : Nat} {ao : Option Addr} {cap : Nat} {xs : List Value} (h : W.ownsRow B 5 1 (.slice ao n cap) n xs) : Ty8 W ao cap := by
  intro h0 a ha
  subst ha
  rcases h.2 with ⟨h1, _⟩ | ⟨g, c, cur, h1, _, h3, _⟩
  · cases h1
  · have := (Value.slice.inj h1).1
    cases this
    exact ⟨_, _, h3⟩
/-- A reader at g of a state. -/
structure RdAt (B g : Nat) (s : RS) (ao : Option Addr) (cap : Nat) (W : World) : Prop where
  at_ : W.heap[g]? = some (.cells #[.slice ao s.l.length cap, .bool s.bad, .bool true] 146)
  le : B ≤ g
  rd : Rd W 1 ao s.l.length cap (byV s.l)
  ty : Ty8 W ao cap
def RdS (B g : Nat) (s : RS) (W : World) : Prop := ∃ ao cap, RdAt B g s ao cap W
theorem RdAt.ne {B g : Nat} {s : RS} {ao : Option Addr} {cap : Nat} {W : World} (h : RdAt B g s ao cap W) : 0 < cap → ∀ a, ao = some a → a.block ≠ g := h.ty.ne h.at_ (fun _ _ h => by cases h)
theorem RdAt.lt {B g : Nat} {s : RS} {ao : Option Addr} {cap : Nat} {W : World} (h : RdAt B g s ao cap W) : g < W.heap.size := (Array.getElem?_eq_some_iff.1 h.at_).1
theorem RdAt.later {B g : Nat} {s : RS} {ao : Option Addr} {cap : Nat} {W W' : World} (h : RdAt B g s ao cap W) (hb : Below W.heap.size W W') : RdAt B g s ao cap W' := ⟨(hb.block g h.lt).trans h.at_, h.le, h.rd.later hb, h.ty.later hb⟩
theorem RdS.later {B g : Nat} {s : RS} {W W' : World} (h : RdS B g s W) (hb : Below W.heap.size W W') : RdS B g s W' := by
  obtain ⟨ao, cap, h⟩ := h; exact ⟨ao, cap, h.later hb⟩
theorem RdAt.grown {B g : Nat} {s : RS} {ao : Option Addr} {cap : Nat} {W W' : World} {row : Option Nat} (h : RdAt B g s ao cap W) (hg : W.grownBy W' row) (h1 : some g ≠ row) (h2 : 0 < cap → ∀ a, ao = some a → some a.block ≠ row) : RdAt B g s ao cap W' :=
  ⟨(hg.block g h.lt h1).trans h.at_, h.le, rd_grown h.rd hg h2, h.ty.grown hg h2⟩
/-- .. behind a change of another block that is no row of bytes. -/
theorem RdS.grown {B g k : Nat} {s : RS} {W W' : World} {o : Obj} (h : RdS B g s W) (hg : W.grownBy W' (some k)) (hk : W.heap[k]? = some o) (ho : ∀ c fr, o ≠ .cells c 5 fr) (hgk : g ≠ k) : RdS B g s W' := by
  obtain ⟨ao, cap, h⟩ := h
  exact ⟨ao, cap, h.grown hg (fun e => hgk (Option.some.inj e)) (fun h0 a ha e => h.ty.ne hk ho h0 a ha (Option.some.inj e))⟩
theorem set_at {W : World} {g i : Nat} {cs : Array Value} {t : TypeId} {fr : Nat × Nat} (h : W.heap[g]? = some (.cells cs t fr)) (v : Value) : (W.setCell ⟨g, i, none⟩ v).heap[g]? = some (.cells (cs.setIfInBounds i v) t fr) := by
  have hlt := (Array.getElem?_eq_some_iff.1 h).1
  have h2 := (Array.getElem?_eq_some_iff.1 h).2
  simp only [World.setCell, Array.getElem?_eq_getElem, Array.size_modify, hlt, Array.getElem_modify_self, h2]
  rfl
theorem RdAt.fail {B g : Nat} {s : RS} {ao : Option Addr} {cap : Nat} {W : World} (h : RdAt B g s ao cap W) : RdAt B g ⟨s.l, true⟩ ao cap (W.setCell ⟨g, 1, none⟩ (.bool true)) :=
  ⟨set_at h.at_ _, h.le, rd_grown h.rd (grown_set W g 1 _) (fun h0 a ha e => h.ne h0 a ha (Option.some.inj e)), h.ty.grown (grown_set W g 1 _) (fun h0 a ha e => h.ne h0 a ha (Option.some.inj e))⟩
theorem RdAt.move {B g : Nat} {s : RS} {ao : Option Addr} {cap : Nat} {W : World} (h : RdAt B g s ao cap W) {l' : List UInt8} {ao' : Option Addr} {cap' : Nat} (hr : Rd W 1 ao' l'.length cap' (byV l')) (ht : Ty8 W ao' cap') :
    RdAt B g ⟨l', s.bad⟩ ao' cap' (W.setCell ⟨g, 0, none⟩ (.slice ao' l'.length cap')) :=
  ⟨set_at h.at_ _, h.le, rd_grown hr (grown_set W g 0 _) (fun h0 a ha e => ht.ne h.at_ (fun _ _ h => by cases h) h0 a ha (Option.some.inj e)), ht.grown (grown_set W g 0 _) (fun h0 a ha e => ht.ne h.at_ (fun _ _ h => by cases h) h0 a ha (Option.some.inj e))⟩

set_option maxRecDepth 100000 in
theorem there_any (B g : Nat) (s : RS) (W : World) (hr : RdS B g s W) : Calls Tryz.prog 143 #[.pointer (some ⟨g, 0, none⟩)] W fun e w' => e = .returned (.bool (!s.bad)) ∧ W = w' := by
  obtain ⟨ao, cap, hr⟩ := hr
  have hat := hr.at_
  have c1 : W.cell? ⟨g, 1, none⟩ = some (.bool s.bad) := by simp [World.cell?, hat]
  have c2 : W.cell? ⟨g, 2, none⟩ = some (.bool true) := by simp [World.cell?, hat]
  have hpe : ∀ (w : World), Sem.run Tryz.prog (binOp BinOp.neq 82 (.pointer (some ⟨g, 0, none⟩)) (.pointer none)) w = .ok (.bool true) w := fun _ => by kernel_rfl
  go_enter Tryz.func143, Tryz.ntmps143
  go_wp2
  go_ret
  exact ⟨rfl, rfl⟩

/-- What take takes. -/
def RS.take (s : RS) (t : UInt8) : Option (List UInt8) × RS :=
  if s.bad = true then (none, s) else if fs s.l ≠ 0 ∧ (hd1 s.l).1 = t then (some (hd1 s.l).2, ⟨s.l.drop (fs s.l), false⟩) else (none, ⟨s.l, true⟩)
/-- Only block g may have turned. -/
def GivesT (B g : Nat) (s : RS) (t : UInt8) (W : World) (e : Ending) (w' : World) : Prop := RdS B g (s.take t).2 w' ∧ W.grownBy w' (some g) ∧
  match (s.take t).1 with
  | none => e = .returned (.tuple #[.slice none 0 0, .bool false])
  | some x => ∃ ao cap, e = .returned (.tuple #[.slice ao x.length cap, .bool true]) ∧ Rd w' 1 ao x.length cap (byV x) ∧ Ty8 w' ao cap
theorem grown_any {W W' : World} (h : Below W.heap.size W W') (row : Option Nat) : W.grownBy W' row := ⟨h.os, h.tape, h.output, h.size, fun k hk _ => h.block k hk⟩
theorem grown_trans {a b c : World} {row : Option Nat} (h : a.grownBy b row) (k : b.grownBy c row) : a.grownBy c row :=
  ⟨k.os.trans h.os, k.tape.trans h.tape, k.output.trans h.output, Nat.le_trans h.size k.size, fun j hj hn => (k.block j (Nat.lt_of_lt_of_le hj h.size) hn).trans (h.block j hj hn)⟩
theorem below_of_grown {a b : World} {B g : Nat} (h : a.grownBy b (some g)) (hB : B ≤ g) (hs : g < a.heap.size) : Below B a b := ⟨h.os, h.tape, h.output, h.size, fun k hk => h.block k (by omega) (fun e => by have := Option.some.inj e; omega)⟩

set_option maxRecDepth 100000 in
set_option maxHeartbeats 2000000 in
theorem take_any (B g : Nat) (s : RS) (t : UInt8) (W : World) (hr : RdS B g s W) (hl : s.l.length ≤ 100000000) : Calls Tryz.prog 118 #[.pointer (some ⟨g, 0, none⟩), .int .u8 (t.toNat : Int)] W (GivesT B g s t W) := by
  have hth := there_any B g s W hr
  have hrs := hr
  obtain ⟨ao, cap, hr⟩ := hr
  obtain ⟨l, bad⟩ := s
  cases bad with
  | true =>
    go_enter Tryz.func118, Tryz.ntmps118
    go_wp2_with fail
    refine hth.mono ?_
    rintro e w' ⟨rfl, rfl⟩
    go_wp2
    go_ret2
    exact ⟨hrs, grown_any (Below.refl _ _) _, rfl⟩
  | false =>
    have hat := hr.at_
    dsimp only at hat hl hth
    have c0 : W.cell? ⟨g, 0, none⟩ = some (.slice ao l.length cap) := by simp [World.cell?, hat]
    go_enter Tryz.func118, Tryz.ntmps118
    go_wp2_with fail
    refine hth.mono ?_
    rintro e w' ⟨rfl, rfl⟩
    go_wp2_with fail
    refine (first_any ao l.length cap l _ hr.rd (by omega)).mono ?_
    rintro e w1 ⟨hb1, hc1⟩
    have hr1 := hr.later hb1
    have hat1 := hr1.at_
    dsimp only at hat1
    have d0 : w1.cell? ⟨g, 0, none⟩ = some (.slice ao l.length cap) := by simp [World.cell?, hat1]
    have z0 : w1.frozen? ⟨g, 0, none⟩ = false := by simp [World.frozen?, hat1]
    have z1 : w1.frozen? ⟨g, 1, none⟩ = false := by simp [World.frozen?, hat1]
    have d1 : w1.cell? ⟨g, 1, none⟩ = some (.bool false) := by simp [World.cell?, hat1]
    have hgb := grown_any hb1 (some g)
    have hbad : ∀ (h : ¬ (fs l ≠ 0 ∧ (hd1 l).1 = t)), GivesT B g ⟨l, false⟩ t W (.returned (.tuple #[.slice none 0 0, .bool false])) (w1.setCell ⟨g, 1, none⟩ (.bool true)) := by
      intro h
      have ht : RS.take ⟨l, false⟩ t = (none, ⟨l, true⟩) := by unfold RS.take; rw [if_neg (by simp), if_neg h]
      unfold GivesT
      rw [ht]
      exact ⟨⟨ao, cap, hr1.fail⟩, grown_trans hgb (grown_set _ _ _ _), rfl⟩
    rcases hc1 with ⟨h0, rfl⟩ | ⟨h0, ao2, cap2, rfl, hr2, hbk⟩
    · have Hb := Lib.hid (hbad (fun h => h.1 h0))
      clear hbad
      go_wp2_with fail
      go_ret2
      exact Hb.out
    · by_cases htg : (hd1 l).1 = t
      · have ht : RS.take ⟨l, false⟩ t = (some (hd1 l).2, ⟨l.drop (fs l), false⟩) := by unfold RS.take; rw [if_neg (by simp), if_pos ⟨h0, htg⟩]
        have Ht := Lib.hid ht
        have hfle := fs_le l
        have hf5 := fs_five l h0
        have hdl : (l.drop (fs l)).length = l.length - fs l := List.length_drop
        have Hdl := Lib.hid hdl
        have hrd1 := hr1.rd
        dsimp only at hrd1
        have hcl := hrd1.le
        have hne1 := hr1.ne
        obtain ⟨b1, o1, e1, hlt1, hcc1⟩ := hrd1.some (by omega)
        subst e1
        have hne2 : b1 ≠ g := hne1 (by omega) _ rfl
        have hty1 := hr1.ty
        have ht1 : ∀ (ao' : Option Addr) (c' : Nat), (0 < c' → ∀ a, ao' = some a → a.block = b1) → Ty8 w1 ao' c' := fun ao' c' h h0 a ha => by
          rw [h h0 a ha]; exact hty1 (by omega) _ rfl
        have hx3 : Ty8 w1 ao2 cap2 := ht1 _ _ (fun h a ha => by
          obtain ⟨a0, h1, h2⟩ := hbk h a ha
          cases h1
          exact h2)
        have hx2 : 0 < cap2 → ∀ a, ao2 = some a → a.block ≠ g := hx3.ne hat1 (fun _ _ h => by cases h)
        have f1 : (((hd1 l).1.toNat : Int) != (t.toNat : Int)) = false := by rw [htg]; simp
        clear hbad ht hdl
        obtain ⟨it, hit⟩ : ∃ it, hd1 l = it := ⟨_, rfl⟩
        rw [hit] at hr2 f1 htg
        rw [hit]
        have hok : ∀ w', RdS B g ⟨l.drop (fs l), false⟩ w' → W.grownBy w' (some g) → Rd w' 1 ao2 (hd1 l).2.length cap2 (byV (hd1 l).2) → Ty8 w' ao2 cap2 → GivesT B g ⟨l, false⟩ t W (.returned (.tuple #[.slice ao2 (hd1 l).2.length cap2, .bool true])) w' := by
          intro w' h1 h2 h3 h4
          unfold GivesT
          rw [Ht.out]
          exact ⟨h1, h2, ao2, cap2, rfl, h3, h4⟩
        rw [hit] at hok
        have hmv := fun (q : Nat) (a : Addr) (c : Nat) (hq : q = l.length - fs l) (h : Rd w1 1 (some a) (l.length - fs l) c (byV (l.drop (fs l)))) (hn : 0 < c → a.block = b1) => hr1.move (l' := l.drop (fs l)) (ao' := some a) (cap' := c) (by rw [Hdl.out]; exact h) (ht1 _ _ (fun h0 a' ha => by cases ha; exact hn h0))
        rw [Hdl.out] at hmv
        have Hmv := Lib.hid hmv
        clear hmv
        have Hok := Lib.hid hok
        clear hok hit Ht
        generalize hff : fs l = f at *
        clear hff
        have f2 : ((f : Int) == 0) = false := by simp; omega
        have i0 : (0 : Int) ≤ (f : Int) := by omega
        have i1 : (f : Int) ≤ (l.length : Int) := by omega
        have i2 : (f : Int) ≤ (cap : Int) := by omega
        by_cases hcf : cap = f
        · subst hcf
          have hq0 : l.length = cap := by omega
          have hq1 : l.length - cap = 0 := by omega
          have hre := rd_end hrd1 (f := cap) (by omega) rfl
          have hm := Hmv.out _ ⟨b1, o1, none⟩ 0 rfl (by rw [hq1]; exact hre) (fun h => absurd h (Nat.lt_irrefl 0))
          rw [hq1] at hm
          have Hm := Lib.hid hm
          have hr3 := rd_grown hr2 (grown_set w1 g 0 (.slice (some ⟨b1, o1, none⟩) 0 0)) (fun h0 a ha e => hx2 h0 a ha (Option.some.inj e))
          have hr4 := fun (v : Value) => hx3.grown (grown_set w1 g 0 v) (fun h0 a ha e => hx2 h0 a ha (Option.some.inj e))
          clear hm hre
          go_wp2_with fail
          go_ret2
          exact Hok.out _ ⟨_, _, Hm.out⟩ (grown_trans hgb (grown_set _ _ _ _)) hr3 (hr4 _)
        · have hcf2 : ¬ cap - f = 0 := by omega
          have hre := rd_drop hrd1 (f := f) (by omega)
          have hm := Hmv.out _ ⟨b1, o1 + f, none⟩ (cap - f) rfl hre (fun _ => rfl)
          have Hm := Lib.hid hm
          have hr3 := rd_grown hr2 (grown_set w1 g 0 (.slice (some ⟨b1, o1 + f, none⟩) (l.length - f) (cap - f))) (fun h0 a ha e => hx2 h0 a ha (Option.some.inj e))
          have hr4 := fun (v : Value) => hx3.grown (grown_set w1 g 0 v) (fun h0 a ha e => hx2 h0 a ha (Option.some.inj e))
          clear hm hre
          go_wp2_with fail
          go_ret2
          exact Hok.out _ ⟨_, _, Hm.out⟩ (grown_trans hgb (grown_set _ _ _ _)) hr3 (hr4 _)
      · have f1 : (((hd1 l).1.toNat : Int) != (t.toNat : Int)) = true := by simp; exact fun h => htg (UInt8.toNat_inj.1 (by omega))
        have f2 : ((fs l : Int) == 0) = false := by simp; omega
        have Hb := Lib.hid (hbad (fun h => htg h.2))
        clear hbad
        go_wp2_with fail
        go_ret2
        exact Hb.out
end Go.Proofs.YtgeafnggodkpaaaGreat.Tlv
