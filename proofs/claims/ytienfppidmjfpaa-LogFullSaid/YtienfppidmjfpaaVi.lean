/-
  The writer: Bytes, Number, End; the statement's 'known'.
-/
import Derived.Test.YtienfppidmjfpaaVc
import Derived.Deep.RegionHeld3
import Derived.Deep.DrawnRows
import Derived.Deep.RegionLaw
namespace Go.Proofs.Ytienfppidmjfpaa.Tlv
open Go.RowKit Go.Proofs.Ytienfppidmjfpaa.Mem

/-- A value's bytes. -/
def val (t : UInt8) (b : List UInt8) : List UInt8 := [t, UInt8.ofNat (b.length / 16777216), UInt8.ofNat (b.length / 65536), UInt8.ofNat (b.length / 256), UInt8.ofNat b.length] ++ b

theorem byV_val (t : UInt8) (b : List UInt8) (n : Nat) (hb : b.length = n) (hn : n ≤ 4194304) :
    byV (val t b) = [.int .u8 (t.toNat : Int), .int .u8 ((n : Int) / 16777216), .int .u8 ((n : Int) / 65536), .int .u8 ((n : Int) / 256 % 256), .int .u8 ((n : Int) % 256)] ++ byV b := by
  subst hb
  have h1 : (b.length : Int) / 16777216 = ((UInt8.ofNat (b.length / 16777216)).toNat : Int) := by rw [UInt8.toNat_ofNat']; omega
  have h2 : (b.length : Int) / 65536 = ((UInt8.ofNat (b.length / 65536)).toNat : Int) := by rw [UInt8.toNat_ofNat']; omega
  have h3 : (b.length : Int) / 256 % 256 = ((UInt8.ofNat (b.length / 256)).toNat : Int) := by rw [UInt8.toNat_ofNat']; omega
  have h4 : (b.length : Int) % 256 = ((UInt8.ofNat b.length).toNat : Int) := by rw [UInt8.toNat_ofNat']; omega
  rw [h1, h2, h3, h4]
  rfl
theorem val_len (t : UInt8) (b : List UInt8) : (val t b).length = 5 + b.length := by simp [val]; omega

theorem own_ne {W : World} {g B n size : Nat} {e ty : TypeId} {cs : Array Value} {fr : Nat × Nat} {v : Value} {xs : List Value} (hg : W.heap[g]? = some (.cells cs ty fr)) (hte : ty ≠ e) (ho : W.ownsRow B e size v n xs) : v.ownBlock ≠ some g := by
  rcases ho.2 with ⟨rfl, _⟩ | ⟨g', cap, cur, rfl, _, hg', _⟩
  · simp [Value.ownBlock]
  · intro h
    have : g' = g := by simpa [Value.ownBlock] using h
    subst this
    rw [hg] at hg'
    simp only [Option.some.injEq, Obj.cells.injEq] at hg'
    exact hte hg'.2.1
theorem rd_grown {W W' : World} {row : Option Nat} {ao : Option Addr} {n cap : Nat} {xs : List Value} (h : Rd W 1 ao n cap xs) (hg : W.grownBy W' row) (hd : 0 < cap → ∀ a, ao = some a → some a.block ≠ row) : Rd W' 1 ao n cap xs := by
  obtain ⟨h1, h2, h3, h4, h5⟩ := h
  refine ⟨h1, h2, h3, h4, fun h0 a ha => ?_⟩
  obtain ⟨s, l, c⟩ := h5 h0 a ha
  exact ⟨s, Nat.lt_of_lt_of_le l hg.size, fun j u hu => (World.cell?_of_block (a := ⟨a.block, a.off + j, none⟩) (hg.block _ l (hd h0 a ha))).trans (c j u hu)⟩

theorem own_oth {W : World} {k B n size : Nat} {e : TypeId} {o : Obj} {v : Value} {xs : List Value} (hk : W.heap[k]? = some o) (hte : ∀ c fr, o ≠ .cells c e fr) (ho : W.ownsRow B e size v n xs) : v.ownBlock ≠ some k := by
  rcases ho.2 with ⟨rfl, _⟩ | ⟨g', cap, cur, rfl, _, hg', _⟩
  · simp [Value.ownBlock]
  · intro h
    have : g' = k := by simpa [Value.ownBlock] using h
    subst this
    rw [hk] at hg'
    exact hte _ _ (Option.some.inj hg')
/-- All blocks but g and rows of bytes stay. -/
def Stays (g : Nat) (W w' : World) : Prop := ∀ k o, W.heap[k]? = some o → k ≠ g → (∀ c fr, o ≠ .cells c 5 fr) → w'.heap[k]? = some o
theorem Stays.trans {g : Nat} {a b c : World} (h : Stays g a b) (k : Stays g b c) : Stays g a c := fun j o h1 h2 h3 => k j o (h j o h1 h2 h3) h2 h3
theorem Stays.refl (g : Nat) (a : World) : Stays g a a := fun _ _ h _ _ => h
theorem Stays.of_below {g : Nat} {a b : World} (h : Below a.heap.size a b) : Stays g a b := fun j _ hj _ _ => (h.block j (Array.getElem?_eq_some_iff.1 hj).1).trans hj
theorem Stays.grown {g B n size : Nat} {a b : World} {v : Value} {xs : List Value} (hg : a.grownBy b v.ownBlock) (ho : a.ownsRow B 5 size v n xs) : Stays g a b := fun j _ hj _ hb => (hg.block j (Array.getElem?_eq_some_iff.1 hj).1 (fun e => own_oth hj hb ho e.symm)).trans hj
theorem Stays.set {g : Nat} {a b : World} (h : Stays g a b) (i : Nat) (v : Value) : Stays g a (b.setCell ⟨g, i, none⟩ v) := fun j o hj hg hb => (Below.heap_setCell b ⟨g, i, none⟩ v j hg).trans (h j o hj hg hb)

/-- A writer at g that holds bytes. -/
structure WrAt (B g : Nat) (l : List UInt8) (bad : Int) (v : Value) (W : World) : Prop where
  at_ : W.heap[g]? = some (.cells #[v, .int .i64 bad] 78)
  le : B ≤ g
  own : W.ownsRow B 5 1 v l.length (byV l)
theorem WrAt.ne {B g : Nat} {l : List UInt8} {bad : Int} {v : Value} {W : World} (h : WrAt B g l bad v W) : v.ownBlock ≠ some g := own_ne h.at_ (by decide) h.own
theorem WrAt.lt {B g : Nat} {l : List UInt8} {bad : Int} {v : Value} {W : World} (h : WrAt B g l bad v W) : g < W.heap.size := (Array.getElem?_eq_some_iff.1 h.at_).1
theorem WrAt.store {B g : Nat} {l' : List UInt8} {bad : Int} {v v' : Value} {W : World} (hat : W.heap[g]? = some (.cells #[v, .int .i64 bad] 78)) (hB : B ≤ g) (ho : W.ownsRow B 5 1 v' l'.length (byV l')) : WrAt B g l' bad v' (W.setCell ⟨g, 0, none⟩ v') := by
  have hlt : g < W.heap.size := (Array.getElem?_eq_some_iff.1 hat).1
  refine ⟨?_, hB, ownsRow_setCell_other ho (own_ne hat (by decide) ho) _⟩
  have h2 := (Array.getElem?_eq_some_iff.1 hat).2
  simp only [World.setCell, Array.getElem?_eq_getElem, Array.size_modify, hlt, Array.getElem_modify_self, h2]
  rfl

set_option maxRecDepth 100000 in
set_option maxHeartbeats 1000000 in
theorem wbytes_any (B g : Nat) (l b : List UInt8) (v : Value) (t : UInt8) (ao : Option Addr) (n cap : Nat) (W : World) (hw : WrAt B g l 0 v W) (ht : 0 < t.toNat) (hl : l.length ≤ 100000000) (hn : n ≤ 4194304) (hr : Rd W 1 ao n cap (byV b))
    (hdis : 0 < cap → ∀ a, ao = some a → some a.block ≠ v.ownBlock) :
    Calls Try.prog 46 #[.pointer (some ⟨g, 0, none⟩), .int .u8 (t.toNat : Int), .slice ao n cap] W fun e w' => e = .returned (.pointer (some ⟨g, 0, none⟩)) ∧ ∃ v', WrAt B g (l ++ val t b) 0 v' w' ∧ Below B W w' ∧ Stays g W w' := by
  have k63 : l.length + 5 + n ≤ maxLen := by unfold maxLen; omega
  have kby : (l.length + 5 + n) * 1 ≤ 140737488355328 := by omega
  have hat := hw.at_
  have hlt := hw.lt
  have hne := hw.ne
  have hown := hw.own
  have hB := hw.le
  have hBW : B ≤ W.heap.size := by omega
  have hbl : b.length = n := by have := hr.1; rw [byV_len] at this; omega
  have Hbl := Lib.hid hbl
  clear hw hbl
  have c0 : W.cell? ⟨g, 0, none⟩ = some v := by simp [World.cell?, hat]
  have c1 : W.cell? ⟨g, 1, none⟩ = some (.int .i64 0) := by simp [World.cell?, hat]
  have g0 : W.frozen? ⟨g, 0, none⟩ = false := by simp [World.frozen?, hat]
  have f1 : decide ((4194304 : Int) < (n : Int)) = false := decide_eq_false (by omega)
  have ht2 : t.toNat < 256 := t.toNat_lt
  have f2 : ((t.toNat : Int) == 0) = false := by simp; omega
  have hpe : ∀ (w : World), Sem.run Try.prog (binOp BinOp.eql 76 (.pointer (some ⟨g, 0, none⟩)) (.pointer none)) w = .ok (.bool false) w := fun _ => by kernel_rfl
  go_enter Try.func46, Try.ntmps46
  go_wp2_with (first | (at_builtin; refine wpList_lit _ rfl (.tmp 14) (.tmp 27) 29 rfl B 5 (.int .u8 0) 1 1 byT (by decide) v l.length (byV l) rfl hown 5 [.int .u8 (t.toNat : Int), .int .u8 ((n : Int) / 16777216), .int .u8 ((n : Int) / 65536), .int .u8 ((n : Int) / 256 % 256), .int .u8 ((n : Int) % 256)] rfl rfl (fun u hu => by simp at hu; rcases hu with rfl | rfl | rfl | rfl | rfl <;> rfl) hBW (by omega) ?_; intro ao1 cap1 w1 ho1 hg1 hb1 _; have hr1 := rd_grown (hr.later ((Below.refl _ W).alloc (Nat.le_refl _) _)) hg1 hdis; have hat1 := (hg1.block g (by simp; omega) (fun e => hne e.symm)).trans ((Below.heap_alloc W _ g hlt).trans hat)) | (at_builtin; refine wpList_app _ rfl (.tmp 28) (.tmp 29) 29 rfl B 5 (.int .u8 0) 1 1 byT _ (l.length + 5) _ rfl ho1 ao n cap (byV b) rfl hr1 (byV_one _) k63 kby (Nat.le_trans hBW hb1.size) ?_; intro ao2 cap2 w2 ho2 hg2 hb2 _; have hat2 : w2.heap[g]? = some (.cells #[v, .int .i64 0] 78) := (hg2.block g (Array.getElem?_eq_some_iff.1 hat1).1 (fun e => own_ne hat1 (by decide) ho1 e.symm)).trans hat1; have d0 : w2.cell? ⟨g, 0, none⟩ = some v := (by simp [World.cell?, hat2]); have e0 : w2.frozen? ⟨g, 0, none⟩ = false := (by simp [World.frozen?, hat2])))
  go_ret
  refine ⟨rfl, _, WrAt.store (l' := l ++ val t b) hat2 hB ?_, ?_, ?_⟩
  · have hbl := Hbl.out
    rw [byV_app, byV_val t b n hbl hn, show (l ++ val t b).length = l.length + 5 + n from (by rw [List.length_append, val_len, hbl]; omega)]
    rw [List.append_assoc] at ho2
    exact ho2
  · exact (hb1.trans hb2).setCell hB _
  · exact (((Stays.of_below ((Below.refl _ W).alloc (Nat.le_refl _) _)).trans (Stays.grown hg1 (hown.alloc _))).trans (Stays.grown hg2 ho1)).set 0 _
end Go.Proofs.Ytienfppidmjfpaa.Tlv
