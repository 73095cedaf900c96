/-
  The walks of runes that are put as bytes: utf.put, utf.Encode and the reference's Put, Encode.
-/
import Derived.Test.YtpkabinmnkadeaaUx
import Derived.Test.YtpkabinmnkadeaaMem
import Derived.Deep.RegionHeld3
import Derived.Deep.DrawnRows
namespace Go.Proofs.Ytpkabinmnkadeaa.Utf
open Go.RowKit Go.Proofs.Ytpkabinmnkadeaa.Mem
attribute [local go_sem ↓] Go.wp_at_zero Go.wp_at_succ

theorem byT : SliceT Try.prog 22 5 (.int .u8 0) 1 1 := ⟨Try.underlying22, by kernel_rfl, rfl, by decide⟩
/-- A slice of bytes is answered; what was there is as it was. -/
def GivesB (w : World) (l : List UInt8) (e : Ending) (w' : World) : Prop := ∃ ao cap, e = .returned (.slice ao l.length cap) ∧ Rd w' 1 ao l.length cap (byV l) ∧ Below w.heap.size w w'

theorem byV_enc (r : Int) (h : may r = true) : byV (enc r) = (nums r).map (Value.int .u8) := by
  unfold byV enc
  rw [List.map_map]
  refine List.map_congr_left fun n hn => ?_
  have := nums_bd r h n hn
  simp only [Function.comp]
  rw [ofN_toNat n this.1 this.2]
theorem byV_eq (l : List UInt8) (r : Int) (c : List Int) (h : may r = true) (hc : nums r = c) : byV (l ++ enc r) = byV l ++ c.map (Value.int .u8) := by rw [byV_app, byV_enc r h, hc]

set_option maxRecDepth 100000 in
set_option maxHeartbeats 400000 in
theorem rput_any (r : Int) (w : World) (hm : may r = true) :
    Calls Try.prog 20 #[.int .i32 r] w (GivesB w (enc r)) := by
  obtain ⟨m0, m1, m2⟩ := (may_iff r).1 hm
  have H := Lib.hid hm
  have key : ∀ (c : List Int), nums r = c → c.length ≤ 4 → GivesB w (enc r) (.returned (.slice (some ⟨w.heap.size, 0, none⟩) c.length c.length)) (w.alloc (.cells ((c.map (Value.int .u8)).toArray) 5)) := by
    intro c hc h4
    have hl : (enc r).length = c.length := by rw [enc_len, hc]
    refine ⟨_, _, by rw [hl], ?_, (Below.refl _ _).alloc (Nat.le_refl _) _⟩
    rw [byV_enc r H.out, hc, hl]
    exact Rd.new w _ _ _ 1 c.length (by simp) (by unfold maxLen; omega)
  have K := Lib.hid key
  clear hm m2 key
  go_enter Try.func20, Try.ntmps20
  go_wp2
  · go_ret
    exact K.out [r] (by unfold nums; rw [if_pos (by assumption)]) (by simp)
  · go_ret
    exact K.out [192 + r / 64, 128 + r % 64] (by unfold nums; rw [if_neg (by omega), if_pos (by omega)]) (by simp)
  · go_ret
    exact K.out [224 + r / 4096, 128 + r / 64 % 64, 128 + r % 64] (by unfold nums; rw [if_neg (by omega), if_neg (by omega), if_pos (by omega)]) (by simp)
  · go_ret
    exact K.out [240 + r / 262144, 128 + r / 4096 % 64, 128 + r / 64 % 64, 128 + r % 64] (by unfold nums; rw [if_neg (by omega), if_neg (by omega), if_neg (by omega)]) (by simp)

/-- A row of bytes of one's own is answered. -/
def OwnsB (base : Nat) (w : World) (l : List UInt8) (e : Ending) (w' : World) : Prop := ∃ ao cap, e = .returned (.slice ao l.length cap) ∧ w'.ownsRow base 5 1 (.slice ao l.length cap) l.length (byV l) ∧ Below base w w'

theorem wraps_i64' (n : Int) (h₀ : 0 ≤ n) (h₁ : n < 2 ^ 63) : IntKind.i64.wrap n = n := by rw [IntKind.wrap_i64]; omega
theorem owns_of {base : Nat} {w w2 : World} {l : List UInt8} {r : Int} {c : List Int} {ao : Option Addr} {n cap : Nat} {xs : List Value} (hm : may r = true) (hc : nums r = c) (hn : n = l.length + c.length) (hx : xs = byV l ++ c.map (Value.int .u8)) (ho : w2.ownsRow base 5 1 (.slice ao n cap) n xs) (hb : Below base w w2) :
    OwnsB base w (l ++ enc r) (.returned (.slice ao n cap)) w2 := by
  subst hn; subst hx
  have hl : (l ++ enc r).length = l.length + c.length := by rw [List.length_append, enc_len, hc]
  refine ⟨ao, cap, by rw [hl], ?_, hb⟩
  rw [hl, byV_eq l r c hm hc]
  exact ho

set_option maxRecDepth 100000 in
set_option maxHeartbeats 400000 in
theorem put1 (v : Value) (l : List UInt8) (r : Int) (base : Nat) (w : World) (hm : may r = true) (hr : r < 128) (hown : w.ownsRow base 5 1 v l.length (byV l)) (hbase : base ≤ w.heap.size) (hlen : l.length ≤ 100000000) :
    Calls Try.prog 45 #[v, .int .i32 r] w (OwnsB base w (l ++ enc r)) := by
  obtain ⟨m0, m1, m2⟩ := (may_iff r).1 hm
  have hs : size r = 1 := by unfold size; rw [if_neg (by rw [hm]; decide), if_pos hr]
  have hn := Lib.hid (show nums r = [r] by unfold nums; rw [if_pos (by omega)])
  have H := Lib.hid hm
  have hz : (size r == 1) = true := by rw [hs]; rfl
  clear hm hs m2
  go_enter Try.func45, Try.ntmps45
  go_wp2_with (first | (go_at_call 22; refine (size_any _ _).mono ?_; rintro e w' ⟨rfl, rfl⟩) | (at_builtin; refine wpList_lit _ rfl _ _ 22 rfl base 5 (.int .u8 0) 1 1 byT (by decide) _ _ _ rfl hown 1 [.int .u8 r] rfl rfl (one1 _ rfl) hbase (by omega) ?_; intro ao' cap' w1 ho1 _ hb1 _))
  go_ret
  exact owns_of H.out hn.out rfl rfl ho1 hb1

set_option maxRecDepth 100000 in
set_option maxHeartbeats 2000000 in
theorem put2 (v : Value) (l : List UInt8) (r : Int) (base : Nat) (w : World) (hm : may r = true) (hr : 128 ≤ r) (hr2 : r < 2048) (hown : w.ownsRow base 5 1 v l.length (byV l)) (hbase : base ≤ w.heap.size) (hlen : l.length ≤ 100000000) :
    Calls Try.prog 45 #[v, .int .i32 r] w (OwnsB base w (l ++ enc r)) := by
  obtain ⟨m0, m1, m2⟩ := (may_iff r).1 hm
  have hs : size r = 2 := by unfold size; rw [if_neg (by rw [hm]; decide), if_neg (by omega), if_pos hr2]
  have hn := Lib.hid (show nums r = [192 + r / 64, 128 + r % 64] by unfold nums; rw [if_neg (by omega), if_pos (by omega)])
  have H := Lib.hid hm
  have Hs := Lib.hid hs
  clear hm hs m2
  go_enter Try.func45, Try.ntmps45
  go_wp2_with fail
  refine (size_any _ _).mono ?_
  rintro e w' ⟨rfl, rfl⟩
  rw [Hs.out]
  go_wp2
  have q1 : IntKind.i64.wrap r = r := IntWalk.i64_in _ (by omega)
  have q2 : IntKind.i64.wrap 1 = 1 := by decide
  have q3 : IntKind.i64.wrap 6 = 6 := by decide
  have q4 : bits BinOp.and IntKind.i64 960 255 = 192 := by decide
  have q5 : bits BinOp.or IntKind.i64 192 (r / 64) = 192 + r / 64 := bits_join .i64 63 (by decide) wraps_i64' 6 _ _ (by omega) (by decide) (by omega) (by omega) (by omega) (by omega)
  have q6 : IntKind.u8.wrap (192 + r / 64) = 192 + r / 64 := by rw [IntKind.wrap_u8]; omega
  go_region_held3 (fun _ => True) (trivial) ((refine step_lit _ (by rfl) _ _ 22 (by rfl) base 5 (.int .u8 0) 1 1 byT (by decide) v l.length (byV l) (by rfl) hown 1 [.int .u8 (192 + r / 64)] (by rfl) rfl (one1 _ rfl) hbase (by omega) ?_; intro ao1 cap1 w1 ho1 _ hb1 _))
  clear q1 q2 q3 q4 q5 q6
  have hz1 := Nat.le_trans hbase hb1.size
  have p0 : bits BinOp.or IntKind.i32 128 (r % 64) = 128 + r % 64 := bits_join .i32 31 (by decide) wraps_i32 6 _ _ (by omega) (by decide) (by omega) (by omega) (by omega) (by omega)
  have a0 : bits BinOp.and IntKind.i32 (r) 63 = r % 64 := bits_mask .i32 31 (by decide) wraps_i32 6 (by decide) _ (by omega) (by omega)
  have s0 : (128 + r % 64) % 256 = 128 + r % 64 := by omega
  go_wp2_with (first | (at_builtin; refine wpList_lit _ rfl (.tmp 50) (.tmp 55) 22 rfl base 5 (.int .u8 0) 1 1 byT (by decide) _ _ _ rfl ho1 1 [.int .u8 (128 + r % 64)] rfl rfl (one1 _ rfl) hz1 (by omega) ?_; intro ao2 cap2 w2 ho2 _ hb2 _; have hz2 := Nat.le_trans hz1 hb2.size))
  go_ret
  exact owns_of H.out hn.out rfl (by simp) ho2 (hb1.trans hb2)

set_option maxRecDepth 100000 in
set_option maxHeartbeats 2000000 in
theorem put3 (v : Value) (l : List UInt8) (r : Int) (base : Nat) (w : World) (hm : may r = true) (hr : 2048 ≤ r) (hr2 : r < 65536) (hown : w.ownsRow base 5 1 v l.length (byV l)) (hbase : base ≤ w.heap.size) (hlen : l.length ≤ 100000000) :
    Calls Try.prog 45 #[v, .int .i32 r] w (OwnsB base w (l ++ enc r)) := by
  obtain ⟨m0, m1, m2⟩ := (may_iff r).1 hm
  have hs : size r = 3 := by unfold size; rw [if_neg (by rw [hm]; decide), if_neg (by omega), if_neg (by omega), if_pos hr2]
  have hn := Lib.hid (show nums r = [224 + r / 4096, 128 + r / 64 % 64, 128 + r % 64] by unfold nums; rw [if_neg (by omega), if_neg (by omega), if_pos (by omega)])
  have H := Lib.hid hm
  have Hs := Lib.hid hs
  clear hm hs m2
  go_enter Try.func45, Try.ntmps45
  go_wp2_with fail
  refine (size_any _ _).mono ?_
  rintro e w' ⟨rfl, rfl⟩
  rw [Hs.out]
  go_wp2
  have q1 : IntKind.i64.wrap r = r := IntWalk.i64_in _ (by omega)
  have q2 : IntKind.i64.wrap 2 = 2 := by decide
  have q3 : IntKind.i64.wrap 12 = 12 := by decide
  have q4 : bits BinOp.and IntKind.i64 480 255 = 224 := by decide
  have q5 : bits BinOp.or IntKind.i64 224 (r / 4096) = 224 + r / 4096 := bits_join .i64 63 (by decide) wraps_i64' 4 _ _ (by omega) (by decide) (by omega) (by omega) (by omega) (by omega)
  have q6 : IntKind.u8.wrap (224 + r / 4096) = 224 + r / 4096 := by rw [IntKind.wrap_u8]; omega
  go_region_held3 (fun _ => True) (trivial) ((refine step_lit _ (by rfl) _ _ 22 (by rfl) base 5 (.int .u8 0) 1 1 byT (by decide) v l.length (byV l) (by rfl) hown 1 [.int .u8 (224 + r / 4096)] (by rfl) rfl (one1 _ rfl) hbase (by omega) ?_; intro ao1 cap1 w1 ho1 _ hb1 _))
  clear q1 q2 q3 q4 q5 q6
  have hz1 := Nat.le_trans hbase hb1.size
  have p0 : bits BinOp.or IntKind.i32 128 (r / 64 % 64) = 128 + r / 64 % 64 := bits_join .i32 31 (by decide) wraps_i32 6 _ _ (by omega) (by decide) (by omega) (by omega) (by omega) (by omega)
  have a0 : bits BinOp.and IntKind.i32 (r / 64) 63 = r / 64 % 64 := bits_mask .i32 31 (by decide) wraps_i32 6 (by decide) _ (by omega) (by omega)
  have s0 : (128 + r / 64 % 64) % 256 = 128 + r / 64 % 64 := by omega
  have p1 : bits BinOp.or IntKind.i32 128 (r % 64) = 128 + r % 64 := bits_join .i32 31 (by decide) wraps_i32 6 _ _ (by omega) (by decide) (by omega) (by omega) (by omega) (by omega)
  have a1 : bits BinOp.and IntKind.i32 (r) 63 = r % 64 := bits_mask .i32 31 (by decide) wraps_i32 6 (by decide) _ (by omega) (by omega)
  have s1 : (128 + r % 64) % 256 = 128 + r % 64 := by omega
  go_wp2_with (first | (at_builtin; refine wpList_lit _ rfl (.tmp 42) (.tmp 48) 22 rfl base 5 (.int .u8 0) 1 1 byT (by decide) _ _ _ rfl ho1 1 [.int .u8 (128 + r / 64 % 64)] rfl rfl (one1 _ rfl) hz1 (by omega) ?_; intro ao2 cap2 w2 ho2 _ hb2 _; have hz2 := Nat.le_trans hz1 hb2.size) | (at_builtin; refine wpList_lit _ rfl (.tmp 50) (.tmp 55) 22 rfl base 5 (.int .u8 0) 1 1 byT (by decide) _ _ _ rfl ho2 1 [.int .u8 (128 + r % 64)] rfl rfl (one1 _ rfl) hz2 (by omega) ?_; intro ao3 cap3 w3 ho3 _ hb3 _; have hz3 := Nat.le_trans hz2 hb3.size))
  go_ret
  exact owns_of H.out hn.out rfl (by simp) ho3 ((hb1.trans hb2).trans hb3)

set_option maxRecDepth 100000 in
set_option maxHeartbeats 2000000 in
theorem put4 (v : Value) (l : List UInt8) (r : Int) (base : Nat) (w : World) (hm : may r = true) (hr : 65536 ≤ r) (hown : w.ownsRow base 5 1 v l.length (byV l)) (hbase : base ≤ w.heap.size) (hlen : l.length ≤ 100000000) :
    Calls Try.prog 45 #[v, .int .i32 r] w (OwnsB base w (l ++ enc r)) := by
  obtain ⟨m0, m1, m2⟩ := (may_iff r).1 hm
  have hs : size r = 4 := by unfold size; rw [if_neg (by rw [hm]; decide), if_neg (by omega), if_neg (by omega), if_neg (by omega)]
  have hn := Lib.hid (show nums r = [240 + r / 262144, 128 + r / 4096 % 64, 128 + r / 64 % 64, 128 + r % 64] by unfold nums; rw [if_neg (by omega), if_neg (by omega), if_neg (by omega)])
  have H := Lib.hid hm
  have Hs := Lib.hid hs
  clear hm hs m2
  go_enter Try.func45, Try.ntmps45
  go_wp2_with fail
  refine (size_any _ _).mono ?_
  rintro e w' ⟨rfl, rfl⟩
  rw [Hs.out]
  go_wp2
  have q1 : IntKind.i64.wrap r = r := IntWalk.i64_in _ (by omega)
  have q2 : IntKind.i64.wrap 3 = 3 := by decide
  have q3 : IntKind.i64.wrap 18 = 18 := by decide
  have q4 : bits BinOp.and IntKind.i64 240 255 = 240 := by decide
  have q5 : bits BinOp.or IntKind.i64 240 (r / 262144) = 240 + r / 262144 := bits_join .i64 63 (by decide) wraps_i64' 3 _ _ (by omega) (by decide) (by omega) (by omega) (by omega) (by omega)
  have q6 : IntKind.u8.wrap (240 + r / 262144) = 240 + r / 262144 := by rw [IntKind.wrap_u8]; omega
  go_region_held3 (fun _ => True) (trivial) ((refine step_lit _ (by rfl) _ _ 22 (by rfl) base 5 (.int .u8 0) 1 1 byT (by decide) v l.length (byV l) (by rfl) hown 1 [.int .u8 (240 + r / 262144)] (by rfl) rfl (one1 _ rfl) hbase (by omega) ?_; intro ao1 cap1 w1 ho1 _ hb1 _))
  clear q1 q2 q3 q4 q5 q6
  have hz1 := Nat.le_trans hbase hb1.size
  have p0 : bits BinOp.or IntKind.i32 128 (r / 4096 % 64) = 128 + r / 4096 % 64 := bits_join .i32 31 (by decide) wraps_i32 6 _ _ (by omega) (by decide) (by omega) (by omega) (by omega) (by omega)
  have a0 : bits BinOp.and IntKind.i32 (r / 4096) 63 = r / 4096 % 64 := bits_mask .i32 31 (by decide) wraps_i32 6 (by decide) _ (by omega) (by omega)
  have s0 : (128 + r / 4096 % 64) % 256 = 128 + r / 4096 % 64 := by omega
  have p1 : bits BinOp.or IntKind.i32 128 (r / 64 % 64) = 128 + r / 64 % 64 := bits_join .i32 31 (by decide) wraps_i32 6 _ _ (by omega) (by decide) (by omega) (by omega) (by omega) (by omega)
  have a1 : bits BinOp.and IntKind.i32 (r / 64) 63 = r / 64 % 64 := bits_mask .i32 31 (by decide) wraps_i32 6 (by decide) _ (by omega) (by omega)
  have s1 : (128 + r / 64 % 64) % 256 = 128 + r / 64 % 64 := by omega
  have p2 : bits BinOp.or IntKind.i32 128 (r % 64) = 128 + r % 64 := bits_join .i32 31 (by decide) wraps_i32 6 _ _ (by omega) (by decide) (by omega) (by omega) (by omega) (by omega)
  have a2 : bits BinOp.and IntKind.i32 (r) 63 = r % 64 := bits_mask .i32 31 (by decide) wraps_i32 6 (by decide) _ (by omega) (by omega)
  have s2 : (128 + r % 64) % 256 = 128 + r % 64 := by omega
  go_wp2_with (first | (at_builtin; refine wpList_lit _ rfl (.tmp 34) (.tmp 40) 22 rfl base 5 (.int .u8 0) 1 1 byT (by decide) _ _ _ rfl ho1 1 [.int .u8 (128 + r / 4096 % 64)] rfl rfl (one1 _ rfl) hz1 (by omega) ?_; intro ao2 cap2 w2 ho2 _ hb2 _; have hz2 := Nat.le_trans hz1 hb2.size) | (at_builtin; refine wpList_lit _ rfl (.tmp 42) (.tmp 48) 22 rfl base 5 (.int .u8 0) 1 1 byT (by decide) _ _ _ rfl ho2 1 [.int .u8 (128 + r / 64 % 64)] rfl rfl (one1 _ rfl) hz2 (by omega) ?_; intro ao3 cap3 w3 ho3 _ hb3 _; have hz3 := Nat.le_trans hz2 hb3.size) | (at_builtin; refine wpList_lit _ rfl (.tmp 50) (.tmp 55) 22 rfl base 5 (.int .u8 0) 1 1 byT (by decide) _ _ _ rfl ho3 1 [.int .u8 (128 + r % 64)] rfl rfl (one1 _ rfl) hz3 (by omega) ?_; intro ao4 cap4 w4 ho4 _ hb4 _; have hz4 := Nat.le_trans hz3 hb4.size))
  go_ret
  exact owns_of H.out hn.out rfl (by simp) ho4 (((hb1.trans hb2).trans hb3).trans hb4)

/-- utf.put, of whatever rune. -/
theorem put_any (v : Value) (l : List UInt8) (r : Int) (base : Nat) (w : World) (hm : may r = true) (hown : w.ownsRow base 5 1 v l.length (byV l)) (hbase : base ≤ w.heap.size) (hlen : l.length ≤ 100000000) :
    Calls Try.prog 45 #[v, .int .i32 r] w (OwnsB base w (l ++ enc r)) := by
  by_cases h1 : r < 128
  · exact put1 v l r base w hm h1 hown hbase hlen
  by_cases h2 : r < 2048
  · exact put2 v l r base w hm (by omega) h2 hown hbase hlen
  by_cases h3 : r < 65536
  · exact put3 v l r base w hm (by omega) h3 hown hbase hlen
  · exact put4 v l r base w hm (by omega) hown hbase hlen
end Go.Proofs.Ytpkabinmnkadeaa.Utf
