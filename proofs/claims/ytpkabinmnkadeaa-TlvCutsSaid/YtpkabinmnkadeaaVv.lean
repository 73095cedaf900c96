/-
  The walk of TlvWrites.
-/
import Derived.Test.YtpkabinmnkadeaaVu
import Derived.Test.YtpkabinmnkadeaaVk
namespace Go.Proofs.Ytpkabinmnkadeaa.Tlv
open Go.RowKit Go.Proofs.Ytpkabinmnkadeaa.Mem

/-- What is put, in the document's words: the bytes, and whether all can be put. -/
def wantL (ps : List Pt) (k : Nat) : List UInt8 := (ps.take k).flatMap fun p => (partB p).1
def okL (ps : List Pt) (k : Nat) : Bool := (ps.take k).all fun p => (partB p).2
theorem wantL_succ (ps : List Pt) (k : Nat) (p : Pt) (h : ps[k]? = some p) : wantL ps (k + 1) = wantL ps k ++ (partB p).1 := by
  unfold wantL; rw [List.take_add_one, h]; simp
theorem okL_succ (ps : List Pt) (k : Nat) (p : Pt) (h : ps[k]? = some p) : okL ps (k + 1) = (okL ps k && (partB p).2) := by
  unfold okL; rw [List.take_add_one, h]; simp
theorem st_want (ps : List Pt) : ∀ k, k ≤ ps.length → (okL ps k = true → stP ps k = ⟨wantL ps k, 0⟩) ∧ (okL ps k = false → (stP ps k).bad = 2)
  | 0, _ => ⟨fun _ => rfl, fun h => by cases h⟩
  | k + 1, hk => by
    obtain ⟨h1, h2⟩ := st_want ps k (by omega)
    have hpk : ps[k]? = some ps[k] := List.getElem?_eq_getElem (by omega)
    rw [stP_succ ps k _ hpk, okL_succ ps k _ hpk, wantL_succ ps k _ hpk]
    generalize ps[k] = p
    cases ho : okL ps k with
    | false =>
      refine ⟨fun h => by simp at h, fun _ => ?_⟩
      have := h2 ho
      unfold stepP
      rw [if_neg (by omega)]
      exact this
    | true =>
      rw [h1 ho]
      unfold stepP
      rw [if_pos rfl]
      cases hp : (partB p).2 with
      | true => exact ⟨fun _ => rfl, fun h => by cases h⟩
      | false => exact ⟨fun h => by simp at h, fun _ => rfl⟩
theorem wantL_len (ps : List Pt) (hs : ∀ p ∈ ps, ptSmall p) : ∀ k, k ≤ ps.length → (wantL ps k).length ≤ k * 700000
  | 0, _ => by have h : (wantL ps 0).length = 0 := rfl
               rw [h]; exact Nat.zero_le _
  | k + 1, hk => by
    have ih := wantL_len ps hs k (by omega)
    have hpk : ps[k]? = some ps[k] := List.getElem?_eq_getElem (by omega)
    have h2 := partB_len ps[k] (hs _ (List.getElem_mem (by omega)))
    rw [wantL_succ ps k _ hpk, List.length_append, Nat.succ_mul]
    exact Nat.add_le_add ih h2

theorem num_any (e : Int) (W : World) : Calls Try.prog 36 #[.int .i64 e] W fun r w' => r = .returned (.int .i64 e) ∧ w' = W := by
  go_enter Try.func36, Try.ntmps36
  go_wp2
  go_ret
  exact ⟨rfl, rfl⟩

theorem own_grown {W W' : World} {row : Option Nat} {B n size : Nat} {e : TypeId} {v : Value} {xs : List Value} (h : W.ownsRow B e size v n xs) (hg : W.grownBy W' row) (hne : ∀ k, v.ownBlock = some k → some k ≠ row) : W'.ownsRow B e size v n xs := by
  refine ⟨h.1, ?_⟩
  rcases h.2 with h2 | ⟨g, cap, cur, rfl, h2, h3, h4⟩
  · exact .inl h2
  · exact .inr ⟨g, cap, cur, rfl, h2, (hg.block g (Array.getElem?_eq_some_iff.1 h3).1 (hne g rfl)).trans h3, h4⟩
theorem grown_set (W : World) (b i : Nat) (u : Value) : W.grownBy (W.setCell ⟨b, i, none⟩ u) (some b) :=
  ⟨rfl, rfl, rfl, by simp, fun k _ hk => Below.heap_setCell W ⟨b, i, none⟩ u k (fun e => hk (by rw [e]))⟩
theorem own_set {W : World} {B b cap i n : Nat} {e : TypeId} {xs : List Value} {u : Value} (h : W.ownsRow B e 1 (.slice (some ⟨b, 0, none⟩) n cap) n xs) : (W.setCell ⟨b, i, none⟩ u).ownsRow B e 1 (.slice (some ⟨b, 0, none⟩) n cap) n (xs.set i u) := by
  obtain ⟨h1, h2⟩ := h
  rcases h2 with ⟨h2, _⟩ | ⟨g, cap', cur, h2, h3, h4, h5, h6, h7, h8⟩
  · cases h2
  · obtain ⟨e1, _, e2⟩ := Value.slice.inj h2
    cases e1; cases e2
    refine ⟨by simp [h1], .inr ⟨b, cap, cur.setIfInBounds i u, rfl, h3, ?_, h5, h6, by simp [h7], ?_⟩⟩
    · have hlt := (Array.getElem?_eq_some_iff.1 h4).1
      have h9 := (Array.getElem?_eq_some_iff.1 h4).2
      simp only [World.setCell, Array.getElem?_eq_getElem, Array.size_modify, hlt, Array.getElem_modify_self, h9]
      rfl
    · rw [← h8, Array.toList_setIfInBounds, List.take_set]

theorem own_blk {W : World} {B n size : Nat} {e : TypeId} {v : Value} {xs : List Value} (h : W.ownsRow B e size v n xs) {k : Nat} (hk : v.ownBlock = some k) : B ≤ k ∧ k < W.heap.size := by
  rcases h.2 with ⟨rfl, _⟩ | ⟨g, cap, cur, rfl, h2, h3, _⟩
  · cases hk
  · have : g = k := by simpa [Value.ownBlock] using hk
    subst this
    exact ⟨h2, (Array.getElem?_eq_some_iff.1 h3).1⟩
theorem WrAt.grown {B g : Nat} {l : List UInt8} {bad : Int} {v : Value} {W W' : World} {row : Option Nat} (h : WrAt B g l bad v W) (hg : W.grownBy W' row) (h1 : some g ≠ row) (h2 : ∀ k, v.ownBlock = some k → some k ≠ row) : WrAt B g l bad v W' :=
  ⟨(hg.block g h.lt h1).trans h.at_, h.le, own_grown h.own hg h2⟩

set_option maxRecDepth 100000 in
set_option maxHeartbeats 8000000 in
theorem writes_any (ao : Option Addr) (cap : Nat) (ps : List Pt) (W : World) (hp : Parts W ao cap ps) :
    Calls Try.prog 10 #[.slice ao ps.length cap] W (Utf.GivesTrue W) := by
  go_enter Try.func10, Try.ntmps10
  go_wp2_with fail
  refine (much_any ao cap ps W hp).mono ?_
  rintro e w1 ⟨r, rfl, hsm, hb1⟩
  cases r with
  | true =>
    clear hsm
    go_wp2_with fail
    refine (known_any w1).mono ?_
    rintro e w2 ⟨rfl, hb2⟩
    go_wp2
    go_ret
    exact ⟨rfl, hb1.trans (hb2.mono hb1.size)⟩
  | false =>
    obtain ⟨h30, hs⟩ := hsm rfl
    have Hs := Lib.hid hs
    have hp1 := hp.later hb1
    clear hsm hs
    go_wp2_with fail
    go_loopw [3, 4, 5] (fun v g p wr => ∃ k : Nat, k ≤ ps.length ∧ p = .int .i64 (k : Int) ∧ g = .bool (okL ps k) ∧ wr.ownsRow w1.heap.size 5 1 v (wantL ps k).length (byV (wantL ps k)) ∧ Below w1.heap.size w1 wr) (fun _ _ p _ => (ps.length - intOf p).toNat)
    case atStart => exact ⟨0, by omega, rfl, rfl, World.ownsRow_nil _ _ _ _, Below.refl _ _⟩
    case round =>
      obtain ⟨k, hk, rfl, rfl, hown, hbr⟩ := hrel
      by_cases hkl : k = ps.length
      · have f0 : decide ((k : Int) < (ps.length : Int)) = false := decide_eq_false (by omega)
        subst hkl
        have hpr := hp1.later hbr
        go_wp2_with fail
        refine (lput_any ao cap ps wr hpr h30 Hs.out (fun p hp => ⟨(hpr.each p hp).1.lt, (hpr.each p hp).2.1.lt⟩)).mono ?_
        rintro e w3 ⟨rfl, hw3, hb3⟩
        have hown3 := own_later hown hb3
        have hlen3 := stP_len ps Hs.out ps.length
        have hl3 : (stP ps ps.length).l.length ≤ 100000000 := by omega
        have hbr3 : Below w1.heap.size w1 w3 := hbr.trans (hb3.mono hbr.size)
        have hb03 : Below W.heap.size W w3 := hb1.trans (hbr3.mono hb1.size)
        clear hlen3
        have hst := st_want ps ps.length (Nat.le_refl _)
        cases hok : okL ps ps.length with
        | false =>
          have hbad := hst.2 hok
          obtain ⟨vw, hvw⟩ := hw3
          rw [hbad] at hvw
          have hend := wend_bad _ _ _ _ _ _ hvw (by decide)
          have Hend := Lib.hid hend
          clear hend hst
          go_wp2_with fail
          refine Hend.out.mono ?_
          rintro e w4 ⟨v4, rfl, ho4, hb4⟩
          obtain ⟨ao4, cap4, rfl, hr4⟩ := Rd.of_own ho4
          go_wp2_with fail
          refine (num_any 2 w4).mono ?_
          rintro e w5 ⟨rfl, rfl⟩
          go_wp2_with fail
          refine (known_any _).mono ?_
          rintro e w6 ⟨rfl, hb6⟩
          go_wp2
          go_ret
          exact ⟨rfl, (hb03.trans (hb4.mono hb03.size)).trans (hb6.mono (Nat.le_trans hb03.size hb4.size))⟩
        | true =>
          have hgood := hst.1 hok
          rw [hgood] at hw3 hl3
          obtain ⟨vw, hvw⟩ := hw3
          have hend := wend_ok _ _ _ _ _ hvw hl3
          have Hend := Lib.hid hend
          clear hend hst
          go_wp2_with fail
          refine Hend.out.mono ?_
          rintro e w4 ⟨v4, rfl, ho4, hb4⟩
          have hown4 := own_later hown3 hb4
          have hvw4 := hvw.later hb4
          obtain ⟨ao4, cap4, rfl, hr4⟩ := Rd.of_own ho4
          generalize wantL ps ps.length = l at *
          have k63 : 0 + l.length ≤ maxLen := by unfold maxLen; omega
          have kby : (0 + l.length) * 1 ≤ 140737488355328 := by omega
          go_wp2_with (at_builtin; refine wpList_app _ rfl (.const (.slice none 0 0)) (.tmp 59) 22 rfl w4.heap.size 5 (.int .u8 0) 1 1 byT _ 0 (byV []) rfl (World.ownsRow_nil _ _ _ _) ao4 _ cap4 (byV l) rfl hr4 (byV_one _) k63 kby (Nat.le_refl _) ?_; intro ao5 cap5 w5 ho5 hg5 hb5 _)
          rw [Nat.zero_add] at ho5
          have ho5' : w5.ownsRow w4.heap.size 5 1 (.slice ao5 l.length cap5) l.length (byV l) := ho5
          have hown5 := own_later hown4 hb5
          have hvw5 := hvw4.later hb5
          have ho45 := own_later ho4 hb5
          go_loopw [12] (fun p wq => ∃ (j : Nat) (l2 : List UInt8), j ≤ l.length ∧ p = .int .i64 (j : Int) ∧ l2.length = l.length ∧ wq.ownsRow w3.heap.size 5 1 (.slice ao4 l.length cap4) l.length (byV l2) ∧ wq.ownsRow w4.heap.size 5 1 (.slice ao5 l.length cap5) l.length (byV l) ∧ wq.ownsRow w1.heap.size 5 1 u3 l.length (byV l) ∧ WrAt wr.heap.size wr.heap.size l 0 vw wq ∧ Below w3.heap.size w3 wq ∧ w4.heap.size ≤ wq.heap.size) (fun p _ => (l.length - intOf p).toNat)
          case atStart => exact ⟨0, l, by omega, rfl, rfl, ho45, ho5', hown5, hvw5, hb4.trans (hb5.mono hb4.size), hb5.size⟩
          case round =>
            obtain ⟨j, l2, hj, rfl, hl2, hq4, hq5, hqw, hqv, hbq, hsq⟩ := hrel
            by_cases hjl : j = l.length
            · have f4 : decide ((j : Int) < (l.length : Int)) = false := decide_eq_false (by omega)
              have hend2 := wend_ok _ _ _ _ _ hqv hl3
              have Hend2 := Lib.hid hend2
              clear hend2
              go_wp2_with fail
              refine Hend2.out.mono ?_
              rintro e w6 ⟨v6, rfl, ho6, hb6⟩
              obtain ⟨ao6, cap6, rfl, hr6⟩ := Rd.of_own ho6
              have hq56 := own_later hq5 hb6
              have hqw6 := own_later hqw hb6
              obtain ⟨ao7, cap7, rfl, hr7⟩ := Rd.of_own hqw6
              have hs5 := run_strD ao5 _ cap5 l w6 (Rd.of_own_slice hq56)
              have hs7 := run_strD ao7 _ cap7 l w6 hr7
              have hs6 := run_strD ao6 _ cap6 l w6 hr6
              go_wp2_with fail
              refine (num_any 0 w6).mono ?_
              rintro e wa ⟨rfl, rfl⟩
              go_wp2_with fail
              refine (num_any 0 _).mono ?_
              rintro e wb ⟨rfl, rfl⟩
              go_wp2_with fail
              refine (known_any _).mono ?_
              rintro e w8 ⟨rfl, hb8⟩
              go_wp2
              go_ret
              have hB := Nat.le_trans hb03.size hbq.size
              exact ⟨rfl, ((hb03.trans (hbq.mono hb03.size)).trans (hb6.mono hB)).trans (hb8.mono (Nat.le_trans hB hb6.size))⟩
            · have f4 : decide ((j : Int) < (l.length : Int)) = true := decide_eq_true (by omega)
              have hjl2 : j < l.length := by omega
              obtain ⟨q, hq⟩ : ∃ q, l.length = q + 1 := ⟨l.length - 1, by omega⟩
              obtain ⟨bb, cb, hbe⟩ : ∃ bb cb, (Value.slice ao4 l.length cap4) = .slice (some ⟨bb, 0, none⟩) l.length cb := by
                rw [hq] at hq4 ⊢; exact ownsRow_succ hq4
              obtain ⟨rfl, _, rfl⟩ := Value.slice.inj hbe
              clear hbe hq
              obtain ⟨k1, k2⟩ := own_blk hq4 (k := bb) rfl
              obtain ⟨k3, k4⟩ := own_blk ho4 (k := bb) rfl
              have hrd := Rd.of_own_slice hq4
              have hcap9 := hrd.le
              have hc := (hrd.2.2.2.2 (by omega) _ rfl).2.2 j (.int .u8 (l2[j].toNat : Int)) (by simp [byV, hl2, hjl2])
              dsimp only at hc
              rw [Nat.zero_add] at hc
              generalize hxx : l2[j] = xx at *
              have hfr : wr.frozen? ⟨bb, j, none⟩ = false := by
                rcases hq4.2 with ⟨h, _⟩ | ⟨g, c, cur, h, _, hg, _⟩
                · cases h
                · have := (Value.slice.inj h).1
                  cases this
                  simp [World.frozen?, hg]
              have i2 : (0 : Int) ≤ (j : Int) := by omega
              have i3 : (j : Int) < (l.length : Int) := by omega
              go_wp2_with fail
              case roundEnd =>
                have hg := grown_set wr bb j (.int .u8 (((xx + 1).toNat : Nat) : Int))
                have hs4 := own_set (i := j) (u := .int .u8 (((xx + 1).toNat : Nat) : Int)) hq4
                have hx1 : ((xx.toNat : Int) + 1) % 256 = (((xx + 1).toNat : Nat) : Int) := by
                  rw [UInt8.toNat_add]; simp
                have hset : byV (l2.set j (xx + 1)) = (byV l2).set j (.int .u8 (((xx + 1).toNat : Nat) : Int)) := by simp [byV, List.map_set]
                have hne : ∀ k, k < w3.heap.size → some k ≠ some bb := fun k hk e => by have := Option.some.inj e; omega
                have hlt1 := hvw.lt
                rw [hx1]
                refine ⟨⟨j + 1, l2.set j (xx + 1), by omega, by go_num, by simp [hl2], by rw [hset]; exact hs4, own_grown hq5 hg ?_, own_grown hqw hg ?_, hqv.grown hg (hne _ hlt1) ?_, hbq.setCell k3 _, by simp; omega⟩, by simp [intOf]; omega⟩
                · intro k hk e
                  have h1 := (own_blk hq5 hk).1
                  have := Option.some.inj e
                  omega
                · exact fun k hk => hne k (own_blk hown3 hk).2
                · exact fun k hk => hne k (own_blk hvw.own hk).2
      · have f0 : decide ((k : Int) < (ps.length : Int)) = true := decide_eq_true (by omega)
        have hkl2 : k < ps.length := by omega
        have hpk : ps[k]? = some ps[k] := List.getElem?_eq_getElem hkl2
        have hgk := (hp1.each _ (List.getElem_mem hkl2)).later hbr
        have hsk := Hs.out _ (List.getElem_mem hkl2)
        have hrd := hp1.rd.later hbr
        have hcap2 := hrd.le
        obtain ⟨lb, lf, rfl, llt, lc⟩ := hrd.some (by omega)
        have e0 := lc (k * 5 + 0) _ (ptsV_at ps k _ hpk 0 _ rfl)
        have e1 : wr.cell? ⟨lb, lf + k * 5 + 1, none⟩ = _ := lc (k * 5 + 1) _ (ptsV_at ps k _ hpk 1 _ rfl)
        have e2 : wr.cell? ⟨lb, lf + k * 5 + 2, none⟩ = _ := lc (k * 5 + 2) _ (ptsV_at ps k _ hpk 2 _ rfl)
        have e3 : wr.cell? ⟨lb, lf + k * 5 + 3, none⟩ = _ := lc (k * 5 + 3) _ (ptsV_at ps k _ hpk 3 _ rfl)
        have e4 : wr.cell? ⟨lb, lf + k * 5 + 4, none⟩ = _ := lc (k * 5 + 4) _ (ptsV_at ps k _ hpk 4 _ rfl)
        rw [Nat.add_zero] at e0
        have i0 : (0 : Int) ≤ (k : Int) := by omega
        have i1 : (k : Int) < (ps.length : Int) := by omega
        have hws := wantL_succ ps k _ hpk
        have hos := okL_succ ps k _ hpk
        have Hws := Lib.hid hws
        have Hos := Lib.hid hos
        have hwl := wantL_len ps Hs.out k hk
        have hbl := partB_len _ hsk
        have hc1 := lbytes_any _ wr hgk hsk
        clear hws hos hpk hgk hsk
        generalize ps[k] = p at *
        generalize hpb : partB p = pb at *
        obtain ⟨pl, pok⟩ := pb
        dsimp only at *
        have k63 : (wantL ps k).length + pl.length ≤ maxLen := by unfold maxLen; omega
        have kby : ((wantL ps k).length + pl.length) * 1 ≤ 140737488355328 := by omega
        clear hwl hbl hpb
        go_wp2_with fail
        refine hc1.mono ?_
        rintro e w2 ⟨v2, rfl, ho2, hb2⟩
        obtain ⟨ao2, cap2, rfl, hr2⟩ := Rd.of_own ho2
        have hown2 := own_later hown hb2
        have hbs2 := Nat.le_trans hbr.size hb2.size
        generalize okL ps k = okk at *
        cases okk <;> cases pok
        all_goals go_wp2_with (at_builtin; refine wpList_app _ rfl (.tmp 36) (.tmp 37) 22 rfl w1.heap.size 5 (.int .u8 0) 1 1 byT _ _ _ rfl hown2 ao2 _ cap2 _ rfl hr2 (byV_one _) k63 kby hbs2 ?_; intro ao3 cap3 w3 ho3 hg3 hb3 _)
        all_goals go_roundw
        all_goals first | exact ⟨k + 1, by omega, by go_num, by rw [Hos.out]; rfl, by rw [Hws.out, List.length_append, byV_app]; exact ho3, hbr.trans ((hb2.mono hbr.size).trans hb3)⟩ | (simp [intOf]; omega)
end Go.Proofs.Ytpkabinmnkadeaa.Tlv
