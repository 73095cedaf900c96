/-
  From: copies of the requests behind a place.
  The program's log, act by act.
  The two logs side by side: what each act leaves of them.
-/
import Derived.Test.YtghjgajgjhbjpaaGreatPr
import Derived.Test.YtghjgajgjhbjpaaGreatPo
import Derived.Test.YtghjgajgjhbjpaaGreatPp
namespace Go.Proofs.YtghjgajgjhbjpaaGreat.Mem
open Go Go.RowKit
section
variable {P : Program} {w : World}
theorem wpList_appO {ops : Array Oper} {rest : List Oper} {o : Oper} {a : Act} {Q : Exit → Act → World → Prop} (hgd : o.guard = none) (s x : Operand) (t : TypeId)
    (ho : o.op = .call { callee := .builtin .append, args := #[s, x], argTypes := #[t, t] }) (base : Nat) (e : TypeId) (z : Value) (size bytes : Nat) (T : SliceT P t e z size bytes)
    (v : Value) (n : Nat) (xs : List Value) (hs : a.eval s = v) (hown : OwnO w base e size v n xs) (ad : Addr) (m c : Nat) (news : List Value) (hx : a.eval x = .slice (some ad) m c) (hr : Rd w size (some ad) m c news) (h1 : ∀ u ∈ news, u.oneCell' = true)
    (h63 : n + m ≤ maxLen) (hbytes : (n + m) * bytes ≤ 140737488355328) (hbase : base ≤ w.heap.size) (hm : 0 < m)
    (h : ∀ a' cap' w', OwnO w' base e size (.slice (some a') (n + m) cap') (n + m) (xs ++ news) → w.grownBy w' v.ownBlock → Below base w w' → (v.ownBlock = some a'.block ∨ w.heap.size ≤ a'.block) → wpList P ops Q rest (a.put o.dst (.slice (some a') (n + m) cap')) w') :
    wpList P ops Q (o :: rest) a w := by
  refine wpList_plain hgd fun K hK => ?_
  obtain ⟨a', cap', w', hrun, r1, r2, r3, r4, -⟩ := run_appO (P := P) w base t o.type e z size bytes T v n xs hown ad m c news hr h1 h63 hbytes hbase hm
  unfold Oper.wp execOp
  simp only [ho, resolve, invoke, builtin, Sem.run_bind, Sem.run_pure, Result.andThen_ok, List.map_toArray, List.map_cons, List.map_nil, hs, hx, hrun]
  exact hK _ _ (h a' cap' w' r1 r2 r3 r4)
end
end Go.Proofs.YtghjgajgjhbjpaaGreat.Mem
namespace Go.Proofs.YtghjgajgjhbjpaaGreat.Msg
open Go.RowKit Go.Lib Go.Proofs.YtghjgajgjhbjpaaGreat.Mem Go.Proofs.YtghjgajgjhbjpaaGreat.Tlv

/-- Behind j copies. -/
def FrAt (w : World) (qs2 : List RP) (j : Nat) (v : Value) (wr : World) : Prop := ∃ out : List RP, OwnO wr w.heap.size 42 9 v j (reqV (out.map Prod.fst)) ∧ Twins (qs2.take j) out ∧ (∀ q ∈ out, OpAt wr q.1.op q.2) ∧ (∀ q ∈ out, ApartC q.1.op v.ownBlock) ∧ Below w.heap.size w wr
def GivesFr (qs2 : List RP) (w : World) (e : Ending) (w' : World) : Prop := ∃ ao cap out, e = .returned (.tuple #[.slice ao qs2.length cap, .int .i64 0]) ∧ ReqsAt ao qs2.length cap out w' ∧ Twins qs2 out ∧ Below w.heap.size w w'
theorem gives_fr {w0 w wr : World} {qs2 : List RP} {v : Value} (h0 : Below w0.heap.size w0 w) (h : FrAt w qs2 qs2.length v wr) : GivesFr qs2 w0 (.returned (.tuple #[v, .int .i64 0])) wr := by
  obtain ⟨out, ho, ht, hop, -, hb⟩ := h
  obtain ⟨ao, cap, rfl, hr, -⟩ := ho.rd
  rw [List.take_length] at ht
  exact ⟨ao, cap, out, rfl, ⟨hr, hop⟩, ht, h0.trans (hb.mono h0.size)⟩
theorem rd_at_end {W : World} {size : Nat} {a : Option Addr} : Rd W size a 0 0 [] := ⟨by simp, Nat.le_refl _, Nat.zero_le _, fun _ => rfl, fun h => by omega⟩

set_option maxRecDepth 100000 in
set_option maxHeartbeats 8000000 in
theorem from_lt (B g : Nat) (base : Int) (b1 o1 lc n k : Nat) (s : Value) (qs : List RP) (x : Int) (w : World) (h : PLog B g base (.slice (some ⟨b1, o1, none⟩) n lc) s qs w) (hql : qs.length = n) (hn : n ≤ 1000000) (h0 : 0 ≤ base) (h1 : base ≤ 9000000000000000000) (hx : x = base + (k : Nat)) (hk : k ≤ n) (hkl : k < lc) :
    Calls Tryz.prog 50 #[.pointer (some ⟨g, 0, none⟩), .int .u64 x] w (GivesFr (qs.drop k) w) := by
  have hmo : Tryz.prog.follows .mixedOrders = true := by kernel_rfl
  obtain ⟨lo', lc', so, sc, e1, e2, hR⟩ := h.rd
  rw [hql] at e1 e2 hR
  cases e1
  have hlc := hR.rl.2.1
  have hlc2 := hR.rl.2.2.1
  unfold maxLen at hlc2
  have hmay := may_ok g base n _ _ _ _ _ _ x w hR hn h0 h1 (by omega) (by omega)
  have hsub : IntKind.wrap .u64 (x - base) = (k : Nat) := by rw [hx, IntKind.wrap_u64]; omega
  have Hql := Lib.hid hql
  clear hx hlc2 hql
  go_enter Tryz.func50, Tryz.ntmps50
  go_wp2_with fail
  refine hmay.mono ?_
  rintro e w1 ⟨rfl, q, rfl⟩
  have h2 := hR.later (below_drewN (Below.refl w.heap.size w) q)
  obtain ⟨c0, c1, c2, c3, -⟩ := h2.cells
  go_upto_region 5 with fail
  have s0 : AtG g base (.slice (some ⟨b1, o1, none⟩) n lc) (.slice so n sc) (w.drewN q).drew := h2.at_
  have hb3 : Below w.heap.size w (w.drewN q).drew := (below_drewN (Below.refl w.heap.size w) q).drew
  have hP := h.later hb3
  refine wp_region_held (S := AtG g base (.slice (some ⟨b1, o1, none⟩) n lc) (.slice so n sc)) hmo ?_
  change wpAnyH _ _ _ _ _ _ _ _ (World.drew (w.drewN q))
  clear c0 c1 c2 c3 h2 hmay
  generalize (w.drewN q).drew = V0 at *
  have n0 : (0 : Int) ≤ (k : Int) := by omega
  have n1 : (k : Int) ≤ (n : Int) := by omega
  have n2 : (n : Int) ≤ (lc : Int) := by omega
  have n4 : (k : Int) ≤ (lc : Int) := by omega
  refine wpAnyH_take (i := 0) (v := .pointer (some ⟨g, 0, none⟩)) rfl (by kernel_rfl) (by kernel_rfl) (by kernel_rfl) (fun _ _ _ h => h) (Or.inl ⟨by kernel_rfl, by intro _ _; kernel_rfl⟩) s0 ?_
  go_simp
  refine wpAnyH_take (i := 1) (v := .pointer (some ⟨g, 0, none⟩)) rfl (by kernel_rfl) (by kernel_rfl) (by kernel_rfl) (fun _ _ _ h => h) (Or.inl ⟨by kernel_rfl, by intro _ _; kernel_rfl⟩) s0 ?_
  go_simp
  refine wpAnyH_take (i := 2) (v := .pointer (some ⟨g, 2, none⟩)) rfl (by kernel_rfl) (by kernel_rfl) (by kernel_rfl) (fun _ _ _ h => h) (Or.inl ⟨by kernel_rfl, by intro _ _; kernel_rfl⟩) s0 ?_
  go_simp
  refine wpAnyH_take (i := 3) (v := .slice (some ⟨b1, o1, none⟩) n lc) rfl (by kernel_rfl) (by kernel_rfl) (by kernel_rfl) (fun _ _ _ h => h) (Or.inl ⟨by kernel_rfl, by rintro w h; obtain ⟨c1, c2, c3, -⟩ := h.cells; first | (go_simp; done) | (go_simp; omega)⟩) s0 ?_
  go_simp
  refine wpAnyH_take (i := 4) (v := .int .u64 x) rfl (by kernel_rfl) (by kernel_rfl) (by kernel_rfl) (fun _ _ _ h => h) (Or.inl ⟨by kernel_rfl, by intro _ _; kernel_rfl⟩) s0 ?_
  go_simp
  refine wpAnyH_take (i := 5) (v := .pointer (some ⟨g, 0, none⟩)) rfl (by kernel_rfl) (by kernel_rfl) (by kernel_rfl) (fun _ _ _ h => h) (Or.inl ⟨by kernel_rfl, by intro _ _; kernel_rfl⟩) s0 ?_
  go_simp
  refine wpAnyH_take (i := 6) (v := .pointer (some ⟨g, 0, none⟩)) rfl (by kernel_rfl) (by kernel_rfl) (by kernel_rfl) (fun _ _ _ h => h) (Or.inl ⟨by kernel_rfl, by intro _ _; kernel_rfl⟩) s0 ?_
  go_simp
  refine wpAnyH_take (i := 7) (v := .pointer (some ⟨g, 1, none⟩)) rfl (by kernel_rfl) (by kernel_rfl) (by kernel_rfl) (fun _ _ _ h => h) (Or.inl ⟨by kernel_rfl, by intro _ _; kernel_rfl⟩) s0 ?_
  go_simp
  refine wpAnyH_take (i := 8) (v := .int .u64 base) rfl (by kernel_rfl) (by kernel_rfl) (by kernel_rfl) (fun _ _ _ h => h) (Or.inl ⟨by kernel_rfl, by rintro w h; obtain ⟨c1, c2, c3, -⟩ := h.cells; first | (go_simp; done) | (go_simp; omega)⟩) s0 ?_
  go_simp
  refine wpAnyH_take (i := 9) (v := .int .u64 (k : Int)) rfl (by kernel_rfl) (by kernel_rfl) (by kernel_rfl) (fun _ _ _ h => h) (Or.inl ⟨by kernel_rfl, by rintro w h; obtain ⟨c1, c2, c3, -⟩ := h.cells; first | (go_simp; done) | (go_simp; omega)⟩) s0 ?_
  go_simp
  refine wpAnyH_take (i := 10) (v := .slice (some ⟨b1, o1 + k * 9, none⟩) (n - k) (lc - k)) rfl (by kernel_rfl) (by kernel_rfl) (by kernel_rfl) (fun _ _ _ h => h) (Or.inl ⟨by kernel_rfl, by rintro w h; obtain ⟨c1, c2, c3, -⟩ := h.cells; first | (go_simp; done) | (go_simp; omega)⟩) s0 ?_
  go_simp
  refine wpAnyH_take (i := 11) (v := .int .i64 ((n - k : Nat) : Int)) rfl (by kernel_rfl) (by kernel_rfl) (by kernel_rfl) (fun _ _ _ h => h) (Or.inl ⟨by kernel_rfl, by rintro w h; obtain ⟨c1, c2, c3, -⟩ := h.cells; first | (go_simp; done) | (go_simp; omega)⟩) s0 ?_
  go_simp
  refine wpAnyH_take (i := 12) (v := .int .i64 0) rfl (by kernel_rfl) (by kernel_rfl) (by kernel_rfl) (fun _ _ _ h => h) (Or.inl ⟨by kernel_rfl, by intro _ _; kernel_rfl⟩) s0 ?_
  go_simp
  refine wpAnyH_done (by kernel_rfl) ?_ _
  have hq2 : ReqsAt (some ⟨b1, o1 + k * 9, none⟩) (n - k) (lc - k) (qs.drop k) V0 := by
    have hrd : Rd V0 9 (some ⟨b1, o1, none⟩) n lc (reqV (qs.map Prod.fst)) := (hR.later hb3).rl
    have := rd_drop hrd k hk
    rw [← reqV_drop, ← List.map_drop] at this
    exact ⟨this, fun p hp => hP.ops p (List.mem_of_mem_drop hp)⟩
  have hml : n - k ≤ 1000000 := by omega
  have hgl : ∀ v wr, FrAt V0 (qs.drop k) (qs.drop k).length v wr → GivesFr (qs.drop k) w (.returned (.tuple #[v, .int .i64 0])) wr := fun v wr h => gives_fr hb3 h
  rw [hq2.len] at hgl
  obtain ⟨qs2, Q2⟩ : ∃ l, qs.drop k = l := ⟨_, rfl⟩
  rw [Q2] at hq2 hgl
  have HQ := Lib.hid Q2
  clear hP s0 hR h n0 n1 n2 n4 hk hkl hlc Q2
  generalize n - k = m at *
  generalize lc - k = c2 at *
  generalize o1 + k * 9 = o2 at *
  have LX := Lib.hid hq2.len
  go_wp2_with fail
  go_loopw [7, 28] (fun v p wr => ∃ j : Nat, j ≤ m ∧ p = .int .i64 (j : Int) ∧ FrAt V0 qs2 j v wr) (fun _ p _ => m - (intOf p).toNat)
  case atStart => exact ⟨0, Nat.zero_le _, rfl, [], OwnO.of_own (World.ownsRow_nil _ _ _ _), by rw [List.take_zero]; exact Twins.nil, (fun q hq => by cases hq), (fun q hq => by cases hq), Below.refl _ _⟩
  case round =>
    obtain ⟨j, hj, rfl, hO⟩ := hrel
    by_cases hjm : j < m
    · obtain ⟨out, hown, htw, hops, hsep, hbr⟩ := hO
      have hr := hq2.later hbr
      obtain ⟨p, hu⟩ : ∃ u, qs2[j]? = some u := ⟨_, List.getElem?_eq_getElem (by rw [LX.out]; exact hjm)⟩
      have hpm := List.mem_of_getElem? hu
      obtain ⟨b3, o3, ea, hl1, hc1⟩ := hr.rd.some (by have := hr.rd.le; omega)
      cases ea
      obtain ⟨c0, c1, c2', c3, c4, c5, c6, c7, c8⟩ := rcells (qs2.map Prod.fst) j p.1 (map_at qs2 j p hu) (W := wr) (b := b1) (o := o2) hc1
      have i0 : (0 : Int) ≤ (j : Int) := by omega
      have i1 : (j : Int) < (m : Int) := by omega
      have ho0 := hr.ops p hpm
      clear hc1
      go_upto_region 8 with fail
      generalize hgw0 : wr.alloc _ = W0
      have e : wr.alloc p.1.box = W0 := by simp only [RV.box, RV.cells]; exact hgw0
      have hb0w : Below wr.heap.size wr W0 := by rw [← e]; exact (Below.refl _ _).alloc (Nat.le_refl _) _
      have k1 : W0.heap[wr.heap.size]? = some p.1.box := by rw [← e]; show (wr.heap.push _)[wr.heap.size]? = some _; exact Array.getElem?_push_size
      clear hgw0 e c0 c1 c2' c3 c4 c5 c6 c7 c8
      obtain ⟨c0, c1, c2', c3, c4, c5, c6, c7, c8, -⟩ := rbox_all k1
      have hcp := copyReq_any p.1 p.2 W0 (ho0.later hb0w)
      unfold RV.val RV.cells at hcp
      go_wp2_with fail
      refine hcp.mono ?_
      rintro e V1 ⟨u, rfl, hcu, hou, hv1⟩
      simp only [RV.val, RV.cells]
      clear c0 c1 c2' c3 c4 c5 c6 c7 c8
      have q0 := hb0w.size
      have q1 := hv1.size
      have hbs := hbr.size
      have hown1 := (hown.later hb0w).later hv1
      have hb8 : Below V1.heap.size V1 (V1.alloc (.cells (RV.cells ⟨p.1.cl, p.1.nu, u⟩) 42)) := (Below.refl _ _).alloc (Nat.le_refl _) _
      have hr8 : Rd (V1.alloc (.cells (RV.cells ⟨p.1.cl, p.1.nu, u⟩) 42)) 9 (some ⟨V1.heap.size, 0, none⟩) 1 1 (RV.cells ⟨p.1.cl, p.1.nu, u⟩).toList := Rd.new V1 (RV.cells ⟨p.1.cl, p.1.nu, u⟩).toList 42 (0, 0) 9 1 (by simp [RV.cells]) (by decide)
      have hown8 := hown1.later hb8
      have hsz8 := hb8.size
      have hou8 := hou.later hb8
      have hbr8 : Below V0.heap.size V0 (V1.alloc (.cells (RV.cells ⟨p.1.cl, p.1.nu, u⟩) 42)) := ((hbr.trans (hb0w.mono hbs)).trans (hv1.mono (by omega))).trans (hb8.mono (by omega))
      have hops8 : ∀ q ∈ out, OpAt (V1.alloc (.cells (RV.cells ⟨p.1.cl, p.1.nu, u⟩) 42)) q.1.op q.2 := fun q hq => (((hops q hq).later hb0w).later hv1).later hb8
      have hin : ∀ q ∈ out, OpIn V1.heap.size q.1.op := fun q hq => (hops q hq).in_.mono (by omega)
      simp only [RV.cells] at hr8 hown8 hsz8 hou8 hbr8 hops8
      clear hb8
      go_wp2_with (at_builtin; refine wpList_appO rfl (.tmp 32) (.tmp 35) 23 rfl V0.heap.size 42 zeroR.val 9 136 sliceT_req _ j (reqV (out.map Prod.fst)) rfl hown8 ⟨V1.heap.size, 0, none⟩ 1 1 _ rfl hr8 (cells_one ⟨p.1.cl, p.1.nu, u⟩) (by unfold maxLen; omega) (by omega) (by omega) (by decide) ?_; intro a5 cap5 V5 own5 gr5 bel5 fr5)
      have hnext : FrAt V0 qs2 (j + 1) (.slice (some a5) (j + 1) cap5) V5 := by
        have ht1 : qs2.take (j + 1) = qs2.take j ++ [p] := by
          obtain ⟨hl', he'⟩ := List.getElem?_eq_some_iff.1 hu
          rw [List.take_succ_eq_append_getElem hl', he']
        have hlow : ∀ i, u7.ownBlock = some i → i < wr.heap.size := fun i hi => (hown.low i hi).2
        have hap : ApartC u u7.ownBlock := ⟨fun _ x hx e => by have := hcu.fa x hx; have := hlow _ e.symm; omega, fun _ x hx e => by have := hcu.fb x hx; have := hlow _ e.symm; omega, fun _ x hx e => by have := hcu.fc x hx; have := hlow _ e.symm; omega⟩
        have hfr : ∀ i, (Value.slice (some a5) (j + 1) cap5).ownBlock = some i → u7.ownBlock = some i ∨ V1.heap.size ≤ i := by
          intro i hi
          have : a5.block = i := by simpa [Value.ownBlock] using hi
          subst this
          rcases fr5 with h | h
          · exact .inl h
          · exact .inr (by omega)
        refine ⟨out ++ [(⟨p.1.cl, p.1.nu, u⟩, p.2)], ?_, by rw [ht1]; exact htw.snoc ⟨rfl, rfl, hcu.alike, rfl⟩, ?_, ?_, hbr8.trans bel5⟩
        · rw [(map_snoc out (⟨p.1.cl, p.1.nu, u⟩, p.2)).1, show reqV (out.map Prod.fst ++ [(⟨p.1.cl, p.1.nu, u⟩ : RV)]) = reqV (out.map Prod.fst) ++ (RV.cells ⟨p.1.cl, p.1.nu, u⟩).toList from by simp [reqV]]
          exact own5
        · intro q hq'
          rcases List.mem_append.1 hq' with hq' | hq'
          · exact (hops8 q hq').grownC gr5 (hsep q hq')
          · rw [List.mem_singleton] at hq'
            subst hq'
            exact hou8.grownC gr5 hap
        · intro q hq'
          rcases List.mem_append.1 hq' with hq' | hq'
          · exact (hsep q hq').turn (hin q hq') hfr
          · rw [List.mem_singleton] at hq'
            subst hq'
            exact hap.turn hou.in_ hfr
      have Hn := Lib.hid hnext
      clear hnext own5 gr5 bel5 fr5 hr8 hown8 hsz8 hou8 hbr8 hops8 hin hown1 hcp
      go_wp2_with fail
      go_roundw
      case rel => exact ⟨j + 1, by omega, by go_num, Hn.out⟩
      case measure => simp [intOf]; omega
    · have hjm2 : j = m := by omega
      subst hjm2
      have HG := Lib.hid (hgl _ _ hO)
      clear hO hgl
      go_wp2_with fail
      go_ret2
      rw [HQ.out]
      exact HG.out

set_option maxRecDepth 100000 in
set_option maxHeartbeats 8000000 in
theorem from_eq (B g : Nat) (base : Int) (b1 o1 k : Nat) (s : Value) (qs : List RP) (x : Int) (w : World) (h : PLog B g base (.slice (some ⟨b1, o1, none⟩) k k) s qs w) (hql : qs.length = k) (hn : k ≤ 1000000) (h0 : 0 ≤ base) (h1 : base ≤ 9000000000000000000) (hx : x = base + (k : Nat)) :
    Calls Tryz.prog 50 #[.pointer (some ⟨g, 0, none⟩), .int .u64 x] w (GivesFr ([]) w) := by
  have hmo : Tryz.prog.follows .mixedOrders = true := by kernel_rfl
  obtain ⟨lo', lc', so, sc, e1, e2, hR⟩ := h.rd
  rw [hql] at e1 e2 hR
  cases e1
  have hlc := hR.rl.2.1
  have hlc2 := hR.rl.2.2.1
  unfold maxLen at hlc2
  have hmay := may_ok g base k _ _ _ _ _ _ x w hR hn h0 h1 (by omega) (by omega)
  have hsub : IntKind.wrap .u64 (x - base) = (k : Nat) := by rw [hx, IntKind.wrap_u64]; omega
  have Hql := Lib.hid hql
  clear hx hlc2 hql
  go_enter Tryz.func50, Tryz.ntmps50
  go_wp2_with fail
  refine hmay.mono ?_
  rintro e w1 ⟨rfl, q, rfl⟩
  have h2 := hR.later (below_drewN (Below.refl w.heap.size w) q)
  obtain ⟨c0, c1, c2, c3, -⟩ := h2.cells
  go_upto_region 5 with fail
  have s0 : AtG g base (.slice (some ⟨b1, o1, none⟩) k k) (.slice so k sc) (w.drewN q).drew := h2.at_
  have hb3 : Below w.heap.size w (w.drewN q).drew := (below_drewN (Below.refl w.heap.size w) q).drew
  have hP := h.later hb3
  refine wp_region_held (S := AtG g base (.slice (some ⟨b1, o1, none⟩) k k) (.slice so k sc)) hmo ?_
  change wpAnyH _ _ _ _ _ _ _ _ (World.drew (w.drewN q))
  clear c0 c1 c2 c3 h2 hmay
  generalize (w.drewN q).drew = V0 at *
  have n0 : (0 : Int) ≤ (k : Int) := by omega
  have n1 : (k : Int) ≤ (k : Int) := by omega
  have n2 : (k : Int) ≤ (k : Int) := by omega
  have n4 : (k : Int) ≤ (k : Int) := by omega
  refine wpAnyH_take (i := 0) (v := .pointer (some ⟨g, 0, none⟩)) rfl (by kernel_rfl) (by kernel_rfl) (by kernel_rfl) (fun _ _ _ h => h) (Or.inl ⟨by kernel_rfl, by intro _ _; kernel_rfl⟩) s0 ?_
  go_simp
  refine wpAnyH_take (i := 1) (v := .pointer (some ⟨g, 0, none⟩)) rfl (by kernel_rfl) (by kernel_rfl) (by kernel_rfl) (fun _ _ _ h => h) (Or.inl ⟨by kernel_rfl, by intro _ _; kernel_rfl⟩) s0 ?_
  go_simp
  refine wpAnyH_take (i := 2) (v := .pointer (some ⟨g, 2, none⟩)) rfl (by kernel_rfl) (by kernel_rfl) (by kernel_rfl) (fun _ _ _ h => h) (Or.inl ⟨by kernel_rfl, by intro _ _; kernel_rfl⟩) s0 ?_
  go_simp
  refine wpAnyH_take (i := 3) (v := .slice (some ⟨b1, o1, none⟩) k k) rfl (by kernel_rfl) (by kernel_rfl) (by kernel_rfl) (fun _ _ _ h => h) (Or.inl ⟨by kernel_rfl, by rintro w h; obtain ⟨c1, c2, c3, -⟩ := h.cells; go_simp⟩) s0 ?_
  go_simp
  refine wpAnyH_take (i := 4) (v := .int .u64 x) rfl (by kernel_rfl) (by kernel_rfl) (by kernel_rfl) (fun _ _ _ h => h) (Or.inl ⟨by kernel_rfl, by intro _ _; kernel_rfl⟩) s0 ?_
  go_simp
  refine wpAnyH_take (i := 5) (v := .pointer (some ⟨g, 0, none⟩)) rfl (by kernel_rfl) (by kernel_rfl) (by kernel_rfl) (fun _ _ _ h => h) (Or.inl ⟨by kernel_rfl, by intro _ _; kernel_rfl⟩) s0 ?_
  go_simp
  refine wpAnyH_take (i := 6) (v := .pointer (some ⟨g, 0, none⟩)) rfl (by kernel_rfl) (by kernel_rfl) (by kernel_rfl) (fun _ _ _ h => h) (Or.inl ⟨by kernel_rfl, by intro _ _; kernel_rfl⟩) s0 ?_
  go_simp
  refine wpAnyH_take (i := 7) (v := .pointer (some ⟨g, 1, none⟩)) rfl (by kernel_rfl) (by kernel_rfl) (by kernel_rfl) (fun _ _ _ h => h) (Or.inl ⟨by kernel_rfl, by intro _ _; kernel_rfl⟩) s0 ?_
  go_simp
  refine wpAnyH_take (i := 8) (v := .int .u64 base) rfl (by kernel_rfl) (by kernel_rfl) (by kernel_rfl) (fun _ _ _ h => h) (Or.inl ⟨by kernel_rfl, by rintro w h; obtain ⟨c1, c2, c3, -⟩ := h.cells; go_simp⟩) s0 ?_
  go_simp
  refine wpAnyH_take (i := 9) (v := .int .u64 (k : Int)) rfl (by kernel_rfl) (by kernel_rfl) (by kernel_rfl) (fun _ _ _ h => h) (Or.inl ⟨by kernel_rfl, by rintro w h; obtain ⟨c1, c2, c3, -⟩ := h.cells; go_simp⟩) s0 ?_
  go_simp
  refine wpAnyH_take (i := 10) (v := .slice (some ⟨b1, o1, none⟩) 0 0) rfl (by kernel_rfl) (by kernel_rfl) (by kernel_rfl) (fun _ _ _ h => h) (Or.inl ⟨by kernel_rfl, by rintro w h; obtain ⟨c1, c2, c3, -⟩ := h.cells; go_simp⟩) s0 ?_
  go_simp
  refine wpAnyH_take (i := 11) (v := .int .i64 0) rfl (by kernel_rfl) (by kernel_rfl) (by kernel_rfl) (fun _ _ _ h => h) (Or.inl ⟨by kernel_rfl, by rintro w h; obtain ⟨c1, c2, c3, -⟩ := h.cells; go_simp⟩) s0 ?_
  go_simp
  refine wpAnyH_take (i := 12) (v := .int .i64 0) rfl (by kernel_rfl) (by kernel_rfl) (by kernel_rfl) (fun _ _ _ h => h) (Or.inl ⟨by kernel_rfl, by intro _ _; kernel_rfl⟩) s0 ?_
  go_simp
  refine wpAnyH_done (by kernel_rfl) ?_ _
  clear hP s0 hR h hlc n0 n1 n2 n4
  go_wp2_with fail
  go_loopw [7, 28] (fun v p wr => v = .slice none 0 0 ∧ p = .int .i64 0 ∧ wr = V0) (fun _ p _ => 0)
  case atStart => exact ⟨rfl, rfl, rfl⟩
  case round =>
    obtain ⟨rfl, rfl, rfl⟩ := hrel
    go_wp2_with fail
    go_ret2
    exact ⟨none, 0, [], rfl, ⟨Rd.nil _ _, fun p hp => by cases hp⟩, Twins.nil, hb3⟩

set_option maxRecDepth 100000 in
set_option maxHeartbeats 8000000 in
theorem from_nil (B g : Nat) (base : Int) (s : Value) (qs : List RP) (x : Int) (w : World) (h : PLog B g base (.slice none 0 0) s qs w) (hql : qs.length = 0) (hn : 0 ≤ 1000000) (h0 : 0 ≤ base) (h1 : base ≤ 9000000000000000000) (hx : x = base + (0 : Nat)) :
    Calls Tryz.prog 50 #[.pointer (some ⟨g, 0, none⟩), .int .u64 x] w (GivesFr ([]) w) := by
  have hmo : Tryz.prog.follows .mixedOrders = true := by kernel_rfl
  obtain ⟨lo', lc', so, sc, e1, e2, hR⟩ := h.rd
  rw [hql] at e1 e2 hR
  cases e1
  have hlc := hR.rl.2.1
  have hlc2 := hR.rl.2.2.1
  unfold maxLen at hlc2
  have hmay := may_ok g base 0 _ _ _ _ _ _ x w hR hn h0 h1 (by omega) (by omega)
  have hsub : IntKind.wrap .u64 (x - base) = (0 : Nat) := by rw [hx, IntKind.wrap_u64]; omega
  have Hql := Lib.hid hql
  clear hx hlc2 hql
  go_enter Tryz.func50, Tryz.ntmps50
  go_wp2_with fail
  refine hmay.mono ?_
  rintro e w1 ⟨rfl, q, rfl⟩
  have h2 := hR.later (below_drewN (Below.refl w.heap.size w) q)
  obtain ⟨c0, c1, c2, c3, -⟩ := h2.cells
  go_upto_region 5 with fail
  have s0 : AtG g base (.slice none 0 0) (.slice so 0 sc) (w.drewN q).drew := h2.at_
  have hb3 : Below w.heap.size w (w.drewN q).drew := (below_drewN (Below.refl w.heap.size w) q).drew
  have hP := h.later hb3
  refine wp_region_held (S := AtG g base (.slice none 0 0) (.slice so 0 sc)) hmo ?_
  change wpAnyH _ _ _ _ _ _ _ _ (World.drew (w.drewN q))
  clear c0 c1 c2 c3 h2 hmay
  generalize (w.drewN q).drew = V0 at *
  refine wpAnyH_take (i := 0) (v := .pointer (some ⟨g, 0, none⟩)) rfl (by kernel_rfl) (by kernel_rfl) (by kernel_rfl) (fun _ _ _ h => h) (Or.inl ⟨by kernel_rfl, by intro _ _; kernel_rfl⟩) s0 ?_
  go_simp
  refine wpAnyH_take (i := 1) (v := .pointer (some ⟨g, 0, none⟩)) rfl (by kernel_rfl) (by kernel_rfl) (by kernel_rfl) (fun _ _ _ h => h) (Or.inl ⟨by kernel_rfl, by intro _ _; kernel_rfl⟩) s0 ?_
  go_simp
  refine wpAnyH_take (i := 2) (v := .pointer (some ⟨g, 2, none⟩)) rfl (by kernel_rfl) (by kernel_rfl) (by kernel_rfl) (fun _ _ _ h => h) (Or.inl ⟨by kernel_rfl, by intro _ _; kernel_rfl⟩) s0 ?_
  go_simp
  refine wpAnyH_take (i := 3) (v := .slice none 0 0) rfl (by kernel_rfl) (by kernel_rfl) (by kernel_rfl) (fun _ _ _ h => h) (Or.inl ⟨by kernel_rfl, by rintro w h; obtain ⟨c1, c2, c3, -⟩ := h.cells; go_simp⟩) s0 ?_
  go_simp
  refine wpAnyH_take (i := 4) (v := .int .u64 x) rfl (by kernel_rfl) (by kernel_rfl) (by kernel_rfl) (fun _ _ _ h => h) (Or.inl ⟨by kernel_rfl, by intro _ _; kernel_rfl⟩) s0 ?_
  go_simp
  refine wpAnyH_take (i := 5) (v := .pointer (some ⟨g, 0, none⟩)) rfl (by kernel_rfl) (by kernel_rfl) (by kernel_rfl) (fun _ _ _ h => h) (Or.inl ⟨by kernel_rfl, by intro _ _; kernel_rfl⟩) s0 ?_
  go_simp
  refine wpAnyH_take (i := 6) (v := .pointer (some ⟨g, 0, none⟩)) rfl (by kernel_rfl) (by kernel_rfl) (by kernel_rfl) (fun _ _ _ h => h) (Or.inl ⟨by kernel_rfl, by intro _ _; kernel_rfl⟩) s0 ?_
  go_simp
  refine wpAnyH_take (i := 7) (v := .pointer (some ⟨g, 1, none⟩)) rfl (by kernel_rfl) (by kernel_rfl) (by kernel_rfl) (fun _ _ _ h => h) (Or.inl ⟨by kernel_rfl, by intro _ _; kernel_rfl⟩) s0 ?_
  go_simp
  refine wpAnyH_take (i := 8) (v := .int .u64 base) rfl (by kernel_rfl) (by kernel_rfl) (by kernel_rfl) (fun _ _ _ h => h) (Or.inl ⟨by kernel_rfl, by rintro w h; obtain ⟨c1, c2, c3, -⟩ := h.cells; go_simp⟩) s0 ?_
  go_simp
  refine wpAnyH_take (i := 9) (v := .int .u64 0) rfl (by kernel_rfl) (by kernel_rfl) (by kernel_rfl) (fun _ _ _ h => h) (Or.inl ⟨by kernel_rfl, by rintro w h; obtain ⟨c1, c2, c3, -⟩ := h.cells; go_simp⟩) s0 ?_
  go_simp
  refine wpAnyH_take (i := 10) (v := .slice none 0 0) rfl (by kernel_rfl) (by kernel_rfl) (by kernel_rfl) (fun _ _ _ h => h) (Or.inl ⟨by kernel_rfl, by rintro w h; obtain ⟨c1, c2, c3, -⟩ := h.cells; go_simp⟩) s0 ?_
  go_simp
  refine wpAnyH_take (i := 11) (v := .int .i64 0) rfl (by kernel_rfl) (by kernel_rfl) (by kernel_rfl) (fun _ _ _ h => h) (Or.inl ⟨by kernel_rfl, by rintro w h; obtain ⟨c1, c2, c3, -⟩ := h.cells; go_simp⟩) s0 ?_
  go_simp
  refine wpAnyH_take (i := 12) (v := .int .i64 0) rfl (by kernel_rfl) (by kernel_rfl) (by kernel_rfl) (fun _ _ _ h => h) (Or.inl ⟨by kernel_rfl, by intro _ _; kernel_rfl⟩) s0 ?_
  go_simp
  refine wpAnyH_done (by kernel_rfl) ?_ _
  clear hP s0 hR h hlc
  go_wp2_with fail
  go_loopw [7, 28] (fun v p wr => v = .slice none 0 0 ∧ p = .int .i64 0 ∧ wr = V0) (fun _ p _ => 0)
  case atStart => exact ⟨rfl, rfl, rfl⟩
  case round =>
    obtain ⟨rfl, rfl, rfl⟩ := hrel
    go_wp2_with fail
    go_ret2
    exact ⟨none, 0, [], rfl, ⟨Rd.nil _ _, fun p hp => by cases hp⟩, Twins.nil, hb3⟩
end Go.Proofs.YtghjgajgjhbjpaaGreat.Msg
namespace Go.Proofs.YtghjgajgjhbjpaaGreat.Msg
open Go.RowKit Go.Lib Go.Proofs.YtghjgajgjhbjpaaGreat.Mem Go.Proofs.YtghjgajgjhbjpaaGreat.Tlv

theorem reqV_take (rs : List RV) (k : Nat) : reqV (rs.take k) = (reqV rs).take (k * 9) := by
  induction rs generalizing k with
  | nil => simp [reqV]
  | cons a rs ih =>
    cases k with
    | zero => simp [reqV]
    | succ k =>
      rw [List.take_succ_cons]
      have h1 := ih k
      simp only [reqV, List.flatMap_cons] at h1 ⊢
      rw [h1, show (k + 1) * 9 = a.cells.toList.length + k * 9 from by simp [RV.cells]; omega, List.take_length_add_append]
theorem intV_take (zs : List Int) (k : Nat) : intV (zs.take k) = (intV zs).take (k * 1) := by simp [intV, List.map_take]

section
variable {B g : Nat} {base : Int} {l s : Value} {qs : List RP} {w : World}

/-- What Cut and Drop leave. -/
def GivesCd (B g : Nat) (base : Int) (l s : Value) (n0 : Nat) (qs : List RP) (w : World) (e : Ending) (w' : World) : Prop :=
  e = .returned (.int .i64 0) ∧ ∃ l' s', PLog B g base l' s' qs w' ∧ l'.ownBlock = l.ownBlock ∧ s'.ownBlock = s.ownBlock ∧ OnlyG B g w w' ∧ (∀ m, RowNext 9 m l n0 l' qs.length) ∧ (∀ m, RowNext 1 m s n0 s' qs.length)
theorem onlyG_own {W W' : World} {e : TypeId} {size : Nat} {v : Value} {n : Nat} {xs : List Value} (h : OwnO W B e size v n xs) (ho : OnlyG B g W W') (hne : v.ownBlock ≠ some g) : OwnO W' B e size v n xs :=
  h.kept fun k hk => ho.oth k (fun e => hne (by rw [hk, e]))
theorem onlyG_op {W W' : World} {v : OV} {c : OC} (h : OpAt W v c) (hL : PLog B g base l s qs W) (ho : OnlyG B g W W') : OpAt W' v c := by
  obtain ⟨lo, lc, so, sc, rfl, rfl, hR⟩ := hL.rd
  exact h.apart ho.bel.size (plog_cells hR.at_) (fun k _ hk => ho.oth k hk)
theorem PLog.g_ne (h : PLog B g base l s qs w) : l.ownBlock ≠ some g ∧ s.ownBlock ≠ some g := ⟨ownO_ne h.log.at_ (by decide) h.log.own, ownO_ne h.log.at_ (by decide) h.log.owz⟩
theorem PLog.two (h : PLog B g base l s qs w) : (l = .slice none 0 0 ∧ s = .slice none 0 0 ∧ qs = []) ∨ ∃ b1 o1 lc b2 o2 sc, l = .slice (some ⟨b1, o1, none⟩) qs.length lc ∧ s = .slice (some ⟨b2, o2, none⟩) qs.length sc ∧ qs.length ≤ lc ∧ qs.length ≤ sc := by
  have h1 := h.log.own
  have h2 := h.log.owz
  rw [List.length_map] at h1 h2
  rcases h1.2 with ⟨e1, hz⟩ | ⟨b1, o1, lc, cur, e1, -, -, hl1, -⟩
  · rcases h2.2 with ⟨e2, -⟩ | ⟨b2, o2, sc, cur2, e2, -⟩
    · exact .inl ⟨e1, e2, List.eq_nil_of_length_eq_zero hz⟩
    · have := h.nil.1 (by rw [e1]; rfl)
      rw [e2] at this
      cases this
  · rcases h2.2 with ⟨e2, -⟩ | ⟨b2, o2, sc, cur2, e2, -, -, hl2, -⟩
    · have := h.nil.2 (by rw [e2]; rfl)
      rw [e1] at this
      cases this
    · exact .inr ⟨b1, o1, lc, b2, o2, sc, e1, e2, hl1, hl2⟩

theorem cut_any (x : Int) (k : Nat) (h : PLog B g base l s qs w) (hn : qs.length ≤ 1000000) (h0 : 0 ≤ base) (h1 : base ≤ 9000000000000000000) (hx : x = base + (k : Nat)) (hk : k ≤ qs.length) :
    Calls Tryz.prog 47 #[.pointer (some ⟨g, 0, none⟩), .int .u64 x] w (GivesCd B g base l s qs.length (qs.take k) w) := by
  obtain ⟨lo, lc, so, sc, e1, e2, hR⟩ := h.rd
  have own := h.log.own
  have owz := h.log.owz
  rw [List.length_map] at own owz
  obtain ⟨gn1, gn2⟩ := h.g_ne
  rcases h.two with ⟨rfl, rfl, rfl⟩ | ⟨b1, o1, lc', b2, o2, sc', rfl, rfl, hl1, hl2⟩
  · cases e1
    cases e2
    have hk0 : k = 0 := by simpa using hk
    subst hk0
    refine (cut_nil_nil B g base _ _ x w hR (by omega) h0 h1 hx h.log.le).mono ?_
    rintro e w' ⟨rfl, hat, ho⟩
    exact ⟨rfl, _, _, ⟨⟨hat, h.log.le, onlyG_own own ho gn1, onlyG_own owz ho gn2⟩, (fun q hq => by simp at hq), (fun q hq => by simp at hq), Iff.rfl⟩, rfl, rfl, ho, fun _ => RowNext.refl _ _ _ _, fun _ => RowNext.refl _ _ _ _⟩
  · cases e1
    cases e2
    refine (cut_some_some B g base b1 o1 lc b2 o2 sc qs.length k _ _ x w hR hn h0 h1 hx hk h.log.le).mono ?_
    rintro e w' ⟨rfl, hat, ho⟩
    refine ⟨rfl, _, _, ⟨⟨hat, h.log.le, ?_, ?_⟩, (fun q hq => onlyG_op (h.ops q (List.mem_of_mem_take hq)) h ho), (fun q hq => h.sep q (List.mem_of_mem_take hq)), ⟨fun h => (by cases h), fun h => by cases h⟩⟩, rfl, rfl, ho, fun _ => (by rw [List.length_take, Nat.min_eq_left hk]; exact RowNext.full), fun _ => by rw [List.length_take, Nat.min_eq_left hk]; exact RowNext.full⟩
    · have := onlyG_own (own.cut k hk) ho gn1
      rw [← reqV_take, ← List.map_take] at this
      rw [show ((qs.take k).map Prod.fst).length = k from by simp; omega]
      exact this
    · have := onlyG_own (owz.cut k hk) ho gn2
      rw [← intV_take, ← List.map_take] at this
      rw [show ((qs.take k).map Prod.fst).length = k from by simp; omega]
      exact this

theorem drop_any (x : Int) (k : Nat) (h : PLog B g base l s qs w) (hn : qs.length ≤ 1000000) (h0 : 0 ≤ base) (h1 : base ≤ 9000000000000000000) (hx : x = base + (k : Nat)) (hk : k ≤ qs.length) :
    Calls Tryz.prog 38 #[.pointer (some ⟨g, 0, none⟩), .int .u64 x] w (GivesCd B g x l s qs.length (qs.drop k) w) := by
  obtain ⟨lo, lc, so, sc, e1, e2, hR⟩ := h.rd
  have own := h.log.own
  have owz := h.log.owz
  rw [List.length_map] at own owz
  obtain ⟨gn1, gn2⟩ := h.g_ne
  have fin : ∀ {w' : World} {l' s' : Value}, AtG g x l' s' w' → OnlyG B g w w' → l'.ownBlock = l.ownBlock → s'.ownBlock = s.ownBlock → OwnO w B 42 9 l' (qs.length - k) ((reqV (qs.map Prod.fst)).drop (k * 9)) → OwnO w B 3 1 s' (qs.length - k) ((intV (qs.map szP)).drop (k * 1)) → (∀ m, RowNext 9 m l qs.length l' (qs.length - k)) → (∀ m, RowNext 1 m s qs.length s' (qs.length - k)) → GivesCd B g x l s qs.length (qs.drop k) w (.returned (.int .i64 0)) w' := by
    intro w' l' s' hat ho n1 n2 o1 o2 r1 r2
    refine ⟨rfl, l', s', ⟨⟨hat, h.log.le, ?_, ?_⟩, (fun q hq => onlyG_op (h.ops q (List.mem_of_mem_drop hq)) h ho), (fun q hq => by rw [n1, n2]; exact h.sep q (List.mem_of_mem_drop hq)), by rw [n1, n2]; exact h.nil⟩, n1, n2, ho, by rw [List.length_drop]; exact r1, by rw [List.length_drop]; exact r2⟩
    · have := onlyG_own o1 ho (by rw [n1]; exact gn1)
      rw [← reqV_drop, ← List.map_drop] at this
      rw [show ((qs.drop k).map Prod.fst).length = qs.length - k from by simp]
      exact this
    · have := onlyG_own o2 ho (by rw [n2]; exact gn2)
      rw [← intV_drop, ← List.map_drop] at this
      rw [show ((qs.drop k).map Prod.fst).length = qs.length - k from by simp]
      exact this
  rcases h.two with ⟨rfl, rfl, rfl⟩ | ⟨b1, o1, lc', b2, o2, sc', rfl, rfl, hl1, hl2⟩
  · cases e1
    cases e2
    have hk0 : k = 0 := by simpa using hk
    subst hk0
    refine (drop_nil_nil B g base _ _ x w hR (by omega) h0 h1 hx h.log.le).mono ?_
    rintro e w' ⟨rfl, hat, ho⟩
    exact fin hat ho rfl rfl own owz (fun _ => RowNext.refl _ _ _ _) (fun _ => RowNext.refl _ _ _ _)
  · cases e1
    cases e2
    have hend : ∀ {e : TypeId} {size : Nat} {b o cap : Nat} {xs : List Value}, OwnO w B e size (.slice (some ⟨b, o, none⟩) qs.length cap) qs.length xs → k = qs.length → OwnO w B e size (.slice (some ⟨b, o, none⟩) 0 0) (qs.length - k) (xs.drop (k * size)) := by
      intro e size b o cap xs ho hkn
      have := OwnO.at_end ho
      rw [hkn, Nat.sub_self, List.drop_eq_nil_of_le (by rw [ho.1]; exact Nat.le_refl _)]
      exact this
    by_cases hkl : k < lc
    · by_cases hks : k < sc
      · refine (drop_lt_lt B g base b1 o1 lc b2 o2 sc qs.length k _ _ x w hR hn h0 h1 hx hk hkl hks h.log.le).mono ?_
        rintro e w' ⟨rfl, hat, ho⟩
        exact fin hat ho rfl rfl (own.drop k hk) (by have := owz.drop k hk; rw [Nat.mul_one] at this ⊢; exact this) (fun _ => RowNext.drop hk) (fun m => by have := RowNext.drop (size := 1) (m := m) (b := b2) (o := o2) (c := sc) hk; rw [Nat.mul_one] at this; exact this)
      · have hsc : sc = k := by omega
        have hnk : qs.length = k := by omega
        subst hsc
        have hR2 : LogR true g base sc (some ⟨b1, o1, none⟩) lc (some ⟨b2, o2, none⟩) sc (qs.map Prod.fst) (qs.map szP) w := by rw [hnk] at hR; exact hR
        refine (drop_lt_eq B g base b1 o1 lc b2 o2 sc _ _ x w hR2 (by omega) h0 h1 hx hkl h.log.le).mono ?_
        rintro e w' ⟨rfl, hat, ho⟩
        exact fin hat ho rfl rfl (by have := own.drop sc hk; rw [show qs.length - sc = 0 from by omega] at this ⊢; exact this) (hend owz hnk.symm) (fun m => by have := RowNext.drop (size := 9) (m := m) (b := b1) (o := o1) (c := lc) hk; rw [show qs.length - sc = 0 from by omega] at this ⊢; exact this) (fun _ => by rw [show qs.length - sc = 0 from by omega]; exact RowNext.full)
    · have hlk : lc = k := by omega
      have hnk : qs.length = k := by omega
      subst hlk
      by_cases hks : lc < sc
      · have hR2 : LogR true g base lc (some ⟨b1, o1, none⟩) lc (some ⟨b2, o2, none⟩) sc (qs.map Prod.fst) (qs.map szP) w := by rw [hnk] at hR; exact hR
        refine (drop_eq_lt B g base b1 o1 b2 o2 sc lc _ _ x w hR2 (by omega) h0 h1 hx hks h.log.le).mono ?_
        rintro e w' ⟨rfl, hat, ho⟩
        exact fin hat ho rfl rfl (hend own hnk.symm) (by have := owz.drop lc hk; rw [show qs.length - lc = 0 from by omega, Nat.mul_one] at this ⊢; exact this) (fun _ => by rw [show qs.length - lc = 0 from by omega]; exact RowNext.full) (fun m => by have := RowNext.drop (size := 1) (m := m) (b := b2) (o := o2) (c := sc) hk; rw [show qs.length - lc = 0 from by omega, Nat.mul_one] at this; rw [show qs.length - lc = 0 from by omega]; exact this)
      · have hsc : sc = lc := by omega
        subst hsc
        have hR2 : LogR true g base sc (some ⟨b1, o1, none⟩) sc (some ⟨b2, o2, none⟩) sc (qs.map Prod.fst) (qs.map szP) w := by rw [hnk] at hR; exact hR
        refine (drop_eq_eq B g base b1 o1 b2 o2 sc _ _ x w hR2 (by omega) h0 h1 hx h.log.le).mono ?_
        rintro e w' ⟨rfl, hat, ho⟩
        exact fin hat ho rfl rfl (hend own hnk.symm) (hend owz hnk.symm) (fun _ => by rw [show qs.length - sc = 0 from by omega]; exact RowNext.full) (fun _ => by rw [show qs.length - sc = 0 from by omega]; exact RowNext.full)

/-- What At gives. -/
def GivesAt (q : RP) (w : World) (e : Ending) (w' : World) : Prop := ∃ p : RP, e = .returned (.tuple #[p.1.val, .int .i64 0]) ∧ TwinP q p ∧ OpAt w' p.1.op p.2 ∧ Below w.heap.size w w'
theorem at_any (x : Int) (i : Nat) (q : RP) (h : PLog B g base l s qs w) (hn : qs.length ≤ 1000000) (h0 : 0 ≤ base) (h1 : base ≤ 9000000000000000000) (hx : x = base + (i : Nat) + 1) (hq : qs[i]? = some q) :
    Calls Tryz.prog 39 #[.pointer (some ⟨g, 0, none⟩), .int .u64 x] w (GivesAt q w) := by
  obtain ⟨lo, lc, so, sc, e1, e2, hR⟩ := h.rd
  have hi := (List.getElem?_eq_some_iff.1 hq).1
  rcases h.two with ⟨rfl, rfl, rfl⟩ | ⟨b1, o1, lc', b2, o2, sc', rfl, rfl, hl1, hl2⟩
  · simp at hq
  · cases e1
    cases e2
    refine (at_ok g base qs.length b1 o1 lc _ sc _ _ x i q.1 q.2 w hR hn h0 h1 hx hi (map_at qs i q hq) (h.ops q (List.mem_of_getElem? hq))).mono ?_
    rintro e w' ⟨u, rfl, hcu, hou, hb⟩
    exact ⟨(⟨q.1.cl, q.1.nu, u⟩, q.2), rfl, ⟨rfl, rfl, hcu.alike, rfl⟩, hou, hb⟩
theorem from_any (x : Int) (k : Nat) (h : PLog B g base l s qs w) (hn : qs.length ≤ 1000000) (h0 : 0 ≤ base) (h1 : base ≤ 9000000000000000000) (hx : x = base + (k : Nat)) (hk : k ≤ qs.length) :
    Calls Tryz.prog 50 #[.pointer (some ⟨g, 0, none⟩), .int .u64 x] w (GivesFr (qs.drop k) w) := by
  rcases h.two with ⟨rfl, rfl, rfl⟩ | ⟨b1, o1, lc, b2, o2, sc, rfl, rfl, hl1, hl2⟩
  · have hk0 : k = 0 := by simpa using hk
    subst hk0
    exact from_nil B g base _ [] x w h rfl (by omega) h0 h1 hx
  · by_cases hkl : k < lc
    · exact from_lt B g base b1 o1 lc qs.length k _ qs x w h rfl hn h0 h1 hx hk hkl
    · have e1 : lc = k := by omega
      have e2 : qs.length = k := by omega
      subst e1
      rw [List.drop_eq_nil_of_le (by omega)]
      have h' := h
      rw [e2] at h'
      exact from_eq B g base b1 o1 lc _ qs x w h' e2 (by omega) h0 h1 hx

/-- What Append gives. -/
def GivesPAp (B g : Nat) (base : Int) (l s : Value) (qs : List RP) (p : RP) (w : World) (e : Ending) (w' : World) : Prop :=
  (apErr qs p ≠ 0 ∧ e = .returned (.tuple #[.int .u64 0, .int .i64 (apErr qs p)]) ∧ Below w.heap.size w w') ∨
  (apErr qs p = 0 ∧ e = .returned (.tuple #[.int .u64 (base + qs.length + 1), .int .i64 0]) ∧ Below B w w' ∧ But g l s w w' ∧ ∃ q l' s', TwinP p q ∧ PLog B g base l' s' (qs ++ [q]) w' ∧ (∀ k, l'.ownBlock = some k → l.ownBlock = some k ∨ w.heap.size ≤ k) ∧ (∀ k, s'.ownBlock = some k → s.ownBlock = some k ∨ w.heap.size ≤ k) ∧ KeepsRow w w' l qs.length 9 ∧ KeepsRow w w' s qs.length 1 ∧ RowNext 9 w.heap.size l qs.length l' (qs.length + 1) ∧ RowNext 1 w.heap.size s qs.length s' (qs.length + 1))
theorem append_any (p : RP) (h : PLog B g base l s qs w) (hp : OpAt w p.1.op p.2) (hf : FitP p) (hin : OpIn B p.1.op) (hn : qs.length < 4096) (h0 : 0 ≤ base) (h1 : base ≤ 9000000000000000000) :
    Calls Tryz.prog 37 #[.pointer (some ⟨g, 0, none⟩), p.1.val] w (GivesPAp B g base l s qs p w) := by
  have hc := opC_all w p.1.op p.2 hp
  obtain ⟨lo, lc, so, sc, e1, e2, hR⟩ := h.rd
  cases hm : mayP p with
  | false =>
    have he : apErr qs p = 2 := by unfold apErr; rw [if_pos hm]
    have hm' : mayOp p.1.op p.2 = false := hm
    rw [hm'] at hc
    refine (append_arg g base _ _ _ _ _ _ _ p.1 p.2 _ w hR hp hc).mono ?_
    rintro e w' ⟨rfl, hb⟩
    exact .inl ⟨by rw [he]; decide, by rw [he], hb⟩
  | true =>
    have hm' : mayOp p.1.op p.2 = true := hm
    rw [hm'] at hc
    have hl : (qs.map Prod.fst).length = qs.length := List.length_map ..
    by_cases hs : 2097152 < (qs.map szP).sum + szP p
    · have he : apErr qs p = 10 := by unfold apErr; rw [if_neg (by rw [hm]; decide), if_pos (.inr hs)]
      refine (append_big B g base l s _ _ p.1 p.2 _ w h.log hp hc hf.c0 hf.n0 (by rw [hl]; exact hn) h.sizes hs).mono ?_
      rintro e w' ⟨rfl, hb⟩
      exact .inl ⟨by rw [he]; decide, by rw [he], hb⟩
    · have he : apErr qs p = 0 := by
        unfold apErr
        rw [if_neg (by rw [hm]; decide), if_neg (by intro h; rcases h with h | h; · omega
                                                    · exact hs h)]
      have hap : ApartC p.1.op l.ownBlock := hin.apart (fun j hj => (h.log.own.low j hj).1)
      refine (append_ok3 B g base l s _ _ p.1 p.2 _ w h.log hp hc hf.c0 hf.n0 (by rw [hl]; exact hn) h.sizes (Int.not_lt.1 hs) hap h0 h1).mono ?_
      rintro e w' ⟨u, l', s', rfl, hL', hcu, hou, hB, hbut, m, hm1, hin', f1, f2, k1, k2, r1, r2⟩
      rw [hl] at k1 k2 r1 r2 ⊢
      have hbut' : ∀ k, k < w.heap.size → k ≠ g → some k ≠ l.ownBlock → some k ≠ s.ownBlock → w'.heap[k]? = w.heap[k]? := hbut.2
      obtain ⟨m1, m2⟩ := map_snoc qs (⟨p.1.cl, p.1.nu, u⟩, p.2)
      have htw : TwinP p (⟨p.1.cl, p.1.nu, u⟩, p.2) := ⟨rfl, rfl, hcu.alike, rfl⟩
      have hlow1 : ∀ k, l.ownBlock = some k → k < w.heap.size := fun k hk => (h.log.own.low k hk).2
      have hlow2 : ∀ k, s.ownBlock = some k → k < w.heap.size := fun k hk => (h.log.owz.low k hk).2
      have ap1 : ApartC u l.ownBlock := ⟨fun _ x hx e => by have := hcu.fa x hx; have := hlow1 _ e.symm; omega, fun _ x hx e => by have := hcu.fb x hx; have := hlow1 _ e.symm; omega, fun _ x hx e => by have := hcu.fc x hx; have := hlow1 _ e.symm; omega⟩
      have ap2 : ApartC u s.ownBlock := ⟨fun _ x hx e => by have := hcu.fa x hx; have := hlow2 _ e.symm; omega, fun _ x hx e => by have := hcu.fb x hx; have := hlow2 _ e.symm; omega, fun _ x hx e => by have := hcu.fc x hx; have := hlow2 _ e.symm; omega⟩
      have hcells := plog_cells hR.at_
      refine .inr ⟨he, rfl, hB, hbut, (⟨p.1.cl, p.1.nu, u⟩, p.2), l', s', htw, ⟨?_, ?_, ?_, ?_⟩, fun k hk => (f1 k hk).imp id (fun h => by omega), fun k hk => (f2 k hk).imp id (fun h => by omega), k1, k2, r1, r2⟩
      · rw [m1, m2, htw.sz]
        exact hL'
      · intro q hq
        rcases List.mem_append.1 hq with hq | hq
        · exact (h.ops q hq).but hbut.1 hcells hbut' (h.sep q hq).1 (h.sep q hq).2
        · rw [List.mem_singleton] at hq
          subst hq
          exact hou
      · intro q hq
        rcases List.mem_append.1 hq with hq | hq
        · have hi := (h.ops q hq).in_
          exact ⟨(h.sep q hq).1.turn hi (fun j hj => (f1 j hj).imp id (fun h => by omega)), (h.sep q hq).2.turn hi (fun j hj => (f2 j hj).imp id (fun h => by omega))⟩
        · rw [List.mem_singleton] at hq
          subst hq
          exact ⟨ap1.turn hin' f1, ap2.turn hin' f2⟩
      · have n1 := OwnO.pos hL'.own (by simp)
        have n2 := OwnO.pos hL'.owz (by simp)
        exact ⟨fun h => absurd h n1, fun h => absurd h n2⟩
end
end Go.Proofs.YtghjgajgjhbjpaaGreat.Msg
namespace Go.Proofs.YtghjgajgjhbjpaaGreat.Msg
open Go.RowKit Go.Lib Go.Proofs.YtghjgajgjhbjpaaGreat.Mem Go.Proofs.YtghjgajgjhbjpaaGreat.Tlv

/-- The program's log at g, and the document's at g2: the same requests. -/
structure St (B g g2 : Nat) (base : Int) (l s : Value) (lo : Option Addr) (n lc : Nat) (qs ps : List RP) (W : World) : Prop where
  pl : PLog B g base l s qs W
  rf : RefAt g2 base lo n lc ps W
  tw : Twins ps qs
  may : ∀ p ∈ ps, mayP p = true
  fit : ∀ p ∈ ps, FitP p
  pin : ∀ p ∈ ps, OpIn B p.1.op
  B2 : B ≤ g2
  gne : g ≠ g2
  lo1 : 0 < lc → ∀ a, lo = some a → some a.block ≠ l.ownBlock ∧ some a.block ≠ s.ownBlock ∧ a.block ≠ g ∧ a.block ≠ g2
  b0 : 0 ≤ base
theorem OpAt.low {W W' : World} {B : Nat} {v : OV} {c : OC} (h : OpAt W v c) (hin : OpIn B v) (hb : Below B W W') : OpAt W' v c :=
  ⟨h.a.below hb hin.a, h.b.below hb hin.b, h.c.below hb hin.c, h.la, h.lb, h.lc⟩
theorem RefAt.moved {g : Nat} {base : Int} {lo : Option Addr} {n lc : Nat} {ps : List RP} {W W' : World} {B : Nat} (h : RefAt g base lo n lc ps W) (hb : Below B W W') (hg : W'.heap[g]? = W.heap[g]?) (hl : 0 < lc → ∀ a, lo = some a → W'.heap[a.block]? = W.heap[a.block]?) (hin : ∀ p ∈ ps, OpIn B p.1.op) : RefAt g base lo n lc ps W' :=
  ⟨hg.trans h.at_, rd_moved h.rq.rd hb.size hl, fun p hp => (h.rq.ops p hp).low (hin p hp) hb⟩

section
variable {B g g2 : Nat} {base : Int} {l s : Value} {lo : Option Addr} {n lc : Nat} {qs ps : List RP} {W W' : World}
theorem St.later (h : St B g g2 base l s lo n lc qs ps W) (hb : Below W.heap.size W W') : St B g g2 base l s lo n lc qs ps W' :=
  ⟨h.pl.later hb, h.rf.later hb, h.tw, h.may, h.fit, h.pin, h.B2, h.gne, h.lo1, h.b0⟩
theorem St.len (h : St B g g2 base l s lo n lc qs ps W) : ps.length = n ∧ qs.length = n := by
  have h1 := h.rf.rq.len
  have h2 := h.tw.1
  omega
theorem St.g2_lt (h : St B g g2 base l s lo n lc qs ps W) : g2 < W.heap.size := (Array.getElem?_eq_some_iff.1 h.rf.at_).1
theorem St.g2_own (h : St B g g2 base l s lo n lc qs ps W) : some g2 ≠ l.ownBlock ∧ some g2 ≠ s.ownBlock :=
  ⟨fun e => ownO_ne h.rf.at_ (by decide) h.pl.log.own e.symm, fun e => ownO_ne h.rf.at_ (by decide) h.pl.log.owz e.symm⟩
/-- The document's log, where only the program's log and its rows turned. -/
theorem St.ref_but (h : St B g g2 base l s lo n lc qs ps W) (hb : Below B W W') (hbut : But g l s W W') : RefAt g2 base lo n lc ps W' := by
  have hlt := h.g2_lt
  obtain ⟨n1, n2⟩ := h.g2_own
  refine h.rf.moved hb (hbut.2 g2 hlt (fun e => h.gne e.symm) n1 n2) (fun h0 a ha => ?_) h.pin
  obtain ⟨k1, k2, k3, k4⟩ := h.lo1 h0 a ha
  exact hbut.2 _ (h.rf.rq.rd.lt h0 a ha) k3 k1 k2
theorem PLog.butG {base2 : Int} (h : PLog B g base l s qs W) (hg : g ≠ g2) (h2 : W.heap[g2]? = some (.cells #[.int .u64 base2, .slice lo n lc] 49)) (hb : ButG B g2 W W') : PLog B g base l s qs W' := by
  have n1 := ownO_ne h2 (by decide) h.log.own
  have n2 := ownO_ne h2 (by decide) h.log.owz
  refine ⟨⟨(hb.oth g h.log.lt hg).trans h.log.at_, h.log.le, h.log.own.kept (fun k hk => ?_), h.log.owz.kept (fun k hk => ?_)⟩, fun q hq => (h.ops q hq).apart hb.bel.size (log_cells h2) hb.oth, h.sep, h.nil⟩
  · exact hb.oth k (h.log.own.low k hk).2 (fun e => n1 (by rw [hk, e]))
  · exact hb.oth k (h.log.owz.low k hk).2 (fun e => n2 (by rw [hk, e]))

/-- Some state, of at most m requests, up to place t. -/
def StE (B g g2 : Nat) (t : Int) (m : Nat) (W : World) : Prop := ∃ base l s lo n lc qs ps, St B g g2 base l s lo n lc qs ps W ∧ n ≤ m ∧ base + n ≤ t
theorem StE.mono {t t' : Int} {m m' : Nat} (h : StE B g g2 t m W) (ht : t ≤ t') (hm : m ≤ m') : StE B g g2 t' m' W := by
  obtain ⟨a, b, c, d, e, f, i, j, k, h1, h2⟩ := h
  exact ⟨a, b, c, d, e, f, i, j, k, by omega, by omega⟩
theorem StE.later {t : Int} {m : Nat} (h : StE B g g2 t m W) (hb : Below W.heap.size W W') : StE B g g2 t m W' := by
  obtain ⟨a, b, c, d, e, f, i, j, k, h1, h2⟩ := h
  exact ⟨a, b, c, d, e, f, i, j, k.later hb, h1, h2⟩

/-- What a turn of the logs at g and g2 leaves: of all other blocks, and of their own rows. -/
structure Trans (g g2 : Nat) (l s : Value) (n : Nat) (l' s' : Value) (n' : Nat) (W W' : World) : Prop where
  size : W.heap.size ≤ W'.heap.size
  oth : ∀ k, k < W.heap.size → k ≠ g → k ≠ g2 → some k ≠ l.ownBlock → some k ≠ s.ownBlock → W'.heap[k]? = W.heap[k]?
  kl : KeepsRow W W' l n 9
  ks : KeepsRow W W' s n 1
  nl : RowNext 9 W.heap.size l n l' n'
  ns : RowNext 1 W.heap.size s n s' n'
  fl : ∀ k, l'.ownBlock = some k → l.ownBlock = some k ∨ W.heap.size ≤ k
  fs : ∀ k, s'.ownBlock = some k → s.ownBlock = some k ∨ W.heap.size ≤ k
theorem St.trans_id (h : St B g g2 base l s lo n lc qs ps W) (hb : Below W.heap.size W W') : Trans g g2 l s n l s n W W' :=
  ⟨hb.size, fun k hk _ _ _ _ => hb.block k hk, KeepsRow.same (fun k hk => hb.block k (h.pl.log.own.low k hk).2), KeepsRow.same (fun k hk => hb.block k (h.pl.log.owz.low k hk).2), RowNext.refl _ _ _ _, RowNext.refl _ _ _ _, fun _ hk => .inl hk, fun _ hk => .inl hk⟩
theorem St.trans_app {W1 W2 W3 : World} {l' s' : Value} {n' : Nat} (h : St B g g2 base l s lo n lc qs ps W) (hpre : Below W.heap.size W W1) (hbut : But g l s W1 W2) (k1 : KeepsRow W1 W2 l n 9) (k2 : KeepsRow W1 W2 s n 1) (r1 : RowNext 9 W1.heap.size l n l' n') (r2 : RowNext 1 W1.heap.size s n s' n')
    (f1 : ∀ k, l'.ownBlock = some k → l.ownBlock = some k ∨ W1.heap.size ≤ k) (f2 : ∀ k, s'.ownBlock = some k → s.ownBlock = some k ∨ W1.heap.size ≤ k) (hpost : ∀ k, k < W2.heap.size → k ≠ g2 → W3.heap[k]? = W2.heap[k]?) (hz : W2.heap.size ≤ W3.heap.size) : Trans g g2 l s n l' s' n' W W3 := by
  have z1 := hpre.size
  have z2 := hbut.1
  obtain ⟨n1, n2⟩ := h.g2_own
  have hl := fun k hk => (h.pl.log.own.low k hk).2
  have hs := fun k hk => (h.pl.log.owz.low k hk).2
  refine ⟨by omega, fun k hk hg hg2 e1 e2 => ?_, k1.wrap (fun k hk => hpre.block k (hl k hk)) (fun k hk => hpost k (by have := hl k hk; omega) (fun e => n1 (by rw [← e, hk]))), k2.wrap (fun k hk => hpre.block k (hs k hk)) (fun k hk => hpost k (by have := hs k hk; omega) (fun e => n2 (by rw [← e, hk]))), r1.mono z1, r2.mono z1, fun k hk => (f1 k hk).imp id (fun h => by omega), fun k hk => (f2 k hk).imp id (fun h => by omega)⟩
  exact (hpost k (by omega) hg2).trans ((hbut.2 k (by omega) hg e1 e2).trans (hpre.block k hk))
/-- Some state behind a turn. -/
def StT (B g g2 : Nat) (t : Int) (m : Nat) (l s : Value) (n : Nat) (w W : World) : Prop := ∃ base l' s' lo n' lc qs ps, St B g g2 base l' s' lo n' lc qs ps W ∧ n' ≤ m ∧ base + n' ≤ t ∧ Trans g g2 l s n l' s' n' w W
theorem StT.state {t : Int} {m : Nat} {w : World} (h : StT B g g2 t m l s n w W) : StE B g g2 t m W := by
  obtain ⟨a, b, c, d, e, f, i, j, k, h1, h2, -⟩ := h
  exact ⟨a, b, c, d, e, f, i, j, k, h1, h2⟩
theorem StT.mono {t t' : Int} {m m' : Nat} {w : World} (h : StT B g g2 t m l s n w W) (ht : t ≤ t') (hm : m ≤ m') : StT B g g2 t' m' l s n w W := by
  obtain ⟨a, b, c, d, e, f, i, j, k, h1, h2, h3⟩ := h
  exact ⟨a, b, c, d, e, f, i, j, k, by omega, by omega, h3⟩

/-- The document's own cells. -/
def RAtG (g2 : Nat) (base : Int) (lo : Option Addr) (n lc : Nat) (W : World) : Prop := W.heap[g2]? = some (.cells #[.int .u64 base, .slice lo n lc] 49)
theorem RAtG.cells (h : RAtG g2 base lo n lc W) : W.cell? ⟨g2, 0, none⟩ = some (.int .u64 base) ∧ W.cell? ⟨g2, 1, none⟩ = some (.slice lo n lc) ∧ ∀ i, W.frozen? ⟨g2, i, none⟩ = false := by
  unfold RAtG at h
  simp [World.cell?, World.frozen?, h]

/-- Behind an append by both. -/
theorem St.appended {W1 : World} {l' s' : Value} {p q : RP} {a : Addr} {lc' : Nat} (h : St B g g2 base l s lo n lc qs ps W) (hP : PLog B g base l' s' (qs ++ [q]) W1) (ht : TwinP p q) (hm : mayP p = true) (hf : FitP p) (hi : OpIn B p.1.op)
    (h1 : RefAt g2 base lo n lc ps W1) (h2 : RefAt g2 base (some a) (n + 1) lc' (ps ++ [p]) W') (hb : ButG B g2 W1 W') (ha : W1.heap.size ≤ a.block) : St B g g2 base l' s' (some a) (n + 1) lc' (qs ++ [q]) (ps ++ [p]) W' := by
  refine ⟨hP.butG h.gne h1.at_ hb, h2, h.tw.snoc ht, ?_, ?_, ?_, h.B2, h.gne, fun _ a' ha' => ?_, h.b0⟩
  · intro x hx
    rcases List.mem_append.1 hx with hx | hx
    · exact h.may x hx
    · rw [List.mem_singleton] at hx; subst hx; exact hm
  · intro x hx
    rcases List.mem_append.1 hx with hx | hx
    · exact h.fit x hx
    · rw [List.mem_singleton] at hx; subst hx; exact hf
  · intro x hx
    rcases List.mem_append.1 hx with hx | hx
    · exact h.pin x hx
    · rw [List.mem_singleton] at hx; subst hx; exact hi
  · cases ha'
    have g1 := hP.log.lt
    have g2' := (Array.getElem?_eq_some_iff.1 h1.at_).1
    refine ⟨fun e => ?_, fun e => ?_, by omega, by omega⟩
    · have := (hP.log.own.low _ e.symm).2; omega
    · have := (hP.log.owz.low _ e.symm).2; omega

/-- Behind a turn of the program's log alone (its rows in the same blocks), then of the document's own cells. -/
theorem St.turned {W1 : World} {base' : Int} {l' s' : Value} {n' lc' : Nat} {lo' : Option Addr} {qs' ps' : List RP} (h : St B g g2 base l s lo n lc qs ps W) (hP : PLog B g base' l' s' qs' W1) (el : l'.ownBlock = l.ownBlock) (es : s'.ownBlock = s.ownBlock) (ho : OnlyG B g W W1)
    (hb : Below B W1 W') (hoth : ∀ k : Nat, k ≠ g2 → W'.heap[k]? = W1.heap[k]?) (hat : RAtG g2 base' lo' n' lc' W') (htw : Twins ps' qs') (hsub : ∀ p ∈ ps', p ∈ ps) (hb0 : 0 ≤ base')
    (hlo : ∀ b, lo' = some b → ∃ a, lo = some a ∧ a.block = b.block) (hc : 0 < lc' → 0 < lc) (hrd : Rd W 9 lo' n' lc' (reqV (ps'.map Prod.fst))) : St B g g2 base' l' s' lo' n' lc' qs' ps' W' := by
  have hr1 : W1.heap[g2]? = some (.cells #[.int .u64 base, .slice lo n lc] 49) := (ho.oth g2 (fun e => h.gne e.symm)).trans h.rf.at_
  have hbg : ButG B g2 W1 W' := ⟨hb, fun k _ hk => hoth k hk⟩
  refine ⟨hP.butG h.gne hr1 hbg, ⟨hat, ?_, fun p hp => ?_⟩, htw, fun p hp => h.may p (hsub p hp), fun p hp => h.fit p (hsub p hp), fun p hp => h.pin p (hsub p hp), h.B2, h.gne, fun h0 b hb' => ?_, hb0⟩
  · refine rd_moved hrd (Nat.le_trans ho.bel.size hb.size) (fun h0 b hb' => ?_)
    obtain ⟨a, ha, e⟩ := hlo b hb'
    obtain ⟨-, -, k3, k4⟩ := h.lo1 (hc h0) a ha
    rw [← e]
    exact (hoth _ k4).trans (ho.oth _ k3)
  · exact ((h.rf.rq.ops p (hsub p hp)).low (h.pin p (hsub p hp)) ho.bel).low (h.pin p (hsub p hp)) hb
  · obtain ⟨a, ha, e⟩ := hlo b hb'
    obtain ⟨k1, k2, k3, k4⟩ := h.lo1 (hc h0) a ha
    rw [el, es, ← e]
    exact ⟨k1, k2, k3, k4⟩
end

/-- An act. -/
structure AV where
  k : Int
  n : Int
  r : RV
def AV.cells (a : AV) : Array Value := #[.int .i64 a.k, .int .u64 a.n, .int .u64 a.r.cl, .int .u64 a.r.nu, .int .i64 a.r.op.k, .string a.r.op.name, .string a.r.op.to, .slice a.r.op.ao a.r.op.an a.r.op.ac, .slice a.r.op.bo a.r.op.bn a.r.op.bc, .slice a.r.op.co a.r.op.cn a.r.op.cc, .int .i64 a.r.op.n]
def AV.val (a : AV) : Value := .agg a.cells
def AV.box (a : AV) : Obj := .cells a.cells 44
theorem abox_all {W : World} {A : Nat} {a : AV} (h : W.heap[A]? = some a.box) : W.cell? ⟨A, 0, none⟩ = some (.int .i64 a.k) ∧ W.cell? ⟨A, 1, none⟩ = some (.int .u64 a.n) ∧ W.cell? ⟨A, 2, none⟩ = some (.int .u64 a.r.cl) ∧ W.cell? ⟨A, 3, none⟩ = some (.int .u64 a.r.nu) ∧ W.cell? ⟨A, 4, none⟩ = some (.int .i64 a.r.op.k) ∧ W.cell? ⟨A, 5, none⟩ = some (.string a.r.op.name) ∧ W.cell? ⟨A, 6, none⟩ = some (.string a.r.op.to) ∧ W.cell? ⟨A, 7, none⟩ = some (.slice a.r.op.ao a.r.op.an a.r.op.ac) ∧ W.cell? ⟨A, 8, none⟩ = some (.slice a.r.op.bo a.r.op.bn a.r.op.bc) ∧ W.cell? ⟨A, 9, none⟩ = some (.slice a.r.op.co a.r.op.cn a.r.op.cc) ∧ W.cell? ⟨A, 10, none⟩ = some (.int .i64 a.r.op.n) ∧ ∀ i, W.frozen? ⟨A, i, none⟩ = false := by
  unfold AV.box AV.cells at h
  simp [World.cell?, World.frozen?, h]
end Go.Proofs.YtghjgajgjhbjpaaGreat.Msg
