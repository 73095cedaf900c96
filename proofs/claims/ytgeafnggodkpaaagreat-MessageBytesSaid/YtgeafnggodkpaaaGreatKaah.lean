/-
  A part of the proof.
-/
import Derived.Deep.RegionHeld3
import Derived.Deep.DrawnRows
import Derived.Deep.RegionLaw
import Derived.Test.YtgeafnggodkpaaaGreatKaag
import Derived.Test.YtgeafnggodkpaaaGreatKaab
import Derived.Test.YtgeafnggodkpaaaGreatKaaf
set_option maxHeartbeats 40000000
namespace Go.Proofs.YtgeafnggodkpaaaGreat.Msg
open Go.RowKit Go.Lib Go.Proofs.YtgeafnggodkpaaaGreat.Mem Go.Proofs.YtgeafnggodkpaaaGreat.Utf
def InBox (w:World)(v:OV)(W:World):Prop:=W.heap[w.heap.size]?=some v.box∧Below w.heap.size w W
theorem InBox.step {w W W':World}{v:OV}(h:InBox w v W)(hb:Below W.heap.size W W'):InBox w v W':=
 ⟨(hb.block _ (Array.getElem?_eq_some_iff.1 h.1).1).trans h.1,h.2.trans (hb.mono h.2.size)⟩
theorem InBox.drew {w W:World}{v:OV}(h:InBox w v W):InBox w v W.drew:=⟨h.1,h.2.drew⟩
theorem InBox.new (w:World)(v:OV):InBox w v (w.alloc v.box):=⟨by show (w.heap.push _)[w.heap.size]?=some _;exact Array.getElem?_push_size,(Below.refl _ _).alloc (Nat.le_refl _) _⟩
theorem InBox.at_ {w W:World}{v:OV}{c:OC}(h:InBox w v W)(ho:OpAt w v c):OpAt W v c:=ho.later h.2
def restOp (v:OV)(c:OC)(attrs:Bool):Bool:=
 if v.k=1 then attrs else if v.k=5 then decide (v.an=1) else decide (v.bn≤8)&&!(c.parts.any fun u=>!mayName u)&&decide (v.cn≤4000)&&decide (0≤v.n)&&decide (v.n≤1000)
def mayOpA (v:OV)(c:OC)(attrs:Bool):Bool:=
 decide (fieldsOf v.k≠[])&&sameOp v c (keepL (fieldsOf v.k) v) (keepC (fieldsOf v.k) c)&&mayName v.name&&mayName v.to&&decide (v.an≤50)&&!(c.attrs.any fun u=>!mayAttr u)&&restOp v c attrs
theorem may_fact {f s n t l a r:Bool}(h:f=false∨s=false∨n=false∨t=false∨l=false∨a=true):(f&&s&&n&&t&&l&&!a&&r)=false:=by
 rcases h with rfl|rfl|rfl|rfl|rfl|rfl<;>simp
set_option maxRecDepth 100000 in
theorem mayOp_any (v:OV)(c:OC)(attrs:Bool)(w:World)(ho:OpAt w v c)(hA:v.k=1→∀W,OpAt W v c→Calls Tryz.prog 70 #[.slice v.ao v.an v.ac] W (GivesB attrs W)) :
  Calls Tryz.prog 13 #[v.val] w (GivesB (mayOpA v c attrs) w):=by
 have hmo:Tryz.prog.follows .mixedOrders=true:=by kernel_rfl
 have s0:InBox w v (w.alloc v.box).drew:=(InBox.new w v).drew
 by_cases h0:fieldsOf v.k=[]
 ·have e0:((⟨(fieldsOf v.k).toArray⟩:ByteArray).toList==(⟨#[]⟩:ByteArray).toList)=true:=by rw[h0];exact tol_yes _
  have Hr:Hid (mayOpA v c attrs=false):=hid (may_fact (.inl (by simp[h0])))
  have H0:=hid h0
  clear h0 hA
  unfold OV.val
  go_enter Tryz.func13,Tryz.ntmps13
  go_wp2_with fail
  refine wp_region_held (S:=InBox w v) hmo ?_
  change wpAnyH _ _ _ _ _ _ _ _ (World.drew _)
  refine zHp 0 (.pointer (some ⟨w.heap.size,0,none⟩)) rfl s0 ?_
  go_simp
  refine zHa 1 (.int .i64 v.k) rfl (by rintro w h;obtain⟨c0,c1,c2,c3,c4,c5,c6,-⟩:=box_all h.1;go_simp) s0 ?_
  go_simp
  refine zH1 2 rfl (fun K hK=>?_)
  go_simp
  refine (fields_any _ _).mono ?_
  rintro e W1 ⟨rfl,hb1⟩
  have s1:=s0.step hb1
  go_simp
  refine hK _ _ ⟨s1,?_⟩
  clear hK K
  refine zHa 3 (.bool true) rfl (by rintro w h;obtain⟨c0,c1,c2,c3,c4,c5,c6,-⟩:=box_all h.1;go_simp;exact H0.out) s1 ?_
  go_simp
  refine zHp 4 (.bool true) rfl s1 ?_
  go_simp
  refine zHo 5 rfl s1 ?_
  go_simp
  refine zHo 6 rfl s1 ?_
  go_simp
  refine zHo 7 rfl s1 ?_
  go_simp
  refine zHo 8 rfl s1 ?_
  go_simp
  refine zHo 9 rfl s1 ?_
  go_simp
  refine zHp 10 (.bool true) rfl s1 ?_
  go_simp
  refine zHp 11 (.bool true) rfl s1 ?_
  go_simp
  refine zHo 12 rfl s1 ?_
  go_simp
  refine zHo 13 rfl s1 ?_
  go_simp
  refine zHo 14 rfl s1 ?_
  go_simp
  refine zHo 15 rfl s1 ?_
  go_simp
  refine zHp 16 (.bool true) rfl s1 ?_
  go_simp
  refine zHp 17 (.bool true) rfl s1 ?_
  go_simp
  refine zHo 18 rfl s1 ?_
  go_simp
  refine zHo 19 rfl s1 ?_
  go_simp
  refine zHo 20 rfl s1 ?_
  go_simp
  refine zHo 21 rfl s1 ?_
  go_simp
  refine zHp 22 (.bool true) rfl s1 ?_
  go_simp
  refine zHp 23 (.bool true) rfl s1 ?_
  go_simp
  refine zHo 24 rfl s1 ?_
  go_simp
  refine zHo 25 rfl s1 ?_
  go_simp
  refine zHo 26 rfl s1 ?_
  go_simp
  refine zHo 27 rfl s1 ?_
  go_simp
  refine zHp 28 (.bool true) rfl s1 ?_
  go_simp
  refine zHp 29 (.bool true) rfl s1 ?_
  go_simp
  refine zHo 30 rfl s1 ?_
  go_simp
  refine zHo 31 rfl s1 ?_
  go_simp
  refine zHo 32 rfl s1 ?_
  go_simp
  refine zHo 33 rfl s1 ?_
  go_simp
  refine zHp 34 (.bool true) rfl s1 ?_
  go_simp
  refine wpAnyH_done (by kernel_rfl) ?_ _
  go_wp2_with fail
  go_ret
  exact⟨by rw[Hr.out];rfl,s1.2⟩
 have e0:((⟨(fieldsOf v.k).toArray⟩:ByteArray).toList==(⟨#[]⟩:ByteArray).toList)=false:=tol_no (fun e=>h0 (by have:=congrArg (fun b:ByteArray=>b.data.toList) e;simpa using this))
 have H0:=hid h0
 clear h0
 by_cases h1:sameOp v c (keepL (fieldsOf v.k) v) (keepC (fieldsOf v.k) c)=false
 ·have H1:=hid h1
  have Hr:Hid (mayOpA v c attrs=false):=hid (may_fact (.inr (.inl H1.out)))
  clear h1 hA
  unfold OV.val
  go_enter Tryz.func13,Tryz.ntmps13
  go_wp2_with fail
  refine wp_region_held (S:=InBox w v) hmo ?_
  change wpAnyH _ _ _ _ _ _ _ _ (World.drew _)
  refine zHp 0 (.pointer (some ⟨w.heap.size,0,none⟩)) rfl s0 ?_
  go_simp
  refine zHa 1 (.int .i64 v.k) rfl (by rintro w h;obtain⟨c0,c1,c2,c3,c4,c5,c6,-⟩:=box_all h.1;go_simp) s0 ?_
  go_simp
  refine zH1 2 rfl (fun K hK=>?_)
  go_simp
  refine (fields_any _ _).mono ?_
  rintro e W1 ⟨rfl,hb1⟩
  have s1:=s0.step hb1
  go_simp
  refine hK _ _ ⟨s1,?_⟩
  clear hK K
  refine zHa 3 (.bool false) rfl (by rintro w h;obtain⟨c0,c1,c2,c3,c4,c5,c6,-⟩:=box_all h.1;go_simp;exact H0.out) s1 ?_
  go_simp
  refine zHp 4 (.bool false) rfl s1 ?_
  go_simp
  refine zHa 5 (.agg #[.int .i64 v.k,.string v.name,.string v.to,.slice v.ao v.an v.ac,.slice v.bo v.bn v.bc,.slice v.co v.cn v.cc,.int .i64 v.n]) rfl (by rintro w h;obtain⟨c0,c1,c2,c3,c4,c5,c6,-⟩:=box_all h.1;go_simp) s1 ?_
  go_simp
  refine zHa 6 (.agg #[.int .i64 v.k,.string v.name,.string v.to,.slice v.ao v.an v.ac,.slice v.bo v.bn v.bc,.slice v.co v.cn v.cc,.int .i64 v.n]) rfl (by rintro w h;obtain⟨c0,c1,c2,c3,c4,c5,c6,-⟩:=box_all h.1;go_simp) s1 ?_
  go_simp
  refine zH1 7 rfl (fun K hK=>?_)
  go_simp
  refine (bare_any v _).mono ?_
  rintro e W2 ⟨rfl,hb2⟩
  have s2:=s1.step hb2
  have o2:=s2.at_ ho
  obtain⟨u,hu⟩:∃u,keepL (fieldsOf v.k) v=u:=⟨_,rfl⟩
  have p2:OpAt W2 u (keepC (fieldsOf v.k) c):=hu▸keep_at o2 _
  have Hs2:Hid (sameOp v c u (keepC (fieldsOf v.k) c)=false):=hid (hu▸H1.out)
  rw[hu]
  clear hu o2
  go_simp
  refine hK _ _ ⟨s2,?_⟩
  clear hK K
  refine zH1 8 rfl (fun K hK=>?_)
  go_simp
  refine (sameOp_any v u c (keepC (fieldsOf v.k) c) _ (s2.at_ ho) p2).mono ?_
  rintro e W3 ⟨rfl,hb3⟩
  rw[Hs2.out]
  have s3:=s2.step hb3
  go_simp
  refine hK _ _ ⟨s3,?_⟩
  clear hK K
  refine zHa 9 (.bool true) rfl (by rintro w h;obtain⟨c0,c1,c2,c3,c4,c5,c6,-⟩:=box_all h.1;go_simp) s3 ?_
  go_simp
  refine zHp 10 (.bool true) rfl s3 ?_
  go_simp
  refine zHp 11 (.bool true) rfl s3 ?_
  go_simp
  refine zHo 12 rfl s3 ?_
  go_simp
  refine zHo 13 rfl s3 ?_
  go_simp
  refine zHo 14 rfl s3 ?_
  go_simp
  refine zHo 15 rfl s3 ?_
  go_simp
  refine zHp 16 (.bool true) rfl s3 ?_
  go_simp
  refine zHp 17 (.bool true) rfl s3 ?_
  go_simp
  refine zHo 18 rfl s3 ?_
  go_simp
  refine zHo 19 rfl s3 ?_
  go_simp
  refine zHo 20 rfl s3 ?_
  go_simp
  refine zHo 21 rfl s3 ?_
  go_simp
  refine zHp 22 (.bool true) rfl s3 ?_
  go_simp
  refine zHp 23 (.bool true) rfl s3 ?_
  go_simp
  refine zHo 24 rfl s3 ?_
  go_simp
  refine zHo 25 rfl s3 ?_
  go_simp
  refine zHo 26 rfl s3 ?_
  go_simp
  refine zHo 27 rfl s3 ?_
  go_simp
  refine zHp 28 (.bool true) rfl s3 ?_
  go_simp
  refine zHp 29 (.bool true) rfl s3 ?_
  go_simp
  refine zHo 30 rfl s3 ?_
  go_simp
  refine zHo 31 rfl s3 ?_
  go_simp
  refine zHo 32 rfl s3 ?_
  go_simp
  refine zHo 33 rfl s3 ?_
  go_simp
  refine zHp 34 (.bool true) rfl s3 ?_
  go_simp
  refine wpAnyH_done (by kernel_rfl) ?_ _
  go_wp2_with fail
  go_ret
  exact⟨by rw[Hr.out];rfl,s3.2⟩
 replace h1:sameOp v c (keepL (fieldsOf v.k) v) (keepC (fieldsOf v.k) c)=true:=by simpa using h1
 have H1:Hid (sameOp v c (keepL (fieldsOf v.k) v) (keepC (fieldsOf v.k) c)=true):=hid h1
 clear h1
 by_cases h2:(!mayName v.name)=true
 ·have H2:=hid h2
  have Hr:Hid (mayOpA v c attrs=false):=hid (may_fact (.inr (.inr (.inl (by simpa using H2.out)))))
  clear h2 hA
  unfold OV.val
  go_enter Tryz.func13,Tryz.ntmps13
  go_wp2_with fail
  refine wp_region_held (S:=InBox w v) hmo ?_
  change wpAnyH _ _ _ _ _ _ _ _ (World.drew _)
  refine zHp 0 (.pointer (some ⟨w.heap.size,0,none⟩)) rfl s0 ?_
  go_simp
  refine zHa 1 (.int .i64 v.k) rfl (by rintro w h;obtain⟨c0,c1,c2,c3,c4,c5,c6,-⟩:=box_all h.1;go_simp) s0 ?_
  go_simp
  refine zH1 2 rfl (fun K hK=>?_)
  go_simp
  refine (fields_any _ _).mono ?_
  rintro e W1 ⟨rfl,hb1⟩
  have s1:=s0.step hb1
  go_simp
  refine hK _ _ ⟨s1,?_⟩
  clear hK K
  refine zHa 3 (.bool false) rfl (by rintro w h;obtain⟨c0,c1,c2,c3,c4,c5,c6,-⟩:=box_all h.1;go_simp;exact H0.out) s1 ?_
  go_simp
  refine zHp 4 (.bool false) rfl s1 ?_
  go_simp
  refine zHa 5 (.agg #[.int .i64 v.k,.string v.name,.string v.to,.slice v.ao v.an v.ac,.slice v.bo v.bn v.bc,.slice v.co v.cn v.cc,.int .i64 v.n]) rfl (by rintro w h;obtain⟨c0,c1,c2,c3,c4,c5,c6,-⟩:=box_all h.1;go_simp) s1 ?_
  go_simp
  refine zHa 6 (.agg #[.int .i64 v.k,.string v.name,.string v.to,.slice v.ao v.an v.ac,.slice v.bo v.bn v.bc,.slice v.co v.cn v.cc,.int .i64 v.n]) rfl (by rintro w h;obtain⟨c0,c1,c2,c3,c4,c5,c6,-⟩:=box_all h.1;go_simp) s1 ?_
  go_simp
  refine zH1 7 rfl (fun K hK=>?_)
  go_simp
  refine (bare_any v _).mono ?_
  rintro e W2 ⟨rfl,hb2⟩
  have s2:=s1.step hb2
  have o2:=s2.at_ ho
  obtain⟨u,hu⟩:∃u,keepL (fieldsOf v.k) v=u:=⟨_,rfl⟩
  have p2:OpAt W2 u (keepC (fieldsOf v.k) c):=hu▸keep_at o2 _
  have Hs2:Hid (sameOp v c u (keepC (fieldsOf v.k) c)=true):=hid (hu▸H1.out)
  rw[hu]
  clear hu o2
  go_simp
  refine hK _ _ ⟨s2,?_⟩
  clear hK K
  refine zH1 8 rfl (fun K hK=>?_)
  go_simp
  refine (sameOp_any v u c (keepC (fieldsOf v.k) c) _ (s2.at_ ho) p2).mono ?_
  rintro e W3 ⟨rfl,hb3⟩
  rw[Hs2.out]
  have s3:=s2.step hb3
  go_simp
  refine hK _ _ ⟨s3,?_⟩
  clear hK K
  refine zHa 9 (.bool false) rfl (by rintro w h;obtain⟨c0,c1,c2,c3,c4,c5,c6,-⟩:=box_all h.1;go_simp) s3 ?_
  go_simp
  refine zHp 10 (.bool false) rfl s3 ?_
  go_simp
  refine zHp 11 (.bool false) rfl s3 ?_
  go_simp
  refine zHp 12 (.func (.func 66) #[] #[]) rfl s3 ?_
  go_simp
  refine zHp 13 (.pointer (some ⟨w.heap.size,1,none⟩)) rfl s3 ?_
  go_simp
  refine zHa 14 (.string v.name) rfl (by rintro w h;obtain⟨c0,c1,c2,c3,c4,c5,c6,-⟩:=box_all h.1;go_simp) s3 ?_
  go_simp
  refine zH1 15 rfl (fun K hK=>?_)
  go_simp
  refine (odd_any _ _).mono ?_
  rintro e W4 ⟨rfl,hb4⟩
  rw[H2.out]
  have s4:=s3.step hb4
  go_simp
  refine hK _ _ ⟨s4,?_⟩
  clear hK K
  refine zHp 16 (.bool true) rfl s4 ?_
  go_simp
  refine zHp 17 (.bool true) rfl s4 ?_
  go_simp
  refine zHo 18 rfl s4 ?_
  go_simp
  refine zHo 19 rfl s4 ?_
  go_simp
  refine zHo 20 rfl s4 ?_
  go_simp
  refine zHo 21 rfl s4 ?_
  go_simp
  refine zHp 22 (.bool true) rfl s4 ?_
  go_simp
  refine zHp 23 (.bool true) rfl s4 ?_
  go_simp
  refine zHo 24 rfl s4 ?_
  go_simp
  refine zHo 25 rfl s4 ?_
  go_simp
  refine zHo 26 rfl s4 ?_
  go_simp
  refine zHo 27 rfl s4 ?_
  go_simp
  refine zHp 28 (.bool true) rfl s4 ?_
  go_simp
  refine zHp 29 (.bool true) rfl s4 ?_
  go_simp
  refine zHo 30 rfl s4 ?_
  go_simp
  refine zHo 31 rfl s4 ?_
  go_simp
  refine zHo 32 rfl s4 ?_
  go_simp
  refine zHo 33 rfl s4 ?_
  go_simp
  refine zHp 34 (.bool true) rfl s4 ?_
  go_simp
  refine wpAnyH_done (by kernel_rfl) ?_ _
  go_wp2_with fail
  go_ret
  exact⟨by rw[Hr.out];rfl,s4.2⟩
 replace h2:(!mayName v.name)=false:=by simpa using h2
 have H2:Hid ((!mayName v.name)=false):=hid h2
 clear h2
 by_cases h3:(!mayName v.to)=true
 ·have H3:=hid h3
  have Hr:Hid (mayOpA v c attrs=false):=hid (may_fact (.inr (.inr (.inr (.inl (by simpa using H3.out))))))
  clear h3 hA
  unfold OV.val
  go_enter Tryz.func13,Tryz.ntmps13
  go_wp2_with fail
  refine wp_region_held (S:=InBox w v) hmo ?_
  change wpAnyH _ _ _ _ _ _ _ _ (World.drew _)
  refine zHp 0 (.pointer (some ⟨w.heap.size,0,none⟩)) rfl s0 ?_
  go_simp
  refine zHa 1 (.int .i64 v.k) rfl (by rintro w h;obtain⟨c0,c1,c2,c3,c4,c5,c6,-⟩:=box_all h.1;go_simp) s0 ?_
  go_simp
  refine zH1 2 rfl (fun K hK=>?_)
  go_simp
  refine (fields_any _ _).mono ?_
  rintro e W1 ⟨rfl,hb1⟩
  have s1:=s0.step hb1
  go_simp
  refine hK _ _ ⟨s1,?_⟩
  clear hK K
  refine zHa 3 (.bool false) rfl (by rintro w h;obtain⟨c0,c1,c2,c3,c4,c5,c6,-⟩:=box_all h.1;go_simp;exact H0.out) s1 ?_
  go_simp
  refine zHp 4 (.bool false) rfl s1 ?_
  go_simp
  refine zHa 5 (.agg #[.int .i64 v.k,.string v.name,.string v.to,.slice v.ao v.an v.ac,.slice v.bo v.bn v.bc,.slice v.co v.cn v.cc,.int .i64 v.n]) rfl (by rintro w h;obtain⟨c0,c1,c2,c3,c4,c5,c6,-⟩:=box_all h.1;go_simp) s1 ?_
  go_simp
  refine zHa 6 (.agg #[.int .i64 v.k,.string v.name,.string v.to,.slice v.ao v.an v.ac,.slice v.bo v.bn v.bc,.slice v.co v.cn v.cc,.int .i64 v.n]) rfl (by rintro w h;obtain⟨c0,c1,c2,c3,c4,c5,c6,-⟩:=box_all h.1;go_simp) s1 ?_
  go_simp
  refine zH1 7 rfl (fun K hK=>?_)
  go_simp
  refine (bare_any v _).mono ?_
  rintro e W2 ⟨rfl,hb2⟩
  have s2:=s1.step hb2
  have o2:=s2.at_ ho
  obtain⟨u,hu⟩:∃u,keepL (fieldsOf v.k) v=u:=⟨_,rfl⟩
  have p2:OpAt W2 u (keepC (fieldsOf v.k) c):=hu▸keep_at o2 _
  have Hs2:Hid (sameOp v c u (keepC (fieldsOf v.k) c)=true):=hid (hu▸H1.out)
  rw[hu]
  clear hu o2
  go_simp
  refine hK _ _ ⟨s2,?_⟩
  clear hK K
  refine zH1 8 rfl (fun K hK=>?_)
  go_simp
  refine (sameOp_any v u c (keepC (fieldsOf v.k) c) _ (s2.at_ ho) p2).mono ?_
  rintro e W3 ⟨rfl,hb3⟩
  rw[Hs2.out]
  have s3:=s2.step hb3
  go_simp
  refine hK _ _ ⟨s3,?_⟩
  clear hK K
  refine zHa 9 (.bool false) rfl (by rintro w h;obtain⟨c0,c1,c2,c3,c4,c5,c6,-⟩:=box_all h.1;go_simp) s3 ?_
  go_simp
  refine zHp 10 (.bool false) rfl s3 ?_
  go_simp
  refine zHp 11 (.bool false) rfl s3 ?_
  go_simp
  refine zHp 12 (.func (.func 66) #[] #[]) rfl s3 ?_
  go_simp
  refine zHp 13 (.pointer (some ⟨w.heap.size,1,none⟩)) rfl s3 ?_
  go_simp
  refine zHa 14 (.string v.name) rfl (by rintro w h;obtain⟨c0,c1,c2,c3,c4,c5,c6,-⟩:=box_all h.1;go_simp) s3 ?_
  go_simp
  refine zH1 15 rfl (fun K hK=>?_)
  go_simp
  refine (odd_any _ _).mono ?_
  rintro e W4 ⟨rfl,hb4⟩
  rw[H2.out]
  have s4:=s3.step hb4
  go_simp
  refine hK _ _ ⟨s4,?_⟩
  clear hK K
  refine zHp 16 (.bool false) rfl s4 ?_
  go_simp
  refine zHp 17 (.bool false) rfl s4 ?_
  go_simp
  refine zHp 18 (.func (.func 66) #[] #[]) rfl s4 ?_
  go_simp
  refine zHp 19 (.pointer (some ⟨w.heap.size,2,none⟩)) rfl s4 ?_
  go_simp
  refine zHa 20 (.string v.to) rfl (by rintro w h;obtain⟨c0,c1,c2,c3,c4,c5,c6,-⟩:=box_all h.1;go_simp) s4 ?_
  go_simp
  refine zH1 21 rfl (fun K hK=>?_)
  go_simp
  refine (odd_any _ _).mono ?_
  rintro e W5 ⟨rfl,hb5⟩
  rw[H3.out]
  have s5:=s4.step hb5
  go_simp
  refine hK _ _ ⟨s5,?_⟩
  clear hK K
  refine zHp 22 (.bool true) rfl s5 ?_
  go_simp
  refine zHp 23 (.bool true) rfl s5 ?_
  go_simp
  refine zHo 24 rfl s5 ?_
  go_simp
  refine zHo 25 rfl s5 ?_
  go_simp
  refine zHo 26 rfl s5 ?_
  go_simp
  refine zHo 27 rfl s5 ?_
  go_simp
  refine zHp 28 (.bool true) rfl s5 ?_
  go_simp
  refine zHp 29 (.bool true) rfl s5 ?_
  go_simp
  refine zHo 30 rfl s5 ?_
  go_simp
  refine zHo 31 rfl s5 ?_
  go_simp
  refine zHo 32 rfl s5 ?_
  go_simp
  refine zHo 33 rfl s5 ?_
  go_simp
  refine zHp 34 (.bool true) rfl s5 ?_
  go_simp
  refine wpAnyH_done (by kernel_rfl) ?_ _
  go_wp2_with fail
  go_ret
  exact⟨by rw[Hr.out];rfl,s5.2⟩
 replace h3:(!mayName v.to)=false:=by simpa using h3
 have H3:Hid ((!mayName v.to)=false):=hid h3
 clear h3
 by_cases h4:decide (50<(v.an:Int))=true
 ·have f4:=h4
  have Hr:Hid (mayOpA v c attrs=false):=hid (may_fact (.inr (.inr (.inr (.inr (.inl (decide_eq_false (by have:=of_decide_eq_true f4;omega))))))))
  clear h4 hA
  unfold OV.val
  go_enter Tryz.func13,Tryz.ntmps13
  go_wp2_with fail
  refine wp_region_held (S:=InBox w v) hmo ?_
  change wpAnyH _ _ _ _ _ _ _ _ (World.drew _)
  refine zHp 0 (.pointer (some ⟨w.heap.size,0,none⟩)) rfl s0 ?_
  go_simp
  refine zHa 1 (.int .i64 v.k) rfl (by rintro w h;obtain⟨c0,c1,c2,c3,c4,c5,c6,-⟩:=box_all h.1;go_simp) s0 ?_
  go_simp
  refine zH1 2 rfl (fun K hK=>?_)
  go_simp
  refine (fields_any _ _).mono ?_
  rintro e W1 ⟨rfl,hb1⟩
  have s1:=s0.step hb1
  go_simp
  refine hK _ _ ⟨s1,?_⟩
  clear hK K
  refine zHa 3 (.bool false) rfl (by rintro w h;obtain⟨c0,c1,c2,c3,c4,c5,c6,-⟩:=box_all h.1;go_simp;exact H0.out) s1 ?_
  go_simp
  refine zHp 4 (.bool false) rfl s1 ?_
  go_simp
  refine zHa 5 (.agg #[.int .i64 v.k,.string v.name,.string v.to,.slice v.ao v.an v.ac,.slice v.bo v.bn v.bc,.slice v.co v.cn v.cc,.int .i64 v.n]) rfl (by rintro w h;obtain⟨c0,c1,c2,c3,c4,c5,c6,-⟩:=box_all h.1;go_simp) s1 ?_
  go_simp
  refine zHa 6 (.agg #[.int .i64 v.k,.string v.name,.string v.to,.slice v.ao v.an v.ac,.slice v.bo v.bn v.bc,.slice v.co v.cn v.cc,.int .i64 v.n]) rfl (by rintro w h;obtain⟨c0,c1,c2,c3,c4,c5,c6,-⟩:=box_all h.1;go_simp) s1 ?_
  go_simp
  refine zH1 7 rfl (fun K hK=>?_)
  go_simp
  refine (bare_any v _).mono ?_
  rintro e W2 ⟨rfl,hb2⟩
  have s2:=s1.step hb2
  have o2:=s2.at_ ho
  obtain⟨u,hu⟩:∃u,keepL (fieldsOf v.k) v=u:=⟨_,rfl⟩
  have p2:OpAt W2 u (keepC (fieldsOf v.k) c):=hu▸keep_at o2 _
  have Hs2:Hid (sameOp v c u (keepC (fieldsOf v.k) c)=true):=hid (hu▸H1.out)
  rw[hu]
  clear hu o2
  go_simp
  refine hK _ _ ⟨s2,?_⟩
  clear hK K
  refine zH1 8 rfl (fun K hK=>?_)
  go_simp
  refine (sameOp_any v u c (keepC (fieldsOf v.k) c) _ (s2.at_ ho) p2).mono ?_
  rintro e W3 ⟨rfl,hb3⟩
  rw[Hs2.out]
  have s3:=s2.step hb3
  go_simp
  refine hK _ _ ⟨s3,?_⟩
  clear hK K
  refine zHa 9 (.bool false) rfl (by rintro w h;obtain⟨c0,c1,c2,c3,c4,c5,c6,-⟩:=box_all h.1;go_simp) s3 ?_
  go_simp
  refine zHp 10 (.bool false) rfl s3 ?_
  go_simp
  refine zHp 11 (.bool false) rfl s3 ?_
  go_simp
  refine zHp 12 (.func (.func 66) #[] #[]) rfl s3 ?_
  go_simp
  refine zHp 13 (.pointer (some ⟨w.heap.size,1,none⟩)) rfl s3 ?_
  go_simp
  refine zHa 14 (.string v.name) rfl (by rintro w h;obtain⟨c0,c1,c2,c3,c4,c5,c6,-⟩:=box_all h.1;go_simp) s3 ?_
  go_simp
  refine zH1 15 rfl (fun K hK=>?_)
  go_simp
  refine (odd_any _ _).mono ?_
  rintro e W4 ⟨rfl,hb4⟩
  rw[H2.out]
  have s4:=s3.step hb4
  go_simp
  refine hK _ _ ⟨s4,?_⟩
  clear hK K
  refine zHp 16 (.bool false) rfl s4 ?_
  go_simp
  refine zHp 17 (.bool false) rfl s4 ?_
  go_simp
  refine zHp 18 (.func (.func 66) #[] #[]) rfl s4 ?_
  go_simp
  refine zHp 19 (.pointer (some ⟨w.heap.size,2,none⟩)) rfl s4 ?_
  go_simp
  refine zHa 20 (.string v.to) rfl (by rintro w h;obtain⟨c0,c1,c2,c3,c4,c5,c6,-⟩:=box_all h.1;go_simp) s4 ?_
  go_simp
  refine zH1 21 rfl (fun K hK=>?_)
  go_simp
  refine (odd_any _ _).mono ?_
  rintro e W5 ⟨rfl,hb5⟩
  rw[H3.out]
  have s5:=s4.step hb5
  go_simp
  refine hK _ _ ⟨s5,?_⟩
  clear hK K
  refine zHp 22 (.bool false) rfl s5 ?_
  go_simp
  refine zHp 23 (.bool false) rfl s5 ?_
  go_simp
  refine zHp 24 (.pointer (some ⟨w.heap.size,3,none⟩)) rfl s5 ?_
  go_simp
  refine zHa 25 (.slice v.ao v.an v.ac) rfl (by rintro w h;obtain⟨c0,c1,c2,c3,c4,c5,c6,-⟩:=box_all h.1;go_simp) s5 ?_
  go_simp
  refine zHa 26 (.int .i64 (v.an:Int)) rfl (by rintro w h;obtain⟨c0,c1,c2,c3,c4,c5,c6,-⟩:=box_all h.1;go_simp) s5 ?_
  go_simp
  refine zHa 27 (.bool true) rfl (by rintro w h;obtain⟨c0,c1,c2,c3,c4,c5,c6,-⟩:=box_all h.1;go_simp) s5 ?_
  go_simp
  refine zHp 28 (.bool true) rfl s5 ?_
  go_simp
  refine zHp 29 (.bool true) rfl s5 ?_
  go_simp
  refine zHo 30 rfl s5 ?_
  go_simp
  refine zHo 31 rfl s5 ?_
  go_simp
  refine zHo 32 rfl s5 ?_
  go_simp
  refine zHo 33 rfl s5 ?_
  go_simp
  refine zHp 34 (.bool true) rfl s5 ?_
  go_simp
  refine wpAnyH_done (by kernel_rfl) ?_ _
  go_wp2_with fail
  go_ret
  exact⟨by rw[Hr.out];rfl,s5.2⟩
 have f4:decide (50<(v.an:Int))=false:=by cases e:decide (50<(v.an:Int)) with | true=>exact absurd e h4 | false=>rfl
 clear h4
 by_cases h5:(c.attrs.any fun u=>!mayAttr u)=true
 ·have H5:=hid h5
  have Hr:Hid (mayOpA v c attrs=false):=hid (may_fact (.inr (.inr (.inr (.inr (.inr H5.out))))))
  clear h5 hA
  unfold OV.val
  go_enter Tryz.func13,Tryz.ntmps13
  go_wp2_with fail
  refine wp_region_held (S:=InBox w v) hmo ?_
  change wpAnyH _ _ _ _ _ _ _ _ (World.drew _)
  refine zHp 0 (.pointer (some ⟨w.heap.size,0,none⟩)) rfl s0 ?_
  go_simp
  refine zHa 1 (.int .i64 v.k) rfl (by rintro w h;obtain⟨c0,c1,c2,c3,c4,c5,c6,-⟩:=box_all h.1;go_simp) s0 ?_
  go_simp
  refine zH1 2 rfl (fun K hK=>?_)
  go_simp
  refine (fields_any _ _).mono ?_
  rintro e W1 ⟨rfl,hb1⟩
  have s1:=s0.step hb1
  go_simp
  refine hK _ _ ⟨s1,?_⟩
  clear hK K
  refine zHa 3 (.bool false) rfl (by rintro w h;obtain⟨c0,c1,c2,c3,c4,c5,c6,-⟩:=box_all h.1;go_simp;exact H0.out) s1 ?_
  go_simp
  refine zHp 4 (.bool false) rfl s1 ?_
  go_simp
  refine zHa 5 (.agg #[.int .i64 v.k,.string v.name,.string v.to,.slice v.ao v.an v.ac,.slice v.bo v.bn v.bc,.slice v.co v.cn v.cc,.int .i64 v.n]) rfl (by rintro w h;obtain⟨c0,c1,c2,c3,c4,c5,c6,-⟩:=box_all h.1;go_simp) s1 ?_
  go_simp
  refine zHa 6 (.agg #[.int .i64 v.k,.string v.name,.string v.to,.slice v.ao v.an v.ac,.slice v.bo v.bn v.bc,.slice v.co v.cn v.cc,.int .i64 v.n]) rfl (by rintro w h;obtain⟨c0,c1,c2,c3,c4,c5,c6,-⟩:=box_all h.1;go_simp) s1 ?_
  go_simp
  refine zH1 7 rfl (fun K hK=>?_)
  go_simp
  refine (bare_any v _).mono ?_
  rintro e W2 ⟨rfl,hb2⟩
  have s2:=s1.step hb2
  have o2:=s2.at_ ho
  obtain⟨u,hu⟩:∃u,keepL (fieldsOf v.k) v=u:=⟨_,rfl⟩
  have p2:OpAt W2 u (keepC (fieldsOf v.k) c):=hu▸keep_at o2 _
  have Hs2:Hid (sameOp v c u (keepC (fieldsOf v.k) c)=true):=hid (hu▸H1.out)
  rw[hu]
  clear hu o2
  go_simp
  refine hK _ _ ⟨s2,?_⟩
  clear hK K
  refine zH1 8 rfl (fun K hK=>?_)
  go_simp
  refine (sameOp_any v u c (keepC (fieldsOf v.k) c) _ (s2.at_ ho) p2).mono ?_
  rintro e W3 ⟨rfl,hb3⟩
  rw[Hs2.out]
  have s3:=s2.step hb3
  go_simp
  refine hK _ _ ⟨s3,?_⟩
  clear hK K
  refine zHa 9 (.bool false) rfl (by rintro w h;obtain⟨c0,c1,c2,c3,c4,c5,c6,-⟩:=box_all h.1;go_simp) s3 ?_
  go_simp
  refine zHp 10 (.bool false) rfl s3 ?_
  go_simp
  refine zHp 11 (.bool false) rfl s3 ?_
  go_simp
  refine zHp 12 (.func (.func 66) #[] #[]) rfl s3 ?_
  go_simp
  refine zHp 13 (.pointer (some ⟨w.heap.size,1,none⟩)) rfl s3 ?_
  go_simp
  refine zHa 14 (.string v.name) rfl (by rintro w h;obtain⟨c0,c1,c2,c3,c4,c5,c6,-⟩:=box_all h.1;go_simp) s3 ?_
  go_simp
  refine zH1 15 rfl (fun K hK=>?_)
  go_simp
  refine (odd_any _ _).mono ?_
  rintro e W4 ⟨rfl,hb4⟩
  rw[H2.out]
  have s4:=s3.step hb4
  go_simp
  refine hK _ _ ⟨s4,?_⟩
  clear hK K
  refine zHp 16 (.bool false) rfl s4 ?_
  go_simp
  refine zHp 17 (.bool false) rfl s4 ?_
  go_simp
  refine zHp 18 (.func (.func 66) #[] #[]) rfl s4 ?_
  go_simp
  refine zHp 19 (.pointer (some ⟨w.heap.size,2,none⟩)) rfl s4 ?_
  go_simp
  refine zHa 20 (.string v.to) rfl (by rintro w h;obtain⟨c0,c1,c2,c3,c4,c5,c6,-⟩:=box_all h.1;go_simp) s4 ?_
  go_simp
  refine zH1 21 rfl (fun K hK=>?_)
  go_simp
  refine (odd_any _ _).mono ?_
  rintro e W5 ⟨rfl,hb5⟩
  rw[H3.out]
  have s5:=s4.step hb5
  go_simp
  refine hK _ _ ⟨s5,?_⟩
  clear hK K
  refine zHp 22 (.bool false) rfl s5 ?_
  go_simp
  refine zHp 23 (.bool false) rfl s5 ?_
  go_simp
  refine zHp 24 (.pointer (some ⟨w.heap.size,3,none⟩)) rfl s5 ?_
  go_simp
  refine zHa 25 (.slice v.ao v.an v.ac) rfl (by rintro w h;obtain⟨c0,c1,c2,c3,c4,c5,c6,-⟩:=box_all h.1;go_simp) s5 ?_
  go_simp
  refine zHa 26 (.int .i64 (v.an:Int)) rfl (by rintro w h;obtain⟨c0,c1,c2,c3,c4,c5,c6,-⟩:=box_all h.1;go_simp) s5 ?_
  go_simp
  refine zHa 27 (.bool false) rfl (by rintro w h;obtain⟨c0,c1,c2,c3,c4,c5,c6,-⟩:=box_all h.1;go_simp) s5 ?_
  go_simp
  refine zHp 28 (.bool false) rfl s5 ?_
  go_simp
  refine zHp 29 (.bool false) rfl s5 ?_
  go_simp
  refine zHp 30 (.pointer (some ⟨w.heap.size,3,none⟩)) rfl s5 ?_
  go_simp
  refine zHa 31 (.slice v.ao v.an v.ac) rfl (by rintro w h;obtain⟨c0,c1,c2,c3,c4,c5,c6,-⟩:=box_all h.1;go_simp) s5 ?_
  go_simp
  refine zHp 32 (.func (.func 64) #[] #[]) rfl s5 ?_
  go_simp
  refine zH1 33 rfl (fun K hK=>?_)
  go_simp
  refine (contains_att _ _ _ c.attrs _ (s5.at_ ho).a).mono ?_
  rintro e W6 ⟨rfl,hb6⟩
  rw[H5.out]
  have s6:=s5.step hb6
  go_simp
  refine hK _ _ ⟨s6,?_⟩
  clear hK K
  refine zHp 34 (.bool true) rfl s6 ?_
  go_simp
  refine wpAnyH_done (by kernel_rfl) ?_ _
  go_wp2_with fail
  go_ret
  exact⟨by rw[Hr.out];rfl,s6.2⟩
 replace h5:(c.attrs.any fun u=>!mayAttr u)=false:=by simpa using h5
 have H5:Hid ((c.attrs.any fun u=>!mayAttr u)=false):=hid h5
 clear h5
 have Hr:Hid (mayOpA v c attrs=restOp v c attrs):=hid (by have:=of_decide_eq_false f4;have h2:=H2.out;have h3:=H3.out;simp only[Bool.not_eq_false'] at h2 h3;unfold mayOpA;rw[H1.out,h2,h3,H5.out,decide_eq_true H0.out,decide_eq_true (by omega)];simp)
 unfold OV.val
 go_enter Tryz.func13,Tryz.ntmps13
 go_wp2_with fail
 refine wp_region_held (S:=InBox w v) hmo ?_
 change wpAnyH _ _ _ _ _ _ _ _ (World.drew _)
 refine zHp 0 (.pointer (some ⟨w.heap.size,0,none⟩)) rfl s0 ?_
 go_simp
 refine zHa 1 (.int .i64 v.k) rfl (by rintro w h;obtain⟨c0,c1,c2,c3,c4,c5,c6,-⟩:=box_all h.1;go_simp) s0 ?_
 go_simp
 refine zH1 2 rfl (fun K hK=>?_)
 go_simp
 refine (fields_any _ _).mono ?_
 rintro e W1 ⟨rfl,hb1⟩
 have s1:=s0.step hb1
 go_simp
 refine hK _ _ ⟨s1,?_⟩
 clear hK K
 refine zHa 3 (.bool false) rfl (by rintro w h;obtain⟨c0,c1,c2,c3,c4,c5,c6,-⟩:=box_all h.1;go_simp;exact H0.out) s1 ?_
 go_simp
 refine zHp 4 (.bool false) rfl s1 ?_
 go_simp
 refine zHa 5 (.agg #[.int .i64 v.k,.string v.name,.string v.to,.slice v.ao v.an v.ac,.slice v.bo v.bn v.bc,.slice v.co v.cn v.cc,.int .i64 v.n]) rfl (by rintro w h;obtain⟨c0,c1,c2,c3,c4,c5,c6,-⟩:=box_all h.1;go_simp) s1 ?_
 go_simp
 refine zHa 6 (.agg #[.int .i64 v.k,.string v.name,.string v.to,.slice v.ao v.an v.ac,.slice v.bo v.bn v.bc,.slice v.co v.cn v.cc,.int .i64 v.n]) rfl (by rintro w h;obtain⟨c0,c1,c2,c3,c4,c5,c6,-⟩:=box_all h.1;go_simp) s1 ?_
 go_simp
 refine zH1 7 rfl (fun K hK=>?_)
 go_simp
 refine (bare_any v _).mono ?_
 rintro e W2 ⟨rfl,hb2⟩
 have s2:=s1.step hb2
 have o2:=s2.at_ ho
 obtain⟨u,hu⟩:∃u,keepL (fieldsOf v.k) v=u:=⟨_,rfl⟩
 have p2:OpAt W2 u (keepC (fieldsOf v.k) c):=hu▸keep_at o2 _
 have Hs2:Hid (sameOp v c u (keepC (fieldsOf v.k) c)=true):=hid (hu▸H1.out)
 rw[hu]
 clear hu o2
 go_simp
 refine hK _ _ ⟨s2,?_⟩
 clear hK K
 refine zH1 8 rfl (fun K hK=>?_)
 go_simp
 refine (sameOp_any v u c (keepC (fieldsOf v.k) c) _ (s2.at_ ho) p2).mono ?_
 rintro e W3 ⟨rfl,hb3⟩
 rw[Hs2.out]
 have s3:=s2.step hb3
 go_simp
 refine hK _ _ ⟨s3,?_⟩
 clear hK K
 refine zHa 9 (.bool false) rfl (by rintro w h;obtain⟨c0,c1,c2,c3,c4,c5,c6,-⟩:=box_all h.1;go_simp) s3 ?_
 go_simp
 refine zHp 10 (.bool false) rfl s3 ?_
 go_simp
 refine zHp 11 (.bool false) rfl s3 ?_
 go_simp
 refine zHp 12 (.func (.func 66) #[] #[]) rfl s3 ?_
 go_simp
 refine zHp 13 (.pointer (some ⟨w.heap.size,1,none⟩)) rfl s3 ?_
 go_simp
 refine zHa 14 (.string v.name) rfl (by rintro w h;obtain⟨c0,c1,c2,c3,c4,c5,c6,-⟩:=box_all h.1;go_simp) s3 ?_
 go_simp
 refine zH1 15 rfl (fun K hK=>?_)
 go_simp
 refine (odd_any _ _).mono ?_
 rintro e W4 ⟨rfl,hb4⟩
 rw[H2.out]
 have s4:=s3.step hb4
 go_simp
 refine hK _ _ ⟨s4,?_⟩
 clear hK K
 refine zHp 16 (.bool false) rfl s4 ?_
 go_simp
 refine zHp 17 (.bool false) rfl s4 ?_
 go_simp
 refine zHp 18 (.func (.func 66) #[] #[]) rfl s4 ?_
 go_simp
 refine zHp 19 (.pointer (some ⟨w.heap.size,2,none⟩)) rfl s4 ?_
 go_simp
 refine zHa 20 (.string v.to) rfl (by rintro w h;obtain⟨c0,c1,c2,c3,c4,c5,c6,-⟩:=box_all h.1;go_simp) s4 ?_
 go_simp
 refine zH1 21 rfl (fun K hK=>?_)
 go_simp
 refine (odd_any _ _).mono ?_
 rintro e W5 ⟨rfl,hb5⟩
 rw[H3.out]
 have s5:=s4.step hb5
 go_simp
 refine hK _ _ ⟨s5,?_⟩
 clear hK K
 refine zHp 22 (.bool false) rfl s5 ?_
 go_simp
 refine zHp 23 (.bool false) rfl s5 ?_
 go_simp
 refine zHp 24 (.pointer (some ⟨w.heap.size,3,none⟩)) rfl s5 ?_
 go_simp
 refine zHa 25 (.slice v.ao v.an v.ac) rfl (by rintro w h;obtain⟨c0,c1,c2,c3,c4,c5,c6,-⟩:=box_all h.1;go_simp) s5 ?_
 go_simp
 refine zHa 26 (.int .i64 (v.an:Int)) rfl (by rintro w h;obtain⟨c0,c1,c2,c3,c4,c5,c6,-⟩:=box_all h.1;go_simp) s5 ?_
 go_simp
 refine zHa 27 (.bool false) rfl (by rintro w h;obtain⟨c0,c1,c2,c3,c4,c5,c6,-⟩:=box_all h.1;go_simp) s5 ?_
 go_simp
 refine zHp 28 (.bool false) rfl s5 ?_
 go_simp
 refine zHp 29 (.bool false) rfl s5 ?_
 go_simp
 refine zHp 30 (.pointer (some ⟨w.heap.size,3,none⟩)) rfl s5 ?_
 go_simp
 refine zHa 31 (.slice v.ao v.an v.ac) rfl (by rintro w h;obtain⟨c0,c1,c2,c3,c4,c5,c6,-⟩:=box_all h.1;go_simp) s5 ?_
 go_simp
 refine zHp 32 (.func (.func 64) #[] #[]) rfl s5 ?_
 go_simp
 refine zH1 33 rfl (fun K hK=>?_)
 go_simp
 refine (contains_att _ _ _ c.attrs _ (s5.at_ ho).a).mono ?_
 rintro e W6 ⟨rfl,hb6⟩
 rw[H5.out]
 have s6:=s5.step hb6
 go_simp
 refine hK _ _ ⟨s6,?_⟩
 clear hK K
 refine zHp 34 (.bool false) rfl s6 ?_
 go_simp
 refine wpAnyH_done (by kernel_rfl) ?_ _
 obtain⟨c0,c1,c2,c3,c4,c5,c6,-⟩:=box_all s6.1
 by_cases hk1:v.k=1
 ·have f1:(v.k==1)=true:=by simp[hk1]
  have Hs:Hid (mayOpA v c attrs=attrs):=hid (by rw[Hr.out];simp[restOp,hk1])
  have hc:=hA hk1 _ (s6.at_ ho)
  clear hk1 hA
  go_wp2_with fail
  refine hc.mono ?_
  rintro e W7 ⟨rfl,hb7⟩
  have s7:=s6.step hb7
  go_wp2_with fail
  go_ret
  exact⟨by rw[Hs.out];rfl,s7.2⟩
 have f1:(v.k==1)=false:=by simp[hk1]
 by_cases hk5:v.k=5
 ·have f2:(v.k==5)=true:=by simp[hk5]
  have Hs:Hid (mayOpA v c attrs=((v.an:Int)==1)):=hid (by rw[Hr.out];unfold restOp;rw[if_neg hk1,if_pos hk5,Bool.eq_iff_iff];simp;omega)
  clear hk1 hk5 hA
  go_wp2_with fail
  go_ret
  exact⟨by rw[Hs.out];rfl,s6.2⟩
 have f2:(v.k==5)=false:=by simp[hk5]
 have Hs:Hid (mayOpA v c attrs=(decide (v.bn≤8)&&!(c.parts.any fun u=>!mayName u)&&decide (v.cn≤4000)&&decide (0≤v.n)&&decide (v.n≤1000))):=hid (by rw[Hr.out];unfold restOp;rw[if_neg hk1,if_neg hk5])
 clear hk1 hk5 hA Hr
 by_cases hb:v.bn≤8
 ·have f3:decide ((v.bn:Int)≤8)=true:=decide_eq_true (by omega)
  go_wp2_with fail
  refine (contains_txt _ _ _ c.parts _ (s6.at_ ho).b).mono ?_
  rintro e W7 ⟨rfl,hb7⟩
  have s7:=s6.step hb7
  clear c0 c1 c2 c3 c4 c5 c6
  obtain⟨c0,c1,c2,c3,c4,c5,c6,-⟩:=box_all s7.1
  by_cases hp:(c.parts.any fun u=>!mayName u)=true
  ·have Hs2:Hid (mayOpA v c attrs=false):=hid (by rw[Hs.out,hp];simp)
   rw[hp]
   clear Hs hp hb
   go_wp2_with fail
   go_ret
   exact⟨by rw[Hs2.out];rfl,s7.2⟩
  have hp2:(c.parts.any fun u=>!mayName u)=false:=by simpa using hp
  have Hs2:Hid (mayOpA v c attrs=(decide (v.cn≤4000)&&decide (0≤v.n)&&decide (v.n≤1000))):=hid (by rw[Hs.out,hp2,decide_eq_true hb];simp)
  rw[hp2]
  clear Hs hp hp2 hb
  by_cases hc:v.cn≤4000
  ·have f4:decide ((v.cn:Int)≤4000)=true:=decide_eq_true (by omega)
   by_cases h0:0≤v.n
   ·have f5:decide (0≤v.n)=true:=decide_eq_true h0
    have Hs3:Hid (mayOpA v c attrs=decide (v.n≤1000)):=hid (by rw[Hs2.out,decide_eq_true hc,f5];simp)
    clear Hs2 hc h0
    go_wp2_with fail
    go_ret
    exact⟨by rw[Hs3.out];rfl,s7.2⟩
   have f5:decide (0≤v.n)=false:=decide_eq_false h0
   have Hs3:Hid (mayOpA v c attrs=false):=hid (by rw[Hs2.out,f5];simp)
   clear Hs2 hc h0
   go_wp2_with fail
   go_ret
   exact⟨by rw[Hs3.out];rfl,s7.2⟩
  have f4:decide ((v.cn:Int)≤4000)=false:=decide_eq_false (by omega)
  have Hs3:Hid (mayOpA v c attrs=false):=hid (by rw[Hs2.out,decide_eq_false hc];simp)
  clear Hs2 hc
  go_wp2_with fail
  go_ret
  exact⟨by rw[Hs3.out];rfl,s7.2⟩
 have f3:decide ((v.bn:Int)≤8)=false:=decide_eq_false (by omega)
 have Hs2:Hid (mayOpA v c attrs=false):=hid (by rw[Hs.out,decide_eq_false hb];simp)
 clear Hs hb
 go_wp2_with fail
 go_ret
 exact⟨by rw[Hs2.out];rfl,s6.2⟩
end Go.Proofs.YtgeafnggodkpaaaGreat.Msg
namespace Go.Proofs.YtgeafnggodkpaaaGreat.Msg
open Go.RowKit Go.Lib Go.Proofs.YtgeafnggodkpaaaGreat.Mem
structure CopyOf (w:World)(v u:OV):Prop where
 ek:u.k=v.k
 ename:u.name=v.name
 eto:u.to=v.to
 en:u.n=v.n
 ean:u.an=v.an
 ebn:u.bn=v.bn
 ecn:u.cn=v.cn
 fa:∀a,u.ao=some a→w.heap.size≤a.block
 fb:∀a,u.bo=some a→w.heap.size≤a.block
 fc:∀a,u.co=some a→w.heap.size≤a.block
 na:v.ao=none→u.ao=none∧u.ac=0
 nb:v.bo=none→u.bo=none∧u.bc=0
 nc:v.co=none→u.co=none∧u.cc=0
def GivesU (v:OV)(c:OC)(w:World)(e:Ending)(w':World):Prop:=∃u:OV,e=.returned u.val∧CopyOf w v u∧OpAt w' u c∧Below w.heap.size w w'
def InTwo (w:World)(v:OV)(W:World):Prop:=InBox w v W∧W.heap[w.heap.size+1]?=some zeroV.box
theorem InTwo.step {w W W':World}{v:OV}(h:InTwo w v W)(hb:Below W.heap.size W W'):InTwo w v W':=
 ⟨h.1.step hb,(hb.block _ (Array.getElem?_eq_some_iff.1 h.2).1).trans h.2⟩
theorem rd_set {W:World}{size:Nat}{ao:Option Addr}{n cap:Nat}{xs:List Value}(h:Rd W size ao n cap xs)(p:Addr)(x:Value)(hd:∀a,ao=some a→a.block≠p.block):Rd (W.setCell p x) size ao n cap xs:=by
 obtain⟨h1,h2,h3,h4,h5⟩:=h
 refine⟨h1,h2,h3,h4,fun h0 a ha=>?_⟩
 obtain⟨s,l,c⟩:=h5 h0 a ha
 exact⟨s,by simpa using l,fun j u hu=>(World.cell?_of_block (a:=⟨a.block,a.off+j,none⟩) (Below.heap_setCell W p x _ (hd a ha))).trans (c j u hu)⟩
theorem OpAt.set {W:World}{u:OV}{c:OC}(h:OpAt W u c)(p:Addr)(x:Value)(fa:∀a,u.ao=some a→a.block≠p.block)(fb:∀a,u.bo=some a→a.block≠p.block)(fc:∀a,u.co=some a→a.block≠p.block):OpAt (W.setCell p x) u c:=
 ⟨rd_set h.a p x fa,rd_set h.b p x fb,rd_set h.c p x fc,h.la,h.lb,h.lc⟩
def setAll (W:World)(b:Nat)(u:OV):World:=((((((W.setCell ⟨b,0,none⟩ (.int .i64 u.k)).setCell ⟨b,1,none⟩ (.string u.name)).setCell ⟨b,2,none⟩ (.string u.to)).setCell ⟨b,3,none⟩ (.slice u.ao u.an u.ac)).setCell ⟨b,4,none⟩ (.slice u.bo u.bn u.bc)).setCell ⟨b,5,none⟩ (.slice u.co u.cn u.cc)).setCell ⟨b,6,none⟩ (.int .i64 u.n)
theorem setAll_at {W:World}{b:Nat}{v u:OV}(h:W.heap[b]?=some v.box):(setAll W b u).heap[b]?=some u.box:=
 by
 unfold OV.box at h
 have h0:=at_set (i:=0) (x:=.int .i64 u.k) h
 have h1:=at_set (i:=1) (x:=.string u.name) h0
 have h2:=at_set (i:=2) (x:=.string u.to) h1
 have h3:=at_set (i:=3) (x:=.slice u.ao u.an u.ac) h2
 have h4:=at_set (i:=4) (x:=.slice u.bo u.bn u.bc) h3
 have h5:=at_set (i:=5) (x:=.slice u.co u.cn u.cc) h4
 have h6:=at_set (i:=6) (x:=.int .i64 u.n) h5
 unfold setAll
 refine h6.trans ?_
 kernel_rfl
theorem setAll_op {W:World}{b:Nat}{u y:OV}{c:OC}(h:OpAt W y c)(fa:∀a,y.ao=some a→a.block≠b)(fb:∀a,y.bo=some a→a.block≠b)(fc:∀a,y.co=some a→a.block≠b):OpAt (setAll W b u) y c:=
 ((((((h.set ⟨b,0,none⟩ _ fa fb fc).set ⟨b,1,none⟩ _ fa fb fc).set ⟨b,2,none⟩ _ fa fb fc).set ⟨b,3,none⟩ _ fa fb fc).set ⟨b,4,none⟩ _ fa fb fc).set ⟨b,5,none⟩ _ fa fb fc).set ⟨b,6,none⟩ _ fa fb fc
theorem setAll_below {B:Nat}{w W:World}{b:Nat}{u:OV}(h:Below B w W)(hb:B≤b):Below B w (setAll W b u):=
 ((((((h.setCell (p:=⟨b,0,none⟩) hb _).setCell (p:=⟨b,1,none⟩) hb _).setCell (p:=⟨b,2,none⟩) hb _).setCell (p:=⟨b,3,none⟩) hb _).setCell (p:=⟨b,4,none⟩) hb _).setCell (p:=⟨b,5,none⟩) hb _).setCell (p:=⟨b,6,none⟩) hb _
set_option maxRecDepth 100000 in
theorem copyOp_any (v:OV)(c:OC)(w:World)(ho:OpAt w v c):Calls Tryz.prog 84 #[v.val] w (GivesU v c w):=by
 have hmo:Tryz.prog.follows .mixedOrders=true:=by kernel_rfl
 have s0:InTwo w v ((w.alloc v.box).alloc zeroV.box).drew:=by
  obtain⟨h1,h2⟩:=two_boxes w v.box zeroV.box
  exact⟨⟨h1,(below_two w _ _).drew⟩,h2⟩
 unfold OV.val
 go_enter Tryz.func84,Tryz.ntmps84
 go_wp2_with fail
 refine wp_region_T (k:=10) (S:=InTwo w v) hmo ?_
 change wpAnyT _ _ _ _ _ _ _ _ _ (World.drew _)
 refine zTp 0 (.pointer (some ⟨w.heap.size,3,none⟩)) rfl s0 ?_
 go_simp
 refine zTa 1 (.slice v.ao v.an v.ac) rfl (by rintro w h;obtain⟨c0,c1,c2,c3,c4,c5,c6,-⟩:=box_all h.1.1;go_simp) s0 ?_
 go_simp
 refine zTp 3 (.pointer (some ⟨w.heap.size,4,none⟩)) rfl s0 ?_
 go_simp
 refine zTa 4 (.slice v.bo v.bn v.bc) rfl (by rintro w h;obtain⟨c0,c1,c2,c3,c4,c5,c6,-⟩:=box_all h.1.1;go_simp) s0 ?_
 go_simp
 refine zTp 6 (.pointer (some ⟨w.heap.size,5,none⟩)) rfl s0 ?_
 go_simp
 refine zTa 7 (.slice v.co v.cn v.cc) rfl (by rintro w h;obtain⟨c0,c1,c2,c3,c4,c5,c6,-⟩:=box_all h.1.1;go_simp) s0 ?_
 go_simp
 refine zT1 2 rfl (fun K hK=>?_)
 go_simp
 have o0:=ho.later s0.1.2
 refine (clone_att _ _ _ c.attrs _ o0.a o0.la).mono ?_
 rintro e W1 ⟨a1,k1,rfl,r1,hb1,fr1,nl1⟩
 have s1:=s0.step hb1
 have l0:=s0.1.2.size
 go_simp
 refine hK _ _ ⟨.inr s1,?_⟩
 clear hK K
 refine zTp 9 (.pointer (some ⟨w.heap.size,3,none⟩)) rfl s1 ?_
 go_simp
 refine zT1 5 rfl (fun K hK=>?_)
 go_simp
 have o1:=ho.later s1.1.2
 refine (clone_txt _ _ _ c.parts _ o1.b o1.lb).mono ?_
 rintro e W2 ⟨a2,k2,rfl,r2,hb2,fr2,nl2⟩
 have s2:=s1.step hb2
 have l1:=s1.1.2.size
 go_simp
 refine hK _ _ ⟨.inr s2,?_⟩
 clear hK K
 refine zT1 8 rfl (fun K hK=>?_)
 go_simp
 have o2:=ho.later s2.1.2
 refine (clone_byt _ _ _ c.cursor _ o2.c o2.lc).mono ?_
 rintro e W3 ⟨a3,k3,rfl,r3,hb3,fr3,nl3⟩
 have s3:=s2.step hb3
 have l2:=s2.1.2.size
 go_simp
 refine hK _ _ ⟨.inr s3,?_⟩
 clear hK K
 obtain⟨b0,b1,b2,b3,b4,b5,b6,b7⟩:=box_all s3.1.1
 refine wpAnyT_last (by kernel_rfl) (by kernel_rfl) ?_
 refine zA1 10 rfl (fun K hK=>?_)
 go_simp
 refine hK _ _ ?_
 clear hK K
 refine zA1 11 rfl (fun K hK=>?_)
 go_simp
 refine hK _ _ ?_
 clear hK K
 refine zA1 12 rfl (fun K hK=>?_)
 go_simp
 refine hK _ _ ?_
 clear hK K
 refine zA1 13 rfl (fun K hK=>?_)
 go_simp
 refine hK _ _ ?_
 clear hK K
 refine zA1 14 rfl (fun K hK=>?_)
 go_simp
 refine hK _ _ ?_
 clear hK K
 refine wpAny_done (by kernel_rfl) ?_ _
 have hW:=at_set (i:=5) (x:=.slice a3 v.cn k3) (at_set (i:=4) (x:=.slice a2 v.bn k2) (at_set (i:=3) (x:=.slice a1 v.an k1) s3.1.1))
 obtain⟨u,hu⟩:∃u:OV,u=⟨v.k,v.name,v.to,a1,v.an,k1,a2,v.bn,k2,a3,v.cn,k3,v.n⟩:=⟨_,rfl⟩
 have hU:(((W3.setCell ⟨w.heap.size,3,none⟩ (.slice a1 v.an k1)).setCell ⟨w.heap.size,4,none⟩ (.slice a2 v.bn k2)).setCell ⟨w.heap.size,5,none⟩ (.slice a3 v.cn k3)).heap[w.heap.size]?=some u.box:=by rw[hu];exact hW
 have hZ:(((W3.setCell ⟨w.heap.size,3,none⟩ (.slice a1 v.an k1)).setCell ⟨w.heap.size,4,none⟩ (.slice a2 v.bn k2)).setCell ⟨w.heap.size,5,none⟩ (.slice a3 v.cn k3)).heap[w.heap.size+1]?=some zeroV.box:=at_other (at_other (at_other s3.2 (by omega)) (by omega)) (by omega)
 have hlow:∀i,w.heap.size≤(⟨w.heap.size,i,none⟩:Addr).block:=fun i=>Nat.le_refl _
 have hB:=((s3.1.2.setCell (hlow 3) (.slice a1 v.an k1)).setCell (hlow 4) (.slice a2 v.bn k2)).setCell (hlow 5) (.slice a3 v.cn k3)
 have hC:CopyOf w v u:=by
  subst hu
  exact⟨rfl,rfl,rfl,rfl,rfl,rfl,rfl,fun a ha=>Nat.le_trans l0 (fr1 a ha),fun a ha=>Nat.le_trans l1 (fr2 a ha),fun a ha=>Nat.le_trans l2 (fr3 a ha),nl1,nl2,nl3⟩
 have hz:((w.alloc v.box).alloc zeroV.box).drew.heap.size=w.heap.size+1+1:=by simp
 have lz:w.heap.size+1+1≤W1.heap.size:=Nat.le_trans (Nat.le_of_eq hz.symm) hb1.size
 have lz2:=hb2.size
 have ga:∀i,i≤1→∀a,u.ao=some a→a.block≠w.heap.size+i:=fun i hi a ha=>by subst hu;have h1:=fr1 a ha;have h2:=Nat.le_trans (Nat.le_of_eq hz.symm) h1;omega
 have gb:∀i,i≤1→∀a,u.bo=some a→a.block≠w.heap.size+i:=fun i hi a ha=>by subst hu;have h1:=fr2 a ha;omega
 have gc:∀i,i≤1→∀a,u.co=some a→a.block≠w.heap.size+i:=fun i hi a ha=>by subst hu;have h1:=fr3 a ha;omega
 have hO:OpAt W3 u c:=by
  subst hu
  exact⟨(r1.later hb2).later hb3,r2.later hb3,r3,ho.la,ho.lb,ho.lc⟩
 have hO4:=((hO.set ⟨w.heap.size,3,none⟩ (.slice a1 v.an k1) (ga 0 (by omega)) (gb 0 (by omega)) (gc 0 (by omega))).set ⟨w.heap.size,4,none⟩ (.slice a2 v.bn k2) (ga 0 (by omega)) (gb 0 (by omega)) (gc 0 (by omega))).set ⟨w.heap.size,5,none⟩ (.slice a3 v.cn k3) (ga 0 (by omega)) (gb 0 (by omega)) (gc 0 (by omega))
 obtain⟨d0,d1,d2,d3,d4,d5,d6,-⟩:=box_all hU
 obtain⟨e0,e1,e2,e3,e4,e5,e6,e7⟩:=box_all hZ
 have HC:=hid hC
 clear hu hC b0 b1 b2 b3 b4 b5 b6 b7 hU hW hlow
 generalize ((W3.setCell ⟨w.heap.size,3,none⟩ (.slice a1 v.an k1)).setCell ⟨w.heap.size,4,none⟩ (.slice a2 v.bn k2)).setCell ⟨w.heap.size,5,none⟩ (.slice a3 v.cn k3)=W4 at *
 go_wp2_with fail
 have hF:(setAll W4 (w.heap.size+1) u).heap[w.heap.size+1]?=some u.box:=setAll_at hZ
 refine bodyPost_ret (w:=setAll W4 (w.heap.size+1) u) (results_op (i:=2) rfl rfl hF) rfl ⟨u,rfl,HC.out,setAll_op hO4 (ga 1 (Nat.le_refl _)) (gb 1 (Nat.le_refl _)) (gc 1 (Nat.le_refl _)),setAll_below hB (by omega)⟩
end Go.Proofs.YtgeafnggodkpaaaGreat.Msg
