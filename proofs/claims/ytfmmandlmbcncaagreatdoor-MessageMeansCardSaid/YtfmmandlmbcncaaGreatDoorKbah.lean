/-
  A part of the proof.
-/
import Derived.Deep.RegionHeld3
import Derived.Deep.DrawnRows
import Derived.Deep.RegionLaw
import Derived.Test.YtfmmandlmbcncaaGreatDoorKbag
import Derived.Test.YtfmmandlmbcncaaGreatDoorKbab
import Derived.Test.YtfmmandlmbcncaaGreatDoorKbaf
set_option maxHeartbeats 40000000
namespace Go.Proofs.YtfmmandlmbcncaaGreatDoor.Msg
open Go.RowKit Go.Lib Go.Proofs.YtfmmandlmbcncaaGreatDoor.Mem Go.Proofs.YtfmmandlmbcncaaGreatDoor.Utf
def InBox (w:World)(v:OV)(W:World):Prop:=W.heap[w.heap.size]?=some v.box∧Below w.heap.size w W
theorem InBox.step {w W W':World}{v:OV}(h:InBox w v W)(hb:Below W.heap.size W W'):InBox w v W':=
 ⟨(hb.block _ (Array.getElem?_eq_some_iff.1 h.1).1).trans h.1,h.2.trans (hb.mono h.2.size)⟩
theorem InBox.drew {w W:World}{v:OV}(h:InBox w v W):InBox w v W.drew:=⟨h.1,h.2.drew⟩
theorem InBox.new (w:World)(v:OV):InBox w v (w.alloc v.box):=⟨by show (w.heap.push _)[w.heap.size]?=some _;exact Array.getElem?_push_size,(Below.refl _ _).alloc (Nat.le_refl _) _⟩
theorem InBox.at_ {w W:World}{v:OV}{c:OC}(h:InBox w v W)(ho:OpAt w v c):OpAt W v c:=ho.later h.2
def restOp (v:OV)(c:OC)(attrs:Bool):Bool:=
 if v.k=1 then attrs else if v.k=5 then decide (v.an=1) else decide (v.bn≤8)&&!(c.parts.any fun u=>!mayName u)&&decide (v.cn≤4000)&&decide (0≤v.n)&&decide (v.n≤1000)
def mayOpA (v:OV)(c:OC)(attrs:Bool):Bool:=
 decide (fieldsOf v.k≠[])&&sameOp v c (keepL (fieldsOf v.k) v) (keepC (fieldsOf v.k) c)&&mayName v.name&&mayName v.to&&decide (v.an≤50)&&!(c.attrs.any fun u=>!mayAttr u)&&restOp v c attrs
theorem may_fact {f s n t l a r:Bool}(h:f=false∨s=false∨n=false∨t=false∨l=false∨a=true):(f&&s&&n&&t&&l&&!a&&r)=false:=by
 rcases h with rfl|rfl|rfl|rfl|rfl|rfl<;>simp
set_option maxRecDepth 100000 in
theorem mayOp_any (v:OV)(c:OC)(attrs:Bool)(w:World)(ho:OpAt w v c)(hA:v.k=1→∀W,OpAt W v c→Calls Tryz.prog 79 #[.slice v.ao v.an v.ac] W (GivesB attrs W)) :
  Calls Tryz.prog 40 #[v.val] w (GivesB (mayOpA v c attrs) w):=by
 have hmo:Tryz.prog.follows .mixedOrders=true:=by kernel_rfl
 have s0:InBox w v (w.alloc v.box).drew:=(InBox.new w v).drew
 by_cases h0:fieldsOf v.k=[]
 ·have e0:((⟨(fieldsOf v.k).toArray⟩:ByteArray).toList==(⟨#[]⟩:ByteArray).toList)=true:=by rw[h0];exact tol_yes _
  have Hr:Hid (mayOpA v c attrs=false):=hid (may_fact (.inl (by simp[h0])))
  have H0:=hid h0
  clear h0 hA
  unfold OV.val
  go_enter Tryz.func40,Tryz.ntmps40
  go_wp2_with fail
  refine wp_region_held (S:=InBox w v) hmo ?_
  change wpAnyH _ _ _ _ _ _ _ _ (World.drew _)
  refine zHp 0 (.pointer (some ⟨w.heap.size,0,none⟩)) rfl s0 ?_
  go_simp
  refine zHa 1 (.int .i64 v.k) rfl (by rintro w h;obtain⟨c0,c1,c2,c3,c4,c5,c6,-⟩:=box_all h.1;go_simp) s0 ?_
  go_simp
  refine zH1 2 rfl (fun K hK=>?_)
  go_simp
  refine (fields_any _ _).mono ?_
  rintro e W1 ⟨rfl,hb1⟩
  have s1:=s0.step hb1
  go_simp
  refine hK _ _ ⟨s1,?_⟩
  clear hK K
  refine zHa 3 (.bool true) rfl (by rintro w h;obtain⟨c0,c1,c2,c3,c4,c5,c6,-⟩:=box_all h.1;go_simp;exact H0.out) s1 ?_
  go_simp
  refine zHp 4 (.bool true) rfl s1 ?_
  go_simp
  refine zHo 5 rfl s1 ?_
  go_simp
  refine zHo 6 rfl s1 ?_
  go_simp
  refine zHo 7 rfl s1 ?_
  go_simp
  refine zHo 8 rfl s1 ?_
  go_simp
  refine zHo 9 rfl s1 ?_
  go_simp
  refine zHp 10 (.bool true) rfl s1 ?_
  go_simp
  refine zHp 11 (.bool true) rfl s1 ?_
  go_simp
  refine zHo 12 rfl s1 ?_
  go_simp
  refine zHo 13 rfl s1 ?_
  go_simp
  refine zHo 14 rfl s1 ?_
  go_simp
  refine zHo 15 rfl s1 ?_
  go_simp
  refine zHp 16 (.bool true) rfl s1 ?_
  go_simp
  refine zHp 17 (.bool true) rfl s1 ?_
  go_simp
  refine zHo 18 rfl s1 ?_
  go_simp
  refine zHo 19 rfl s1 ?_
  go_simp
  refine zHo 20 rfl s1 ?_
  go_simp
  refine zHo 21 rfl s1 ?_
  go_simp
  refine zHp 22 (.bool true) rfl s1 ?_
  go_simp
  refine zHp 23 (.bool true) rfl s1 ?_
  go_simp
  refine zHo 24 rfl s1 ?_
  go_simp
  refine zHo 25 rfl s1 ?_
  go_simp
  refine zHo 26 rfl s1 ?_
  go_simp
  refine zHo 27 rfl s1 ?_
  go_simp
  refine zHp 28 (.bool true) rfl s1 ?_
  go_simp
  refine zHp 29 (.bool true) rfl s1 ?_
  go_simp
  refine zHo 30 rfl s1 ?_
  go_simp
  refine zHo 31 rfl s1 ?_
  go_simp
  refine zHo 32 rfl s1 ?_
  go_simp
  refine zHo 33 rfl s1 ?_
  go_simp
  refine zHp 34 (.bool true) rfl s1 ?_
  go_simp
  refine wpAnyH_done (by kernel_rfl) ?_ _
  go_wp2_with fail
  go_ret
  exact⟨by rw[Hr.out];rfl,s1.2⟩
 have e0:((⟨(fieldsOf v.k).toArray⟩:ByteArray).toList==(⟨#[]⟩:ByteArray).toList)=false:=tol_no (fun e=>h0 (by have:=congrArg (fun b:ByteArray=>b.data.toList) e;simpa using this))
 have H0:=hid h0
 clear h0
 by_cases h1:sameOp v c (keepL (fieldsOf v.k) v) (keepC (fieldsOf v.k) c)=false
 ·have H1:=hid h1
  have Hr:Hid (mayOpA v c attrs=false):=hid (may_fact (.inr (.inl H1.out)))
  clear h1 hA
  unfold OV.val
  go_enter Tryz.func40,Tryz.ntmps40
  go_wp2_with fail
  refine wp_region_held (S:=InBox w v) hmo ?_
  change wpAnyH _ _ _ _ _ _ _ _ (World.drew _)
  refine zHp 0 (.pointer (some ⟨w.heap.size,0,none⟩)) rfl s0 ?_
  go_simp
  refine zHa 1 (.int .i64 v.k) rfl (by rintro w h;obtain⟨c0,c1,c2,c3,c4,c5,c6,-⟩:=box_all h.1;go_simp) s0 ?_
  go_simp
  refine zH1 2 rfl (fun K hK=>?_)
  go_simp
  refine (fields_any _ _).mono ?_
  rintro e W1 ⟨rfl,hb1⟩
  have s1:=s0.step hb1
  go_simp
  refine hK _ _ ⟨s1,?_⟩
  clear hK K
  refine zHa 3 (.bool false) rfl (by rintro w h;obtain⟨c0,c1,c2,c3,c4,c5,c6,-⟩:=box_all h.1;go_simp;exact H0.out) s1 ?_
  go_simp
  refine zHp 4 (.bool false) rfl s1 ?_
  go_simp
  refine zHa 5 (.agg #[.int .i64 v.k,.string v.name,.string v.to,.slice v.ao v.an v.ac,.slice v.bo v.bn v.bc,.slice v.co v.cn v.cc,.int .i64 v.n]) rfl (by rintro w h;obtain⟨c0,c1,c2,c3,c4,c5,c6,-⟩:=box_all h.1;go_simp) s1 ?_
  go_simp
  refine zHa 6 (.agg #[.int .i64 v.k,.string v.name,.string v.to,.slice v.ao v.an v.ac,.slice v.bo v.bn v.bc,.slice v.co v.cn v.cc,.int .i64 v.n]) rfl (by rintro w h;obtain⟨c0,c1,c2,c3,c4,c5,c6,-⟩:=box_all h.1;go_simp) s1 ?_
  go_simp
  refine zH1 7 rfl (fun K hK=>?_)
  go_simp
  refine (bare_any v _).mono ?_
  rintro e W2 ⟨rfl,hb2⟩
  have s2:=s1.step hb2
  have o2:=s2.at_ ho
  obtain⟨u,hu⟩:∃u,keepL (fieldsOf v.k) v=u:=⟨_,rfl⟩
  have p2:OpAt W2 u (keepC (fieldsOf v.k) c):=hu▸keep_at o2 _
  have Hs2:Hid (sameOp v c u (keepC (fieldsOf v.k) c)=false):=hid (hu▸H1.out)
  rw[hu]
  clear hu o2
  go_simp
  refine hK _ _ ⟨s2,?_⟩
  clear hK K
  refine zH1 8 rfl (fun K hK=>?_)
  go_simp
  refine (sameOp_any v u c (keepC (fieldsOf v.k) c) _ (s2.at_ ho) p2).mono ?_
  rintro e W3 ⟨rfl,hb3⟩
  rw[Hs2.out]
  have s3:=s2.step hb3
  go_simp
  refine hK _ _ ⟨s3,?_⟩
  clear hK K
  refine zHa 9 (.bool true) rfl (by rintro w h;obtain⟨c0,c1,c2,c3,c4,c5,c6,-⟩:=box_all h.1;go_simp) s3 ?_
  go_simp
  refine zHp 10 (.bool true) rfl s3 ?_
  go_simp
  refine zHp 11 (.bool true) rfl s3 ?_
  go_simp
  refine zHo 12 rfl s3 ?_
  go_simp
  refine zHo 13 rfl s3 ?_
  go_simp
  refine zHo 14 rfl s3 ?_
  go_simp
  refine zHo 15 rfl s3 ?_
  go_simp
  refine zHp 16 (.bool true) rfl s3 ?_
  go_simp
  refine zHp 17 (.bool true) rfl s3 ?_
  go_simp
  refine zHo 18 rfl s3 ?_
  go_simp
  refine zHo 19 rfl s3 ?_
  go_simp
  refine zHo 20 rfl s3 ?_
  go_simp
  refine zHo 21 rfl s3 ?_
  go_simp
  refine zHp 22 (.bool true) rfl s3 ?_
  go_simp
  refine zHp 23 (.bool true) rfl s3 ?_
  go_simp
  refine zHo 24 rfl s3 ?_
  go_simp
  refine zHo 25 rfl s3 ?_
  go_simp
  refine zHo 26 rfl s3 ?_
  go_simp
  refine zHo 27 rfl s3 ?_
  go_simp
  refine zHp 28 (.bool true) rfl s3 ?_
  go_simp
  refine zHp 29 (.bool true) rfl s3 ?_
  go_simp
  refine zHo 30 rfl s3 ?_
  go_simp
  refine zHo 31 rfl s3 ?_
  go_simp
  refine zHo 32 rfl s3 ?_
  go_simp
  refine zHo 33 rfl s3 ?_
  go_simp
  refine zHp 34 (.bool true) rfl s3 ?_
  go_simp
  refine wpAnyH_done (by kernel_rfl) ?_ _
  go_wp2_with fail
  go_ret
  exact⟨by rw[Hr.out];rfl,s3.2⟩
 replace h1:sameOp v c (keepL (fieldsOf v.k) v) (keepC (fieldsOf v.k) c)=true:=by simpa using h1
 have H1:Hid (sameOp v c (keepL (fieldsOf v.k) v) (keepC (fieldsOf v.k) c)=true):=hid h1
 clear h1
 by_cases h2:(!mayName v.name)=true
 ·have H2:=hid h2
  have Hr:Hid (mayOpA v c attrs=false):=hid (may_fact (.inr (.inr (.inl (by simpa using H2.out)))))
  clear h2 hA
  unfold OV.val
  go_enter Tryz.func40,Tryz.ntmps40
  go_wp2_with fail
  refine wp_region_held (S:=InBox w v) hmo ?_
  change wpAnyH _ _ _ _ _ _ _ _ (World.drew _)
  refine zHp 0 (.pointer (some ⟨w.heap.size,0,none⟩)) rfl s0 ?_
  go_simp
  refine zHa 1 (.int .i64 v.k) rfl (by rintro w h;obtain⟨c0,c1,c2,c3,c4,c5,c6,-⟩:=box_all h.1;go_simp) s0 ?_
  go_simp
  refine zH1 2 rfl (fun K hK=>?_)
  go_simp
  refine (fields_any _ _).mono ?_
  rintro e W1 ⟨rfl,hb1⟩
  have s1:=s0.step hb1
  go_simp
  refine hK _ _ ⟨s1,?_⟩
  clear hK K
  refine zHa 3 (.bool false) rfl (by rintro w h;obtain⟨c0,c1,c2,c3,c4,c5,c6,-⟩:=box_all h.1;go_simp;exact H0.out) s1 ?_
  go_simp
  refine zHp 4 (.bool false) rfl s1 ?_
  go_simp
  refine zHa 5 (.agg #[.int .i64 v.k,.string v.name,.string v.to,.slice v.ao v.an v.ac,.slice v.bo v.bn v.bc,.slice v.co v.cn v.cc,.int .i64 v.n]) rfl (by rintro w h;obtain⟨c0,c1,c2,c3,c4,c5,c6,-⟩:=box_all h.1;go_simp) s1 ?_
  go_simp
  refine zHa 6 (.agg #[.int .i64 v.k,.string v.name,.string v.to,.slice v.ao v.an v.ac,.slice v.bo v.bn v.bc,.slice v.co v.cn v.cc,.int .i64 v.n]) rfl (by rintro w h;obtain⟨c0,c1,c2,c3,c4,c5,c6,-⟩:=box_all h.1;go_simp) s1 ?_
  go_simp
  refine zH1 7 rfl (fun K hK=>?_)
  go_simp
  refine (bare_any v _).mono ?_
  rintro e W2 ⟨rfl,hb2⟩
  have s2:=s1.step hb2
  have o2:=s2.at_ ho
  obtain⟨u,hu⟩:∃u,keepL (fieldsOf v.k) v=u:=⟨_,rfl⟩
  have p2:OpAt W2 u (keepC (fieldsOf v.k) c):=hu▸keep_at o2 _
  have Hs2:Hid (sameOp v c u (keepC (fieldsOf v.k) c)=true):=hid (hu▸H1.out)
  rw[hu]
  clear hu o2
  go_simp
  refine hK _ _ ⟨s2,?_⟩
  clear hK K
  refine zH1 8 rfl (fun K hK=>?_)
  go_simp
  refine (sameOp_any v u c (keepC (fieldsOf v.k) c) _ (s2.at_ ho) p2).mono ?_
  rintro e W3 ⟨rfl,hb3⟩
  rw[Hs2.out]
  have s3:=s2.step hb3
  go_simp
  refine hK _ _ ⟨s3,?_⟩
  clear hK K
  refine zHa 9 (.bool false) rfl (by rintro w h;obtain⟨c0,c1,c2,c3,c4,c5,c6,-⟩:=box_all h.1;go_simp) s3 ?_
  go_simp
  refine zHp 10 (.bool false) rfl s3 ?_
  go_simp
  refine zHp 11 (.bool false) rfl s3 ?_
  go_simp
  refine zHp 12 (.func (.func 73) #[] #[]) rfl s3 ?_
  go_simp
  refine zHp 13 (.pointer (some ⟨w.heap.size,1,none⟩)) rfl s3 ?_
  go_simp
  refine zHa 14 (.string v.name) rfl (by rintro w h;obtain⟨c0,c1,c2,c3,c4,c5,c6,-⟩:=box_all h.1;go_simp) s3 ?_
  go_simp
  refine zH1 15 rfl (fun K hK=>?_)
  go_simp
  refine (odd_any _ _).mono ?_
  rintro e W4 ⟨rfl,hb4⟩
  rw[H2.out]
  have s4:=s3.step hb4
  go_simp
  refine hK _ _ ⟨s4,?_⟩
  clear hK K
  refine zHp 16 (.bool true) rfl s4 ?_
  go_simp
  refine zHp 17 (.bool true) rfl s4 ?_
  go_simp
  refine zHo 18 rfl s4 ?_
  go_simp
  refine zHo 19 rfl s4 ?_
  go_simp
  refine zHo 20 rfl s4 ?_
  go_simp
  refine zHo 21 rfl s4 ?_
  go_simp
  refine zHp 22 (.bool true) rfl s4 ?_
  go_simp
  refine zHp 23 (.bool true) rfl s4 ?_
  go_simp
  refine zHo 24 rfl s4 ?_
  go_simp
  refine zHo 25 rfl s4 ?_
  go_simp
  refine zHo 26 rfl s4 ?_
  go_simp
  refine zHo 27 rfl s4 ?_
  go_simp
  refine zHp 28 (.bool true) rfl s4 ?_
  go_simp
  refine zHp 29 (.bool true) rfl s4 ?_
  go_simp
  refine zHo 30 rfl s4 ?_
  go_simp
  refine zHo 31 rfl s4 ?_
  go_simp
  refine zHo 32 rfl s4 ?_
  go_simp
  refine zHo 33 rfl s4 ?_
  go_simp
  refine zHp 34 (.bool true) rfl s4 ?_
  go_simp
  refine wpAnyH_done (by kernel_rfl) ?_ _
  go_wp2_with fail
  go_ret
  exact⟨by rw[Hr.out];rfl,s4.2⟩
 replace h2:(!mayName v.name)=false:=by simpa using h2
 have H2:Hid ((!mayName v.name)=false):=hid h2
 clear h2
 by_cases h3:(!mayName v.to)=true
 ·have H3:=hid h3
  have Hr:Hid (mayOpA v c attrs=false):=hid (may_fact (.inr (.inr (.inr (.inl (by simpa using H3.out))))))
  clear h3 hA
  unfold OV.val
  go_enter Tryz.func40,Tryz.ntmps40
  go_wp2_with fail
  refine wp_region_held (S:=InBox w v) hmo ?_
  change wpAnyH _ _ _ _ _ _ _ _ (World.drew _)
  refine zHp 0 (.pointer (some ⟨w.heap.size,0,none⟩)) rfl s0 ?_
  go_simp
  refine zHa 1 (.int .i64 v.k) rfl (by rintro w h;obtain⟨c0,c1,c2,c3,c4,c5,c6,-⟩:=box_all h.1;go_simp) s0 ?_
  go_simp
  refine zH1 2 rfl (fun K hK=>?_)
  go_simp
  refine (fields_any _ _).mono ?_
  rintro e W1 ⟨rfl,hb1⟩
  have s1:=s0.step hb1
  go_simp
  refine hK _ _ ⟨s1,?_⟩
  clear hK K
  refine zHa 3 (.bool false) rfl (by rintro w h;obtain⟨c0,c1,c2,c3,c4,c5,c6,-⟩:=box_all h.1;go_simp;exact H0.out) s1 ?_
  go_simp
  refine zHp 4 (.bool false) rfl s1 ?_
  go_simp
  refine zHa 5 (.agg #[.int .i64 v.k,.string v.name,.string v.to,.slice v.ao v.an v.ac,.slice v.bo v.bn v.bc,.slice v.co v.cn v.cc,.int .i64 v.n]) rfl (by rintro w h;obtain⟨c0,c1,c2,c3,c4,c5,c6,-⟩:=box_all h.1;go_simp) s1 ?_
  go_simp
  refine zHa 6 (.agg #[.int .i64 v.k,.string v.name,.string v.to,.slice v.ao v.an v.ac,.slice v.bo v.bn v.bc,.slice v.co v.cn v.cc,.int .i64 v.n]) rfl (by rintro w h;obtain⟨c0,c1,c2,c3,c4,c5,c6,-⟩:=box_all h.1;go_simp) s1 ?_
  go_simp
  refine zH1 7 rfl (fun K hK=>?_)
  go_simp
  refine (bare_any v _).mono ?_
  rintro e W2 ⟨rfl,hb2⟩
  have s2:=s1.step hb2
  have o2:=s2.at_ ho
  obtain⟨u,hu⟩:∃u,keepL (fieldsOf v.k) v=u:=⟨_,rfl⟩
  have p2:OpAt W2 u (keepC (fieldsOf v.k) c):=hu▸keep_at o2 _
  have Hs2:Hid (sameOp v c u (keepC (fieldsOf v.k) c)=true):=hid (hu▸H1.out)
  rw[hu]
  clear hu o2
  go_simp
  refine hK _ _ ⟨s2,?_⟩
  clear hK K
  refine zH1 8 rfl (fun K hK=>?_)
  go_simp
  refine (sameOp_any v u c (keepC (fieldsOf v.k) c) _ (s2.at_ ho) p2).mono ?_
  rintro e W3 ⟨rfl,hb3⟩
  rw[Hs2.out]
  have s3:=s2.step hb3
  go_simp
  refine hK _ _ ⟨s3,?_⟩
  clear hK K
  refine zHa 9 (.bool false) rfl (by rintro w h;obtain⟨c0,c1,c2,c3,c4,c5,c6,-⟩:=box_all h.1;go_simp) s3 ?_
  go_simp
  refine zHp 10 (.bool false) rfl s3 ?_
  go_simp
  refine zHp 11 (.bool false) rfl s3 ?_
  go_simp
  refine zHp 12 (.func (.func 73) #[] #[]) rfl s3 ?_
  go_simp
  refine zHp 13 (.pointer (some ⟨w.heap.size,1,none⟩)) rfl s3 ?_
  go_simp
  refine zHa 14 (.string v.name) rfl (by rintro w h;obtain⟨c0,c1,c2,c3,c4,c5,c6,-⟩:=box_all h.1;go_simp) s3 ?_
  go_simp
  refine zH1 15 rfl (fun K hK=>?_)
  go_simp
  refine (odd_any _ _).mono ?_
  rintro e W4 ⟨rfl,hb4⟩
  rw[H2.out]
  have s4:=s3.step hb4
  go_simp
  refine hK _ _ ⟨s4,?_⟩
  clear hK K
  refine zHp 16 (.bool false) rfl s4 ?_
  go_simp
  refine zHp 17 (.bool false) rfl s4 ?_
  go_simp
  refine zHp 18 (.func (.func 73) #[] #[]) rfl s4 ?_
  go_simp
  refine zHp 19 (.pointer (some ⟨w.heap.size,2,none⟩)) rfl s4 ?_
  go_simp
  refine zHa 20 (.string v.to) rfl (by rintro w h;obtain⟨c0,c1,c2,c3,c4,c5,c6,-⟩:=box_all h.1;go_simp) s4 ?_
  go_simp
  refine zH1 21 rfl (fun K hK=>?_)
  go_simp
  refine (odd_any _ _).mono ?_
  rintro e W5 ⟨rfl,hb5⟩
  rw[H3.out]
  have s5:=s4.step hb5
  go_simp
  refine hK _ _ ⟨s5,?_⟩
  clear hK K
  refine zHp 22 (.bool true) rfl s5 ?_
  go_simp
  refine zHp 23 (.bool true) rfl s5 ?_
  go_simp
  refine zHo 24 rfl s5 ?_
  go_simp
  refine zHo 25 rfl s5 ?_
  go_simp
  refine zHo 26 rfl s5 ?_
  go_simp
  refine zHo 27 rfl s5 ?_
  go_simp
  refine zHp 28 (.bool true) rfl s5 ?_
  go_simp
  refine zHp 29 (.bool true) rfl s5 ?_
  go_simp
  refine zHo 30 rfl s5 ?_
  go_simp
  refine zHo 31 rfl s5 ?_
  go_simp
  refine zHo 32 rfl s5 ?_
  go_simp
  refine zHo 33 rfl s5 ?_
  go_simp
  refine zHp 34 (.bool true) rfl s5 ?_
  go_simp
  refine wpAnyH_done (by kernel_rfl) ?_ _
  go_wp2_with fail
  go_ret
  exact⟨by rw[Hr.out];rfl,s5.2⟩
 replace h3:(!mayName v.to)=false:=by simpa using h3
 have H3:Hid ((!mayName v.to)=false):=hid h3
 clear h3
 by_cases h4:decide (50<(v.an:Int))=true
 ·have f4:=h4
  have Hr:Hid (mayOpA v c attrs=false):=hid (may_fact (.inr (.inr (.inr (.inr (.inl (decide_eq_false (by have:=of_decide_eq_true f4;omega))))))))
  clear h4 hA
  unfold OV.val
  go_enter Tryz.func40,Tryz.ntmps40
  go_wp2_with fail
  refine wp_region_held (S:=InBox w v) hmo ?_
  change wpAnyH _ _ _ _ _ _ _ _ (World.drew _)
  refine zHp 0 (.pointer (some ⟨w.heap.size,0,none⟩)) rfl s0 ?_
  go_simp
  refine zHa 1 (.int .i64 v.k) rfl (by rintro w h;obtain⟨c0,c1,c2,c3,c4,c5,c6,-⟩:=box_all h.1;go_simp) s0 ?_
  go_simp
  refine zH1 2 rfl (fun K hK=>?_)
  go_simp
  refine (fields_any _ _).mono ?_
  rintro e W1 ⟨rfl,hb1⟩
  have s1:=s0.step hb1
  go_simp
  refine hK _ _ ⟨s1,?_⟩
  clear hK K
  refine zHa 3 (.bool false) rfl (by rintro w h;obtain⟨c0,c1,c2,c3,c4,c5,c6,-⟩:=box_all h.1;go_simp;exact H0.out) s1 ?_
  go_simp
  refine zHp 4 (.bool false) rfl s1 ?_
  go_simp
  refine zHa 5 (.agg #[.int .i64 v.k,.string v.name,.string v.to,.slice v.ao v.an v.ac,.slice v.bo v.bn v.bc,.slice v.co v.cn v.cc,.int .i64 v.n]) rfl (by rintro w h;obtain⟨c0,c1,c2,c3,c4,c5,c6,-⟩:=box_all h.1;go_simp) s1 ?_
  go_simp
  refine zHa 6 (.agg #[.int .i64 v.k,.string v.name,.string v.to,.slice v.ao v.an v.ac,.slice v.bo v.bn v.bc,.slice v.co v.cn v.cc,.int .i64 v.n]) rfl (by rintro w h;obtain⟨c0,c1,c2,c3,c4,c5,c6,-⟩:=box_all h.1;go_simp) s1 ?_
  go_simp
  refine zH1 7 rfl (fun K hK=>?_)
  go_simp
  refine (bare_any v _).mono ?_
  rintro e W2 ⟨rfl,hb2⟩
  have s2:=s1.step hb2
  have o2:=s2.at_ ho
  obtain⟨u,hu⟩:∃u,keepL (fieldsOf v.k) v=u:=⟨_,rfl⟩
  have p2:OpAt W2 u (keepC (fieldsOf v.k) c):=hu▸keep_at o2 _
  have Hs2:Hid (sameOp v c u (keepC (fieldsOf v.k) c)=true):=hid (hu▸H1.out)
  rw[hu]
  clear hu o2
  go_simp
  refine hK _ _ ⟨s2,?_⟩
  clear hK K
  refine zH1 8 rfl (fun K hK=>?_)
  go_simp
  refine (sameOp_any v u c (keepC (fieldsOf v.k) c) _ (s2.at_ ho) p2).mono ?_
  rintro e W3 ⟨rfl,hb3⟩
  rw[Hs2.out]
  have s3:=s2.step hb3
  go_simp
  refine hK _ _ ⟨s3,?_⟩
  clear hK K
  refine zHa 9 (.bool false) rfl (by rintro w h;obtain⟨c0,c1,c2,c3,c4,c5,c6,-⟩:=box_all h.1;go_simp) s3 ?_
  go_simp
  refine zHp 10 (.bool false) rfl s3 ?_
  go_simp
  refine zHp 11 (.bool false) rfl s3 ?_
  go_simp
  refine zHp 12 (.func (.func 73) #[] #[]) rfl s3 ?_
  go_simp
  refine zHp 13 (.pointer (some ⟨w.heap.size,1,none⟩)) rfl s3 ?_
  go_simp
  refine zHa 14 (.string v.name) rfl (by rintro w h;obtain⟨c0,c1,c2,c3,c4,c5,c6,-⟩:=box_all h.1;go_simp) s3 ?_
  go_simp
  refine zH1 15 rfl (fun K hK=>?_)
  go_simp
  refine (odd_any _ _).mono ?_
  rintro e W4 ⟨rfl,hb4⟩
  rw[H2.out]
  have s4:=s3.step hb4
  go_simp
  refine hK _ _ ⟨s4,?_⟩
  clear hK K
  refine zHp 16 (.bool false) rfl s4 ?_
  go_simp
  refine zHp 17 (.bool false) rfl s4 ?_
  go_simp
  refine zHp 18 (.func (.func 73) #[] #[]) rfl s4 ?_
  go_simp
  refine zHp 19 (.pointer (some ⟨w.heap.size,2,none⟩)) rfl s4 ?_
  go_simp
  refine zHa 20 (.string v.to) rfl (by rintro w h;obtain⟨c0,c1,c2,c3,c4,c5,c6,-⟩:=box_all h.1;go_simp) s4 ?_
  go_simp
  refine zH1 21 rfl (fun K hK=>?_)
  go_simp
  refine (odd_any _ _).mono ?_
  rintro e W5 ⟨rfl,hb5⟩
  rw[H3.out]
  have s5:=s4.step hb5
  go_simp
  refine hK _ _ ⟨s5,?_⟩
  clear hK K
  refine zHp 22 (.bool false) rfl s5 ?_
  go_simp
  refine zHp 23 (.bool false) rfl s5 ?_
  go_simp
  refine zHp 24 (.pointer (some ⟨w.heap.size,3,none⟩)) rfl s5 ?_
  go_simp
  refine zHa 25 (.slice v.ao v.an v.ac) rfl (by rintro w h;obtain⟨c0,c1,c2,c3,c4,c5,c6,-⟩:=box_all h.1;go_simp) s5 ?_
  go_simp
  refine zHa 26 (.int .i64 (v.an:Int)) rfl (by rintro w h;obtain⟨c0,c1,c2,c3,c4,c5,c6,-⟩:=box_all h.1;go_simp) s5 ?_
  go_simp
  refine zHa 27 (.bool true) rfl (by rintro w h;obtain⟨c0,c1,c2,c3,c4,c5,c6,-⟩:=box_all h.1;go_simp) s5 ?_
  go_simp
  refine zHp 28 (.bool true) rfl s5 ?_
  go_simp
  refine zHp 29 (.bool true) rfl s5 ?_
  go_simp
  refine zHo 30 rfl s5 ?_
  go_simp
  refine zHo 31 rfl s5 ?_
  go_simp
  refine zHo 32 rfl s5 ?_
  go_simp
  refine zHo 33 rfl s5 ?_
  go_simp
  refine zHp 34 (.bool true) rfl s5 ?_
  go_simp
  refine wpAnyH_done (by kernel_rfl) ?_ _
  go_wp2_with fail
  go_ret
  exact⟨by rw[Hr.out];rfl,s5.2⟩
 have f4:decide (50<(v.an:Int))=false:=by cases e:decide (50<(v.an:Int)) with | true=>exact absurd e h4 | false=>rfl
 clear h4
 by_cases h5:(c.attrs.any fun u=>!mayAttr u)=true
 ·have H5:=hid h5
  have Hr:Hid (mayOpA v c attrs=false):=hid (may_fact (.inr (.inr (.inr (.inr (.inr H5.out))))))
  clear h5 hA
  unfold OV.val
  go_enter Tryz.func40,Tryz.ntmps40
  go_wp2_with fail
  refine wp_region_held (S:=InBox w v) hmo ?_
  change wpAnyH _ _ _ _ _ _ _ _ (World.drew _)
  refine zHp 0 (.pointer (some ⟨w.heap.size,0,none⟩)) rfl s0 ?_
  go_simp
  refine zHa 1 (.int .i64 v.k) rfl (by rintro w h;obtain⟨c0,c1,c2,c3,c4,c5,c6,-⟩:=box_all h.1;go_simp) s0 ?_
  go_simp
  refine zH1 2 rfl (fun K hK=>?_)
  go_simp
  refine (fields_any _ _).mono ?_
  rintro e W1 ⟨rfl,hb1⟩
  have s1:=s0.step hb1
  go_simp
  refine hK _ _ ⟨s1,?_⟩
  clear hK K
  refine zHa 3 (.bool false) rfl (by rintro w h;obtain⟨c0,c1,c2,c3,c4,c5,c6,-⟩:=box_all h.1;go_simp;exact H0.out) s1 ?_
  go_simp
  refine zHp 4 (.bool false) rfl s1 ?_
  go_simp
  refine zHa 5 (.agg #[.int .i64 v.k,.string v.name,.string v.to,.slice v.ao v.an v.ac,.slice v.bo v.bn v.bc,.slice v.co v.cn v.cc,.int .i64 v.n]) rfl (by rintro w h;obtain⟨c0,c1,c2,c3,c4,c5,c6,-⟩:=box_all h.1;go_simp) s1 ?_
  go_simp
  refine zHa 6 (.agg #[.int .i64 v.k,.string v.name,.string v.to,.slice v.ao v.an v.ac,.slice v.bo v.bn v.bc,.slice v.co v.cn v.cc,.int .i64 v.n]) rfl (by rintro w h;obtain⟨c0,c1,c2,c3,c4,c5,c6,-⟩:=box_all h.1;go_simp) s1 ?_
  go_simp
  refine zH1 7 rfl (fun K hK=>?_)
  go_simp
  refine (bare_any v _).mono ?_
  rintro e W2 ⟨rfl,hb2⟩
  have s2:=s1.step hb2
  have o2:=s2.at_ ho
  obtain⟨u,hu⟩:∃u,keepL (fieldsOf v.k) v=u:=⟨_,rfl⟩
  have p2:OpAt W2 u (keepC (fieldsOf v.k) c):=hu▸keep_at o2 _
  have Hs2:Hid (sameOp v c u (keepC (fieldsOf v.k) c)=true):=hid (hu▸H1.out)
  rw[hu]
  clear hu o2
  go_simp
  refine hK _ _ ⟨s2,?_⟩
  clear hK K
  refine zH1 8 rfl (fun K hK=>?_)
  go_simp
  refine (sameOp_any v u c (keepC (fieldsOf v.k) c) _ (s2.at_ ho) p2).mono ?_
  rintro e W3 ⟨rfl,hb3⟩
  rw[Hs2.out]
  have s3:=s2.step hb3
  go_simp
  refine hK _ _ ⟨s3,?_⟩
  clear hK K
  refine zHa 9 (.bool false) rfl (by rintro w h;obtain⟨c0,c1,c2,c3,c4,c5,c6,-⟩:=box_all h.1;go_simp) s3 ?_
  go_simp
  refine zHp 10 (.bool false) rfl s3 ?_
  go_simp
  refine zHp 11 (.bool false) rfl s3 ?_
  go_simp
  refine zHp 12 (.func (.func 73) #[] #[]) rfl s3 ?_
  go_simp
  refine zHp 13 (.pointer (some ⟨w.heap.size,1,none⟩)) rfl s3 ?_
  go_simp
  refine zHa 14 (.string v.name) rfl (by rintro w h;obtain⟨c0,c1,c2,c3,c4,c5,c6,-⟩:=box_all h.1;go_simp) s3 ?_
  go_simp
  refine zH1 15 rfl (fun K hK=>?_)
  go_simp
  refine (odd_any _ _).mono ?_
  rintro e W4 ⟨rfl,hb4⟩
  rw[H2.out]
  have s4:=s3.step hb4
  go_simp
  refine hK _ _ ⟨s4,?_⟩
  clear hK K
  refine zHp 16 (.bool false) rfl s4 ?_
  go_simp
  refine zHp 17 (.bool false) rfl s4 ?_
  go_simp
  refine zHp 18 (.func (.func 73) #[] #[]) rfl s4 ?_
  go_simp
  refine zHp 19 (.pointer (some ⟨w.heap.size,2,none⟩)) rfl s4 ?_
  go_simp
  refine zHa 20 (.string v.to) rfl (by rintro w h;obtain⟨c0,c1,c2,c3,c4,c5,c6,-⟩:=box_all h.1;go_simp) s4 ?_
  go_simp
  refine zH1 21 rfl (fun K hK=>?_)
  go_simp
  refine (odd_any _ _).mono ?_
  rintro e W5 ⟨rfl,hb5⟩
  rw[H3.out]
  have s5:=s4.step hb5
  go_simp
  refine hK _ _ ⟨s5,?_⟩
  clear hK K
  refine zHp 22 (.bool false) rfl s5 ?_
  go_simp
  refine zHp 23 (.bool false) rfl s5 ?_
  go_simp
  refine zHp 24 (.pointer (some ⟨w.heap.size,3,none⟩)) rfl s5 ?_
  go_simp
  refine zHa 25 (.slice v.ao v.an v.ac) rfl (by rintro w h;obtain⟨c0,c1,c2,c3,c4,c5,c6,-⟩:=box_all h.1;go_simp) s5 ?_
  go_simp
  refine zHa 26 (.int .i64 (v.an:Int)) rfl (by rintro w h;obtain⟨c0,c1,c2,c3,c4,c5,c6,-⟩:=box_all h.1;go_simp) s5 ?_
  go_simp
  refine zHa 27 (.bool false) rfl (by rintro w h;obtain⟨c0,c1,c2,c3,c4,c5,c6,-⟩:=box_all h.1;go_simp) s5 ?_
  go_simp
  refine zHp 28 (.bool false) rfl s5 ?_
  go_simp
  refine zHp 29 (.bool false) rfl s5 ?_
  go_simp
  refine zHp 30 (.pointer (some ⟨w.heap.size,3,none⟩)) rfl s5 ?_
  go_simp
  refine zHa 31 (.slice v.ao v.an v.ac) rfl (by rintro w h;obtain⟨c0,c1,c2,c3,c4,c5,c6,-⟩:=box_all h.1;go_simp) s5 ?_
  go_simp
  refine zHp 32 (.func (.func 71) #[] #[]) rfl s5 ?_
  go_simp
  refine zH1 33 rfl (fun K hK=>?_)
  go_simp
  refine (contains_att _ _ _ c.attrs _ (s5.at_ ho).a).mono ?_
  rintro e W6 ⟨rfl,hb6⟩
  rw[H5.out]
  have s6:=s5.step hb6
  go_simp
  refine hK _ _ ⟨s6,?_⟩
  clear hK K
  refine zHp 34 (.bool true) rfl s6 ?_
  go_simp
  refine wpAnyH_done (by kernel_rfl) ?_ _
  go_wp2_with fail
  go_ret
  exact⟨by rw[Hr.out];rfl,s6.2⟩
 replace h5:(c.attrs.any fun u=>!mayAttr u)=false:=by simpa using h5
 have H5:Hid ((c.attrs.any fun u=>!mayAttr u)=false):=hid h5
 clear h5
 have Hr:Hid (mayOpA v c attrs=restOp v c attrs):=hid (by have:=of_decide_eq_false f4;have h2:=H2.out;have h3:=H3.out;simp only[Bool.not_eq_false'] at h2 h3;unfold mayOpA;rw[H1.out,h2,h3,H5.out,decide_eq_true H0.out,decide_eq_true (by omega)];simp)
 unfold OV.val
 go_enter Tryz.func40,Tryz.ntmps40
 go_wp2_with fail
 refine wp_region_held (S:=InBox w v) hmo ?_
 change wpAnyH _ _ _ _ _ _ _ _ (World.drew _)
 refine zHp 0 (.pointer (some ⟨w.heap.size,0,none⟩)) rfl s0 ?_
 go_simp
 refine zHa 1 (.int .i64 v.k) rfl (by rintro w h;obtain⟨c0,c1,c2,c3,c4,c5,c6,-⟩:=box_all h.1;go_simp) s0 ?_
 go_simp
 refine zH1 2 rfl (fun K hK=>?_)
 go_simp
 refine (fields_any _ _).mono ?_
 rintro e W1 ⟨rfl,hb1⟩
 have s1:=s0.step hb1
 go_simp
 refine hK _ _ ⟨s1,?_⟩
 clear hK K
 refine zHa 3 (.bool false) rfl (by rintro w h;obtain⟨c0,c1,c2,c3,c4,c5,c6,-⟩:=box_all h.1;go_simp;exact H0.out) s1 ?_
 go_simp
 refine zHp 4 (.bool false) rfl s1 ?_
 go_simp
 refine zHa 5 (.agg #[.int .i64 v.k,.string v.name,.string v.to,.slice v.ao v.an v.ac,.slice v.bo v.bn v.bc,.slice v.co v.cn v.cc,.int .i64 v.n]) rfl (by rintro w h;obtain⟨c0,c1,c2,c3,c4,c5,c6,-⟩:=box_all h.1;go_simp) s1 ?_
 go_simp
 refine zHa 6 (.agg #[.int .i64 v.k,.string v.name,.string v.to,.slice v.ao v.an v.ac,.slice v.bo v.bn v.bc,.slice v.co v.cn v.cc,.int .i64 v.n]) rfl (by rintro w h;obtain⟨c0,c1,c2,c3,c4,c5,c6,-⟩:=box_all h.1;go_simp) s1 ?_
 go_simp
 refine zH1 7 rfl (fun K hK=>?_)
 go_simp
 refine (bare_any v _).mono ?_
 rintro e W2 ⟨rfl,hb2⟩
 have s2:=s1.step hb2
 have o2:=s2.at_ ho
 obtain⟨u,hu⟩:∃u,keepL (fieldsOf v.k) v=u:=⟨_,rfl⟩
 have p2:OpAt W2 u (keepC (fieldsOf v.k) c):=hu▸keep_at o2 _
 have Hs2:Hid (sameOp v c u (keepC (fieldsOf v.k) c)=true):=hid (hu▸H1.out)
 rw[hu]
 clear hu o2
 go_simp
 refine hK _ _ ⟨s2,?_⟩
 clear hK K
 refine zH1 8 rfl (fun K hK=>?_)
 go_simp
 refine (sameOp_any v u c (keepC (fieldsOf v.k) c) _ (s2.at_ ho) p2).mono ?_
 rintro e W3 ⟨rfl,hb3⟩
 rw[Hs2.out]
 have s3:=s2.step hb3
 go_simp
 refine hK _ _ ⟨s3,?_⟩
 clear hK K
 refine zHa 9 (.bool false) rfl (by rintro w h;obtain⟨c0,c1,c2,c3,c4,c5,c6,-⟩:=box_all h.1;go_simp) s3 ?_
 go_simp
 refine zHp 10 (.bool false) rfl s3 ?_
 go_simp
 refine zHp 11 (.bool false) rfl s3 ?_
 go_simp
 refine zHp 12 (.func (.func 73) #[] #[]) rfl s3 ?_
 go_simp
 refine zHp 13 (.pointer (some ⟨w.heap.size,1,none⟩)) rfl s3 ?_
 go_simp
 refine zHa 14 (.string v.name) rfl (by rintro w h;obtain⟨c0,c1,c2,c3,c4,c5,c6,-⟩:=box_all h.1;go_simp) s3 ?_
 go_simp
 refine zH1 15 rfl (fun K hK=>?_)
 go_simp
 refine (odd_any _ _).mono ?_
 rintro e W4 ⟨rfl,hb4⟩
 rw[H2.out]
 have s4:=s3.step hb4
 go_simp
 refine hK _ _ ⟨s4,?_⟩
 clear hK K
 refine zHp 16 (.bool false) rfl s4 ?_
 go_simp
 refine zHp 17 (.bool false) rfl s4 ?_
 go_simp
 refine zHp 18 (.func (.func 73) #[] #[]) rfl s4 ?_
 go_simp
 refine zHp 19 (.pointer (some ⟨w.heap.size,2,none⟩)) rfl s4 ?_
 go_simp
 refine zHa 20 (.string v.to) rfl (by rintro w h;obtain⟨c0,c1,c2,c3,c4,c5,c6,-⟩:=box_all h.1;go_simp) s4 ?_
 go_simp
 refine zH1 21 rfl (fun K hK=>?_)
 go_simp
 refine (odd_any _ _).mono ?_
 rintro e W5 ⟨rfl,hb5⟩
 rw[H3.out]
 have s5:=s4.step hb5
 go_simp
 refine hK _ _ ⟨s5,?_⟩
 clear hK K
 refine zHp 22 (.bool false) rfl s5 ?_
 go_simp
 refine zHp 23 (.bool false) rfl s5 ?_
 go_simp
 refine zHp 24 (.pointer (some ⟨w.heap.size,3,none⟩)) rfl s5 ?_
 go_simp
 refine zHa 25 (.slice v.ao v.an v.ac) rfl (by rintro w h;obtain⟨c0,c1,c2,c3,c4,c5,c6,-⟩:=box_all h.1;go_simp) s5 ?_
 go_simp
 refine zHa 26 (.int .i64 (v.an:Int)) rfl (by rintro w h;obtain⟨c0,c1,c2,c3,c4,c5,c6,-⟩:=box_all h.1;go_simp) s5 ?_
 go_simp
 refine zHa 27 (.bool false) rfl (by rintro w h;obtain⟨c0,c1,c2,c3,c4,c5,c6,-⟩:=box_all h.1;go_simp) s5 ?_
 go_simp
 refine zHp 28 (.bool false) rfl s5 ?_
 go_simp
 refine zHp 29 (.bool false) rfl s5 ?_
 go_simp
 refine zHp 30 (.pointer (some ⟨w.heap.size,3,none⟩)) rfl s5 ?_
 go_simp
 refine zHa 31 (.slice v.ao v.an v.ac) rfl (by rintro w h;obtain⟨c0,c1,c2,c3,c4,c5,c6,-⟩:=box_all h.1;go_simp) s5 ?_
 go_simp
 refine zHp 32 (.func (.func 71) #[] #[]) rfl s5 ?_
 go_simp
 refine zH1 33 rfl (fun K hK=>?_)
 go_simp
 refine (contains_att _ _ _ c.attrs _ (s5.at_ ho).a).mono ?_
 rintro e W6 ⟨rfl,hb6⟩
 rw[H5.out]
 have s6:=s5.step hb6
 go_simp
 refine hK _ _ ⟨s6,?_⟩
 clear hK K
 refine zHp 34 (.bool false) rfl s6 ?_
 go_simp
 refine wpAnyH_done (by kernel_rfl) ?_ _
 obtain⟨c0,c1,c2,c3,c4,c5,c6,-⟩:=box_all s6.1
 by_cases hk1:v.k=1
 ·have f1:(v.k==1)=true:=by simp[hk1]
  have Hs:Hid (mayOpA v c attrs=attrs):=hid (by rw[Hr.out];simp[restOp,hk1])
  have hc:=hA hk1 _ (s6.at_ ho)
  clear hk1 hA
  go_wp2_with fail
  refine hc.mono ?_
  rintro e W7 ⟨rfl,hb7⟩
  have s7:=s6.step hb7
  go_wp2_with fail
  go_ret
  exact⟨by rw[Hs.out];rfl,s7.2⟩
 have f1:(v.k==1)=false:=by simp[hk1]
 by_cases hk5:v.k=5
 ·have f2:(v.k==5)=true:=by simp[hk5]
  have Hs:Hid (mayOpA v c attrs=((v.an:Int)==1)):=hid (by rw[Hr.out];unfold restOp;rw[if_neg hk1,if_pos hk5,Bool.eq_iff_iff];simp;omega)
  clear hk1 hk5 hA
  go_wp2_with fail
  go_ret
  exact⟨by rw[Hs.out];rfl,s6.2⟩
 have f2:(v.k==5)=false:=by simp[hk5]
 have Hs:Hid (mayOpA v c attrs=(decide (v.bn≤8)&&!(c.parts.any fun u=>!mayName u)&&decide (v.cn≤4000)&&decide (0≤v.n)&&decide (v.n≤1000))):=hid (by rw[Hr.out];unfold restOp;rw[if_neg hk1,if_neg hk5])
 clear hk1 hk5 hA Hr
 by_cases hb:v.bn≤8
 ·have f3:decide ((v.bn:Int)≤8)=true:=decide_eq_true (by omega)
  go_wp2_with fail
  refine (contains_txt _ _ _ c.parts _ (s6.at_ ho).b).mono ?_
  rintro e W7 ⟨rfl,hb7⟩
  have s7:=s6.step hb7
  clear c0 c1 c2 c3 c4 c5 c6
  obtain⟨c0,c1,c2,c3,c4,c5,c6,-⟩:=box_all s7.1
  by_cases hp:(c.parts.any fun u=>!mayName u)=true
  ·have Hs2:Hid (mayOpA v c attrs=false):=hid (by rw[Hs.out,hp];simp)
   rw[hp]
   clear Hs hp hb
   go_wp2_with fail
   go_ret
   exact⟨by rw[Hs2.out];rfl,s7.2⟩
  have hp2:(c.parts.any fun u=>!mayName u)=false:=by simpa using hp
  have Hs2:Hid (mayOpA v c attrs=(decide (v.cn≤4000)&&decide (0≤v.n)&&decide (v.n≤1000))):=hid (by rw[Hs.out,hp2,decide_eq_true hb];simp)
  rw[hp2]
  clear Hs hp hp2 hb
  by_cases hc:v.cn≤4000
  ·have f4:decide ((v.cn:Int)≤4000)=true:=decide_eq_true (by omega)
   by_cases h0:0≤v.n
   ·have f5:decide (0≤v.n)=true:=decide_eq_true h0
    have Hs3:Hid (mayOpA v c attrs=decide (v.n≤1000)):=hid (by rw[Hs2.out,decide_eq_true hc,f5];simp)
    clear Hs2 hc h0
    go_wp2_with fail
    go_ret
    exact⟨by rw[Hs3.out];rfl,s7.2⟩
   have f5:decide (0≤v.n)=false:=decide_eq_false h0
   have Hs3:Hid (mayOpA v c attrs=false):=hid (by rw[Hs2.out,f5];simp)
   clear Hs2 hc h0
   go_wp2_with fail
   go_ret
   exact⟨by rw[Hs3.out];rfl,s7.2⟩
  have f4:decide ((v.cn:Int)≤4000)=false:=decide_eq_false (by omega)
  have Hs3:Hid (mayOpA v c attrs=false):=hid (by rw[Hs2.out,decide_eq_false hc];simp)
  clear Hs2 hc
  go_wp2_with fail
  go_ret
  exact⟨by rw[Hs3.out];rfl,s7.2⟩
 have f3:decide ((v.bn:Int)≤8)=false:=decide_eq_false (by omega)
 have Hs2:Hid (mayOpA v c attrs=false):=hid (by rw[Hs.out,decide_eq_false hb];simp)
 clear Hs hb
 go_wp2_with fail
 go_ret
 exact⟨by rw[Hs2.out];rfl,s6.2⟩
end Go.Proofs.YtfmmandlmbcncaaGreatDoor.Msg
namespace Go.Proofs.YtfmmandlmbcncaaGreatDoor.Msg
open Go.RowKit Go.Lib Go.Proofs.YtfmmandlmbcncaaGreatDoor.Mem
theorem rd_set {W:World}{size:Nat}{ao:Option Addr}{n cap:Nat}{xs:List Value}(h:Rd W size ao n cap xs)(p:Addr)(x:Value)(hd:∀a,ao=some a→a.block≠p.block):Rd (W.setCell p x) size ao n cap xs:=by
 obtain⟨h1,h2,h3,h4,h5⟩:=h
 refine⟨h1,h2,h3,h4,fun h0 a ha=>?_⟩
 obtain⟨s,l,c⟩:=h5 h0 a ha
 exact⟨s,by simpa using l,fun j u hu=>(World.cell?_of_block (a:=⟨a.block,a.off+j,none⟩) (Below.heap_setCell W p x _ (hd a ha))).trans (c j u hu)⟩
end Go.Proofs.YtfmmandlmbcncaaGreatDoor.Msg
