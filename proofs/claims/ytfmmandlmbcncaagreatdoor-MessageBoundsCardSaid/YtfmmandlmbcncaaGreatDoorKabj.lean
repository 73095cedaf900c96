/-
  A part of the proof.
-/
import Derived.Test.YtfmmandlmbcncaaGreatDoorKabi
set_option maxHeartbeats 40000000
namespace Go.Proofs.YtfmmandlmbcncaaGreatDoor.Msg
open Go.RowKit Go.Lib Go.Proofs.YtfmmandlmbcncaaGreatDoor.Mem Go.Proofs.YtfmmandlmbcncaaGreatDoor.Tlv
theorem bareQ_at (W:World)(k:Int):QAt W (bareQ k) ⟨[],[]⟩:=⟨⟨Rd.nil _ _,fun _ hp=>absurd hp List.not_mem_nil⟩,Rd.nil _ _,Nat.zero_le _⟩
def ShortQ (c:QC):Prop:=(∀p∈c.ents,mayEntry p.1 p.2=true)→(entsB c.ents).length≤4194304
theorem mayRes_zero {v:QV}{c:QC}(h:v.code=0)(hl:ShortQ c):mayRes v c=!(decide (1000<v.en)||(c.ents.any fun u=>!mayEntry u.1 u.2)||decide (4000<v.cn)):=by
 unfold mayRes
 rw[if_pos h]
 cases ha:(c.ents.any fun u=>!mayEntry u.1 u.2) with
 | true=>simp
 | false=>
  have hall:∀p∈c.ents,mayEntry p.1 p.2=true:=fun p hp=>by
   have:=List.any_eq_false.1 ha p hp
   simpa using this
  rw[decide_eq_true (hl hall),Bool.and_true]
set_option maxRecDepth 100000 in
theorem mayRes_any (v:QV)(c:QC)(w:World)(h:QAt w v c)(hlen:ShortQ c):Calls Tryz.prog 106 #[v.val] w (GivesB (mayRes v c) w):=by
 have hb0:Below w.heap.size w (w.alloc v.box):=(Below.refl _ _).alloc (Nat.le_refl _) _
 have k0:(w.alloc v.box).heap[w.heap.size]?=some v.box:=by show (w.heap.push _)[w.heap.size]?=some _;exact Array.getElem?_push_size
 unfold QV.box QV.cells at hb0 k0
 unfold QV.val QV.cells
 by_cases hc0:v.code=0
 case neg=>
  have f1:(v.code==0)=false:=by simp[hc0]
  have g1:(v.code != 0)=true:=by simp[hc0]
  have HM:Hid (mayRes v c=(decide (0<v.code)&&decide (v.code≤14)&&sameRes v c (bareQ v.code) ⟨[],[]⟩)):=hid (by unfold mayRes;rw[if_neg hc0])
  clear hc0
  go_enter Tryz.func106,Tryz.ntmps106
  go_upto_region 1 with fail
  generalize hg:w.alloc _=W0 at *
  have q0:W0.heap[w.heap.size]?=some v.box:=k0
  clear hg k0
  obtain⟨c0,c1,c2,c3,-⟩:=qbox_all q0
  by_cases h1:0<v.code
  ·have f2:decide (0<v.code)=true:=decide_eq_true h1
   have H1:=hid h1
   clear h1
   by_cases h2:v.code≤14
   ·have f3:decide (v.code≤14)=true:=decide_eq_true h2
    have H2:=hid h2
    clear h2
    have hs:=sameRes_any v (bareQ v.code) c ⟨[],[]⟩ W0 (h.later hb0) (bareQ_at _ _)
    unfold QV.val QV.cells bareQ at hs
    dsimp only at hs
    go_wp2_with fail
    refine hs.mono ?_
    rintro e W1 ⟨rfl,hb1⟩
    go_wp2_with fail
    go_ret
    exact⟨by rw[HM.out,decide_eq_true H1.out,decide_eq_true H2.out];simp only[Bool.true_and];rfl,hb0.trans (hb1.mono hb0.size)⟩
   have f3:decide (v.code≤14)=false:=decide_eq_false h2
   have H2:=hid h2
   clear h2
   go_wp2_with fail
   go_ret
   exact⟨by rw[HM.out,decide_eq_false (by have:=H2.out;omega:¬v.code≤14)];simp,hb0⟩
  have f2:decide (0<v.code)=false:=decide_eq_false h1
  have H1:=hid h1
  clear h1
  go_wp2_with fail
  go_ret
  exact⟨by rw[HM.out,decide_eq_false (by have:=H1.out;omega:¬0<v.code)];simp,hb0⟩
 have f1:(v.code==0)=true:=by simp[hc0]
 have g1:(v.code != 0)=false:=by simp[hc0]
 have HM:Hid (mayRes v c=!(decide (1000<v.en)||(c.ents.any fun u=>!mayEntry u.1 u.2)||decide (4000<v.cn))):=hid (mayRes_zero hc0 hlen)
 have HC:=hid hc0
 clear hc0
 go_enter Tryz.func106,Tryz.ntmps106
 go_upto_region 1 with fail
 generalize hg:w.alloc _=W0 at *
 have q0:W0.heap[w.heap.size]?=some v.box:=k0
 clear hg k0
 obtain⟨c0,c1,c2,c3,-⟩:=qbox_all q0
 by_cases hn:1000<v.en
 case pos=>
  have f2:decide ((1000:Int)<(v.en:Int))=true:=decide_eq_true (by omega)
  have HN:=hid hn
  clear hn
  go_wp2_with fail
  go_ret
  exact⟨by rw[HM.out,decide_eq_true HN.out];simp,hb0⟩
 have f2:decide ((1000:Int)<(v.en:Int))=false:=decide_eq_false (by omega)
 have HN:=hid hn
 clear hn
 go_wp2_with fail
 refine (contains_ent v.eo v.en v.ec c.ents W0 (h.later hb0).e).mono ?_
 rintro e W1 ⟨rfl,hb1⟩
 have q1:=(hb1.block _ (Array.getElem?_eq_some_iff.1 q0).1).trans q0
 have hbel:=hb0.trans (hb1.mono hb0.size)
 clear c0 c1 c2 c3
 obtain⟨c0,c1,c2,c3,-⟩:=qbox_all q1
 cases ha:(c.ents.any fun u=>!mayEntry u.1 u.2) with
 | true=>
  have HA:=hid ha
  clear ha
  go_wp2_with fail
  go_ret
  exact⟨by rw[HM.out,HA.out];simp,hbel⟩
 | false=>
  have HA:=hid ha
  clear ha
  by_cases hcn:4000<v.cn
  ·have f3:decide ((4000:Int)<(v.cn:Int))=true:=decide_eq_true (by omega)
   have HK:=hid hcn
   clear hcn
   go_wp2_with fail
   go_ret
   exact⟨by rw[HM.out,decide_eq_true HK.out];simp,hbel⟩
  have f3:decide ((4000:Int)<(v.cn:Int))=false:=decide_eq_false (by omega)
  have HK:=hid hcn
  have hrb:=resBytes_any v c W1 (h.later hbel) (by rw[HC.out];decide) (by rw[HC.out];decide) (by have:=HN.out;omega) (fun p hp=>by
   have:=List.any_eq_false.1 HA.out p hp
   simpa using this) (hlen (fun p hp=>by
   have:=List.any_eq_false.1 HA.out p hp
   simpa using this)) (by omega)
  unfold QV.val QV.cells at hrb
  clear hcn
  go_wp2_with (refine wpList_load_row q1 rfl rfl rfl (by kernel_rfl) (by kernel_rfl) ?_;go_simp)
  refine hrb.mono ?_
  rintro e W2 ⟨a2,x2,rfl,-,hb2,-⟩
  go_wp2_with fail
  go_ret
  exact⟨by rw[HM.out,HA.out,decide_eq_false (by have:=HK.out;omega:¬4000<v.cn),decide_eq_false (by have:=HN.out;omega:¬1000<v.en)];rfl,hbel.trans (hb2.mono hbel.size)⟩
end Go.Proofs.YtfmmandlmbcncaaGreatDoor.Msg
