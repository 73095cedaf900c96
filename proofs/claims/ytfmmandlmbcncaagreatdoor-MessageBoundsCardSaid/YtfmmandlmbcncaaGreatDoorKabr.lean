/-
  A part of the proof.
-/
import Derived.Test.YtfmmandlmbcncaaGreatDoorKabq
import Derived.Test.YtfmmandlmbcncaaGreatDoorKabo
set_option maxHeartbeats 40000000
namespace Go.Proofs.YtfmmandlmbcncaaGreatDoor.Msg
open Go.RowKit Go.Lib Go.Proofs.YtfmmandlmbcncaaGreatDoor.Mem Go.Proofs.YtfmmandlmbcncaaGreatDoor.Tlv
structure WlLoop (w:World)(m:MV)(b n t0 t1 t2 t3 t4 t5 t6 t7:Nat)(L:List FV)(k:Nat)(wr:World):Prop where
 bel:Below w.heap.size w wr
 msg:wr.heap[w.heap.size]?=some m.box
 bare:wr.heap[w.heap.size+1]?=some (keptM ((L.take k).map FV.l) m).box
 row:Rd wr 4 (some ⟨b,0,none⟩) L.length n (fV L)
 all:AllAt t0 t1 t2 t3 t4 t5 t6 t7 wr
set_option maxRecDepth 100000 in
theorem well_any (m:MV)(c:MC)(w:World)(h:MAt w m c)(hs:ShortQ c.rs):Calls Tryz.prog 60 #[m.val] w (GivesB (wellM m c) w):=by
 have hb0:Below w.heap.size w (w.alloc m.box):=(Below.refl _ _).alloc (Nat.le_refl _) _
 have k0:(w.alloc m.box).heap[w.heap.size]?=some m.box:=by show (w.heap.push _)[w.heap.size]?=some _;exact Array.getElem?_push_size
 have z0:(w.alloc m.box).heap.size=w.heap.size+1:=by simp
 unfold MV.box MV.cells at hb0 k0 z0
 unfold MV.val MV.cells
 go_enter Tryz.func60,Tryz.ntmps60
 go_upto_region 1 with fail
 generalize hg:w.alloc _=W0 at *
 have q0:W0.heap[w.heap.size]?=some m.box:=k0
 have HZ:=hid z0
 clear hg k0 z0
 have c0:=(McAt.of q0).c0
 go_upto_region 2 with (refine wpList_store_new rfl rfl rfl rfl (by kernel_rfl) rfl (by kernel_rfl) ?_;go_simp)
 generalize hg:W0.alloc _=W1
 have z0:=HZ.out
 have e1:W0.alloc (bareM m.k).box=W1:=hg
 have hb1':Below W0.heap.size W0 W1:=by rw[←e1];exact (Below.refl _ _).alloc (Nat.le_refl _) _
 have p1:W1.heap[W0.heap.size]?=some (bareM m.k).box:=by rw[←e1];show (W0.heap.push _)[W0.heap.size]?=some _;exact Array.getElem?_push_size
 have q1:=mbox_step q0 hb1'
 have hb1:=hb0.trans (hb1'.mono hb0.size)
 rw[z0] at p1
 rw[z0]
 clear hg e1 hb1' q0 c0 z0 HZ
 have c0:=(McAt.of q1).c0
 have c25:=(McAt.of q1).c25
 go_wp2_with fail
 refine (of_any m.k m.wh W1).mono ?_
 rintro e W2 ⟨b,t0,t1,t2,t3,t4,t5,t6,t7,ln,n,rfl,hln,hrow,hall,hb2⟩
 obtain⟨L,hL⟩:∃L,ofL m.k m.wh t0 t1 t2 t3 t4 t5 t6 t7=L:=⟨_,rfl⟩
 have hmem:∀f∈L,f∈allL t0 t1 t2 t3 t4 t5 t6 t7:=fun f hf=>ofL_mem (by rw[hL];exact hf)
 have hlet:L.map FV.l=lettersOf m.k m.wh:=by rw[←hL];exact ofL_letters _ _ _ _ _ _ _ _ _ _
 rw[hL] at hrow hln
 subst hln
 have HLet:=hid hlet
 have s0:WlLoop w m b n t0 t1 t2 t3 t4 t5 t6 t7 L 0 W2:=⟨hb1.trans (hb2.mono hb1.size),mbox_step q1 hb2,mbox_step p1 hb2,hrow,hall⟩
 clear hL hlet hrow hall hb2 q1 p1 c0 c25 hb1
 have hLn:L.length≤1000:=by
  have:=congrArg List.length HLet.out
  rw[List.length_map] at this
  have h2:(lettersOf m.k m.wh).length≤allX.length:=List.length_filter_le _ _
  have h3:allX.length=15:=rfl
  omega
 go_wp2_with fail
 go_loopw [17] (fun p wr=>∃k:Nat,k≤L.length∧p=.int .i64 (k:Int)∧WlLoop w m b n t0 t1 t2 t3 t4 t5 t6 t7 L k wr) (fun p _=>L.length-(intOf p).toNat)
 case atStart=>exact⟨0,Nat.zero_le _,rfl,s0⟩
 case round=>
  obtain⟨k,hk,rfl,hW⟩:=hrel
  clear s0
  by_cases hkn:k<L.length
  ·obtain⟨f,hf⟩:∃f,L[k]?=some f:=⟨_,List.getElem?_eq_getElem hkn⟩
   have hfm:=hmem f (List.mem_of_getElem? hf)
   obtain⟨kf,kc,hK⟩:=keep_all f hfm
   obtain⟨o1,o2,o3⟩:=allL_hone _ _ _ _ _ _ _ _ f hfm
   have hrg:=f_range hW.row hf
   have hn1:L.take (k+1)=L.take k++[f]:=by rw[List.take_add_one,hf];rfl
   have HN:=hid hn1
   obtain⟨fl,fk,fp,ft⟩:=f
   obtain⟨he,hen,hcl⟩:=hK
   dsimp only at he hcl o1 o2 o3
   subst he
   have hone:(#[.int .i32 fl,.func (.func kf) #[] kc,fp,ft]:Array Value).all (·.oneCell')=true:=by simp[Value.oneCell'] at o2 o3 ⊢;exact⟨o2,o3⟩
   unfold FV.cells at hrg
   dsimp only at hrg
   have i0:(0:Int)≤(k:Int):=by omega
   have i1:(k:Int)<(L.length:Int):=by omega
   have hne:=fields_ne hW.row (by omega) hW.bare
   have hcap:=hW.row.le
   have hlt:b<wr.heap.size:=(hW.row.2.2.2.2 (by omega) _ rfl).2.1
   clear hn1 hf hfm
   go_upto_region 6 with (first | (refine wpList_load_at (ty:=171) hrg rfl rfl rfl (by kernel_rfl) (by kernel_rfl) ?_;go_simp) | (refine wpList_store_new rfl rfl rfl rfl (by kernel_rfl) rfl hone ?_;go_simp))
   generalize hg:wr.alloc _=W3
   have e3:wr.alloc (FV.box ⟨fl,.func (.func kf) #[] kc,fp,ft⟩)=W3:=hg
   have hb3:Below wr.heap.size wr W3:=by rw[←e3];exact (Below.refl _ _).alloc (Nat.le_refl _) _
   have k3:W3.heap[wr.heap.size]?=some (FV.box ⟨fl,.func (.func kf) #[] kc,fp,ft⟩):=by rw[←e3];show (wr.heap.push _)[wr.heap.size]?=some _;exact Array.getElem?_push_size
   obtain⟨d0,d1,d2,d3,-⟩:=fbox_all k3
   dsimp only at d0 d1 d2 d3
   have p3:=mbox_step hW.bare hb3
   have hcall:=hcl (w.heap.size+1) (w.heap.size+1) w.heap.size _ m W3 (hW.all.later hb3) p3 (mbox_step hW.msg hb3) (Nat.le_refl _)
   have hn2:decide ((b:Nat)=w.heap.size+1)=false:=decide_eq_false hne
   clear hg e3 hrg hone o1 o2 o3 hcl hn2
   go_wp2_with fail
   refine hcall.mono ?_
   rintro e W4 ⟨rfl,h4,ho4⟩
   have hW4:WlLoop w m b n t0 t1 t2 t3 t4 t5 t6 t7 L (k+1) W4:=by
    refine⟨(hW.bel.trans (hb3.mono hW.bel.size)).trans (ho4.bel.mono (Nat.le_succ _)),?_,?_,?_,(hW.all.later hb3).othM p3 ho4⟩
    ·exact (ho4.oth _ (Array.getElem?_eq_some_iff.1 (mbox_step hW.msg hb3)).1 (by omega)).trans (mbox_step hW.msg hb3)
    ·rw[HN.out,List.map_append,List.map_singleton,keptM_snoc];exact h4
    exact rd_oth (hW.row.later hb3) ho4 (fun a ha=>by cases ha;exact hne)
   clear d0 d1 d2 d3 k3 p3 hcall h4 ho4 hb3 hW
   go_wp2_with fail
   go_roundw
   case rel=>exact⟨k+1,by omega,by go_num,hW4⟩
   case measure=>simp[intOf];omega
  obtain rfl:k=L.length:=by omega
  have hfull:L.take L.length=L:=List.take_length
  have hbare:=hW.bare
  rw[hfull,HLet.out] at hbare
  have hbel:=hW.bel
  have hmsg:=hW.msg
  have hM:=h.later hbel
  have hMk:=kept_at hM (lettersOf m.k m.wh)
  obtain⟨mk,hmk⟩:∃x,keptM (lettersOf m.k m.wh) m=x:=⟨_,rfl⟩
  obtain⟨ck,hck⟩:∃x,keptC (lettersOf m.k m.wh) c=x:=⟨_,rfl⟩
  rw[hmk] at hbare
  rw[hmk,hck] at hMk
  have HMk:=hid hmk
  have HCk:=hid hck
  clear hmk hck
  have hlenL:L.length=(lettersOf m.k m.wh).length:=by rw[←HLet.out,List.length_map]
  clear hfull hW hkn hk hmem
  have c0:=(McAt.of hmsg).c0
  have c3:=(McAt.of hmsg).c3
  have c22:=(McAt.of hmsg).c22
  have c23:=(McAt.of hmsg).c23
  have c26:=(McAt.of hmsg).c26
  obtain⟨Wb,hWb⟩:∃x,x=wr:=⟨wr,rfl⟩
  subst hWb
  by_cases hls:lettersOf m.k m.wh=[]
  ·have f0:((L.length:Int)==0)=true:=by rw[hlenL,hls];rfl
   have HN:Hid (wellM m c=false):=hid (by unfold wellM;rw[decide_eq_false (by simp[hls])];rfl)
   clear hls hlenL
   go_wp2_with fail
   go_ret
   exact⟨by rw[HN.out];rfl,hbel⟩
  have f0:((L.length:Int)==0)=false:=by
   rw[beq_eq_false_iff_ne]
   have:0<(lettersOf m.k m.wh).length:=List.length_pos_iff.2 hls
   omega
  have HNe:=hid hls
  have hsame:=pSame_any m mk c ck Wb hM hMk
  unfold MV.val MV.cells at hsame
  unfold MV.box MV.cells at hbare hmsg
  clear hls hlenL
  go_wp2_with (first | (refine wpList_load_row (ty:=59) hmsg rfl rfl rfl (by kernel_rfl) (by kernel_rfl) ?_;go_simp) | (refine wpList_load_row (ty:=59) hbare rfl rfl rfl (by kernel_rfl) (by kernel_rfl) ?_;go_simp))
  refine hsame.mono ?_
  rintro e W5 ⟨rfl,hb5⟩
  have q5:W5.heap[w.heap.size]?=some m.box:=mbox_step hmsg hb5
  have bel5:=hbel.trans (hb5.mono hbel.size)
  clear hsame c0 c3 c22 c23 c26 hbare hmsg hM hMk hbel hb5
  have c0:=(McAt.of q5).c0
  have c3:=(McAt.of q5).c3
  have c22:=(McAt.of q5).c22
  have c23:=(McAt.of q5).c23
  have c26:=(McAt.of q5).c26
  cases hsm:sameMsg m c mk ck with
  | false=>
   have HN:Hid (wellM m c=false):=hid (by unfold wellM;rw[HMk.out,HCk.out,hsm];simp)
   clear hsm
   go_wp2_with fail
   go_ret
   exact⟨by rw[HN.out];rfl,bel5⟩
  | true=>
   have HS:=hid hsm
   clear hsm
   by_cases h1:m.fr<0
   ·have f1:decide (m.fr<0)=true:=decide_eq_true h1
    have HN:Hid (wellM m c=false):=hid (by unfold wellM;rw[decide_eq_false (show ¬0≤m.fr by omega)];simp)
    clear h1
    go_wp2_with fail
    go_ret
    exact⟨by rw[HN.out];rfl,bel5⟩
   have f1:decide (m.fr<0)=false:=decide_eq_false h1
   by_cases h2:7≤m.fr
   ·have f2:decide (7≤m.fr)=true:=decide_eq_true h2
    have HN:Hid (wellM m c=false):=hid (by unfold wellM;rw[decide_eq_false (show ¬m.fr<7 by omega)];simp)
    clear h1 h2
    go_wp2_with fail
    go_ret
    exact⟨by rw[HN.out];rfl,bel5⟩
   have f2:decide (7≤m.fr)=false:=decide_eq_false h2
   by_cases h3:4096<m.ln
   ·have f3:decide ((4096:Int)<(m.ln:Int))=true:=decide_eq_true (by omega)
    have HN:Hid (wellM m c=false):=hid (by unfold wellM;rw[decide_eq_false (show ¬m.ln≤4096 by omega)];simp)
    clear h1 h2 h3
    go_wp2_with fail
    go_ret
    exact⟨by rw[HN.out];rfl,bel5⟩
   have f3:decide ((4096:Int)<(m.ln:Int))=false:=decide_eq_false (by omega)
   by_cases h4:4194304<m.sn
   ·have f4:decide ((4194304:Int)<(m.sn:Int))=true:=decide_eq_true (by omega)
    have HN:Hid (wellM m c=false):=hid (by unfold wellM;rw[decide_eq_false (show ¬m.sn≤4194304 by omega)];simp)
    clear h1 h2 h3 h4
    go_wp2_with fail
    go_ret
    exact⟨by rw[HN.out];rfl,bel5⟩
   have f4:decide ((4194304:Int)<(m.sn:Int))=false:=decide_eq_false (by omega)
   by_cases h5:7<m.hn
   ·have f5:decide ((7:Int)<(m.hn:Int))=true:=decide_eq_true (by omega)
    have HN:Hid (wellM m c=false):=hid (by unfold wellM;rw[decide_eq_false (show ¬m.hn≤7 by omega)];simp)
    clear h1 h2 h3 h4 h5
    go_wp2_with fail
    go_ret
    exact⟨by rw[HN.out];rfl,bel5⟩
   have f5:decide ((7:Int)<(m.hn:Int))=false:=decide_eq_false (by omega)
   have HW:Hid (wellM m c=(!(c.log.any fun u=>!mayOp u.1.op u.2)&&(if m.k=1∨m.k=3 then mayOp m.rq.op c.rq else if m.k=2 then mayRes m.rs c.rs else true))):=hid (by
    unfold wellM
    rw[decide_eq_true HNe.out,HMk.out,HCk.out,HS.out,decide_eq_true (show 0≤m.fr by omega),decide_eq_true (show m.fr<7 by omega),decide_eq_true (show m.ln≤4096 by omega),decide_eq_true (show m.sn≤4194304 by omega),decide_eq_true (show m.hn≤7 by omega)]
    simp only[Bool.true_and])
   clear h1 h2 h3 h4 h5
   have hM5:=h.later bel5
   go_wp2_with fail
   refine (contains_req m.lo m.ln m.lc c.log W5 hM5.lg).mono ?_
   rintro e W6 ⟨rfl,hb6⟩
   have q6:=mbox_step q5 hb6
   have bel6:=bel5.trans (hb6.mono bel5.size)
   have hM6:=h.later bel6
   clear c0 c3 c22 c23 c26 q5 hM5 hb6 bel5 f0 f1 f2 f3 f4 f5
   cases ha:(c.log.any fun u=>!mayOp u.1.op u.2) with
   | true=>
    have HN:Hid (wellM m c=false):=hid (by rw[HW.out,ha];rfl)
    clear ha
    go_wp2_with fail
    go_ret
    exact⟨by rw[HN.out];rfl,bel6⟩
   | false=>
    have HW2:Hid (wellM m c=(if m.k=1∨m.k=3 then mayOp m.rq.op c.rq else if m.k=2 then mayRes m.rs c.rs else true)):=hid (by rw[HW.out,ha];rfl)
    clear ha
    have c0:=(McAt.of q6).c0
    have hq:=(McAt.of q6).q
    have hr:=(McAt.of q6).r
    unfold RV.cells at hq
    unfold QV.cells at hr
    by_cases h13:m.k=1∨m.k=3
    ·have HW3:Hid (wellM m c=mayOp m.rq.op c.rq):=hid (by rw[HW2.out,if_pos h13])
     have hc:=mayReq_any m.rq c.rq (mayOp m.rq.op c.rq) _ W6 hM6.rq (opC_all W6 m.rq.op c.rq hM6.rq)
     unfold RV.val RV.cells at hc
     rcases h13 with h13 | h13
     ·have f6:(m.k==1)=true:=by simp[h13]
      clear h13
      go_wp2_with (refine wpList_load_at (ty:=55) hq rfl rfl rfl (by kernel_rfl) (by kernel_rfl) ?_;go_simp)
      refine hc.mono ?_
      rintro e W7 ⟨rfl,hb7⟩
      go_wp2_with fail
      go_ret
      exact⟨by rw[HW3.out];rfl,bel6.trans (hb7.mono bel6.size)⟩
     have f6:(m.k==1)=false:=by simp[h13]
     have f7:(m.k==3)=true:=by simp[h13]
     clear h13
     go_wp2_with (refine wpList_load_at (ty:=55) hq rfl rfl rfl (by kernel_rfl) (by kernel_rfl) ?_;go_simp)
     refine hc.mono ?_
     rintro e W7 ⟨rfl,hb7⟩
     go_wp2_with fail
     go_ret
     exact⟨by rw[HW3.out];rfl,bel6.trans (hb7.mono bel6.size)⟩
    have f6:(m.k==1)=false:=by rw[beq_eq_false_iff_ne];exact fun e=>h13 (.inl e)
    have f7:(m.k==3)=false:=by rw[beq_eq_false_iff_ne];exact fun e=>h13 (.inr e)
    by_cases h2:m.k=2
    ·have f8:(m.k==2)=true:=by simp[h2]
     have HW3:Hid (wellM m c=mayRes m.rs c.rs):=hid (by rw[HW2.out,if_neg h13,if_pos h2])
     have hc:=mayRes_any m.rs c.rs W6 hM6.rs hs
     unfold QV.val QV.cells at hc
     clear h13 h2
     go_wp2_with (refine wpList_load_at (ty:=39) hr rfl rfl rfl (by kernel_rfl) (by kernel_rfl) ?_;go_simp)
     refine hc.mono ?_
     rintro e W7 ⟨rfl,hb7⟩
     go_wp2_with fail
     go_ret
     exact⟨by rw[HW3.out];rfl,bel6.trans (hb7.mono bel6.size)⟩
    have f8:(m.k==2)=false:=by simp[h2]
    have HW3:Hid (wellM m c=true):=hid (by rw[HW2.out,if_neg h13,if_neg h2])
    clear h13 h2
    go_wp2_with fail
    go_ret
    exact⟨by rw[HW3.out];rfl,bel6⟩
end Go.Proofs.YtfmmandlmbcncaaGreatDoor.Msg
