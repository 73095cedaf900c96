/-
  A part of the proof.
-/
import Derived.Test.YtgeafnggodkpaaaGreatKaaz
import Derived.Test.YtgeafnggodkpaaaGreatKaab
set_option maxHeartbeats 40000000
namespace Go.Proofs.YtgeafnggodkpaaaGreat.Msg
open Go.RowKit Go.Lib Go.Proofs.YtgeafnggodkpaaaGreat.Mem Go.Proofs.YtgeafnggodkpaaaGreat.Utf Go.Proofs.YtgeafnggodkpaaaGreat.Tlv
theorem rd_keep {W W':World}{row:Option Nat}{size:Nat}{ao:Option Addr}{n cap:Nat}{xs:List Value}(h:Rd W size ao n cap xs)(hg:W.grownBy W' row)(hd:∀a,ao=some a→some a.block≠row):Rd W' size ao n cap xs:=by
 obtain⟨h1,h2,h3,h4,h5⟩:=h
 refine⟨h1,h2,h3,h4,fun h0 a ha=>?_⟩
 obtain⟨s,l,c⟩:=h5 h0 a ha
 exact⟨s,Nat.lt_of_lt_of_le l hg.size,fun j u hu=>(World.cell?_of_block (a:=⟨a.block,a.off+j,none⟩) (hg.block _ l (hd a ha))).trans (c j u hu)⟩
theorem fresh_ne {k:Nat}{v:Value}(h:∀k',v.ownBlock=some k'→k'<k):∀a,some (⟨k,0,none⟩:Addr)=some a→some a.block≠v.ownBlock:=by
 intro a ha he
 cases ha
 have:=h k he.symm
 omega
structure ByAt (w:World)(v:OV)(W:World):Prop where
 o:W.heap[w.heap.size]?=some v.box
 bel:Below w.heap.size w W
theorem ByAt.step {w W W':World}{v:OV}(h:ByAt w v W)(hb:Below W.heap.size W W'):ByAt w v W':=⟨(hb.block _ (Array.getElem?_eq_some_iff.1 h.o).1).trans h.o,h.bel.trans (hb.mono h.bel.size)⟩
theorem ByAt.turn {w W W':World}{v:OV}{B:Nat}(h:ByAt w v W)(hb:Below B W W')(hB:w.heap.size<B):ByAt w v W':=⟨(hb.block _ hB).trans h.o,h.bel.trans (hb.mono (Nat.le_of_lt hB))⟩
set_option maxRecDepth 100000 in
theorem rOpBytes_any (v:OV)(c:OC)(w:World)(ho:OpAt w v c)(hm:mayOp v c=true):Calls Tryz.prog 17 #[v.val] w (GivesO w (opL v c)):=by
 have hmo:Tryz.prog.follows .mixedOrders=true:=by kernel_rfl
 obtain⟨hf,hg,hlet⟩:=may_parts w ho hm
 have lc:c.cursor.length=v.cn:=by have:=ho.c.1;rw[byV_len] at this;omega
 have la:c.attrs.length=v.an:=by have:=ho.a.1;rw[atV_len] at this;omega
 have lb:c.parts.length=v.bn:=by have:=ho.b.1;rw[txV_len] at this;omega
 obtain⟨kn,hkn⟩:∃n:Nat,v.k=(n:Int):=⟨v.k.toNat,by have:=hf.k0;omega⟩
 obtain⟨nn,hnn⟩:∃n:Nat,v.n=(n:Int):=⟨v.n.toNat,by have:=hf.n0;omega⟩
 have hkw:IntKind.wrap .u64 v.k=(kn:Int):=by rw[hkn,IntKind.wrap_u64];have:=hf.k8;omega
 have hnw:IntKind.wrap .u64 v.n=(nn:Int):=by rw[hnn,IntKind.wrap_u64];have:=hf.n1;omega
 have hk64:kn<18446744073709551616:=by have:=hf.k8;omega
 have hn64:nn<18446744073709551616:=by have:=hf.n1;omega
 have hmn:v.name.size≤maxLen:=by have:=hf.name;unfold maxLen;omega
 have hmt:v.to.size≤maxLen:=by have:=hf.to_;unfold maxLen;omega
 have hnN:v.name.size≤4194304:=by have:=hf.name;omega
 have hnT:v.to.size≤4194304:=by have:=hf.to_;omega
 have hnC:v.cn≤4194304:=by have:=hf.cur;omega
 have hA1:(attB c.attrs).length≤200000:=by have:=hlet 97;simp only[letV] at this;simp[val_len] at this;omega
 have hP1:(parB c.parts).length≤200000:=by have:=hlet 112;simp only[letV] at this;simp[val_len] at this;omega
 obtain⟨V1,hV1⟩:∃V1,val 1 (num8 kn)=V1:=⟨_,rfl⟩
 obtain⟨Vn,hVn⟩:∃V,val 2 v.name.data.toList=V:=⟨_,rfl⟩
 obtain⟨Vt,hVt⟩:∃V,val 3 v.to.data.toList=V:=⟨_,rfl⟩
 obtain⟨Va,hVa⟩:∃V,val 4 (attB c.attrs)=V:=⟨_,rfl⟩
 obtain⟨Vp,hVp⟩:∃V,val 5 (parB c.parts)=V:=⟨_,rfl⟩
 obtain⟨Vc,hVc⟩:∃V,val 6 c.cursor=V:=⟨_,rfl⟩
 obtain⟨Vk,hVk⟩:∃V,val 7 (num8 nn)=V:=⟨_,rfl⟩
 have l1:V1.length≤300000:=by rw[←hV1,val_len,num8_len];decide
 have ln:Vn.length≤300000:=by rw[←hVn,val_len,len_data];have:=hf.name;omega
 have lt:Vt.length≤300000:=by rw[←hVt,val_len,len_data];have:=hf.to_;omega
 have lA:Va.length≤300000:=by rw[←hVa,val_len];omega
 have lP:Vp.length≤300000:=by rw[←hVp,val_len];omega
 have lC:Vc.length≤300000:=by rw[←hVc,val_len];have:=hf.cur;omega
 have lK:Vk.length≤300000:=by rw[←hVk,val_len,num8_len];decide
 have hopl:opL v c=V1++(fieldsOf v.k).flatMap (letV v c):=by unfold opL opTo;rw[←hV1,show v.k.toNat=kn by omega]
 have e110:letV v c 110=Vn:=by rw[←hVn];rfl
 have e116:letV v c 116=Vt:=by rw[←hVt];rfl
 have e97:letV v c 97=Va:=by rw[←hVa];rfl
 have e112:letV v c 112=Vp:=by rw[←hVp];rfl
 have e99:letV v c 99=Vc:=by rw[←hVc];rfl
 have e107:letV v c 107=Vk:=by rw[←hVk,show nn=v.n.toNat by omega];rfl
 have HOP:=hid hopl
 have E110:=hid e110
 have E116:=hid e116
 have E97:=hid e97
 have E112:=hid e112
 have E99:=hid e99
 have E107:=hid e107
 have HV1:=hid hV1
 have HVn:=hid hVn
 have HVt:=hid hVt
 have HVa:=hid hVa
 have HVp:=hid hVp
 have HVc:=hid hVc
 have HVk:=hid hVk
 have hattr:=hg.attrs
 have hpart:=hg.parts
 have hanN:v.an≤1000:=by have:=hg.an;omega
 have hbnN:v.bn≤1000:=by have:=hg.bn;omega
 have hkinds:=hid (fields_kinds v.k)
 have hne:fieldsOf v.k≠[]:=by
  intro h0
  unfold mayOp mayOpA at hm
  rw[h0] at hm
  simp at hm
 have hk8:=hf.k8
 have hk0:=hf.k0
 clear hV1 hVn hVt hVa hVp hVc hVk hopl e110 e116 e97 e112 e99 e107 hkn hnn lc la lb hlet hf hg
 have hb0:Below w.heap.size w (w.alloc v.box):=(Below.refl _ _).alloc (Nat.le_refl _) _
 have k0:(w.alloc v.box).heap[w.heap.size]?=some v.box:=by show (w.heap.push _)[w.heap.size]?=some _;exact Array.getElem?_push_size
 unfold OV.box at hb0 k0
 unfold OV.val
 go_enter Tryz.func17,Tryz.ntmps17
 go_upto_region 1 with fail
 generalize hg:w.alloc _=W0 at *
 have k0f:W0.heap[w.heap.size]?=some v.box:=k0
 have sa:ByAt w v W0:=⟨k0f,hb0⟩
 clear hg k0 k0f hb0
 obtain⟨c0,-⟩:=box_all sa.o
 go_wp2_with fail
 refine (rnumber_any 1 kn W0 hk64).mono ?_
 rintro e W1 ⟨v3,rfl,x0,hb1⟩
 rw[HV1.out] at x0
 have s1:=sa.step hb1
 have hB3:w.heap.size<W0.heap.size:=(Array.getElem?_eq_some_iff.1 sa.o).1
 have z1:=hb1.size
 generalize W0.heap.size=B3 at *
 clear sa c0 hb1
 obtain⟨c0,-⟩:=box_all s1.o
 rcases hkinds.out with hf | ⟨hk,hf⟩ | ⟨hk,hf⟩ | ⟨hk,hf⟩ | ⟨hk,hf⟩ | ⟨hk,hf⟩ | ⟨hk,hf⟩ | ⟨hk,hf⟩ | ⟨hk,hf⟩
 ·exact absurd hf hne
 ·have HF:=hid hf
  have g1:(v.k==1)=true:=by rw[hk];rfl
  have g3:(v.k==3)=false:=by rw[hk];rfl
  have g5:(v.k==5)=false:=by rw[hk];rfl
  have g2:(v.k==2)=false:=by rw[hk];rfl
  have g6:(v.k==6)=false:=by rw[hk];rfl
  have g4:(v.k==4)=false:=by rw[hk];rfl
  have g7:(v.k==7)=false:=by rw[hk];rfl
  have g8:(v.k==8)=false:=by rw[hk];rfl
  clear hf hk hne hk8 hk0
  go_upto_region 6 with fail
  have hd:Below W1.heap.size W1 W1.drew:=(Below.refl _ _).drew
  have s2:=s1.step hd
  have x1:=own_later x0 hd
  have z2:=Nat.le_trans z1 hd.size
  refine wp_region_held (S:=ByAt w v) hmo ?_
  change wpAnyH _ _ _ _ _ _ _ _ (World.drew W1)
  generalize World.drew W1=W2 at *
  refine zHp 0 (v3) rfl s2 ?_
  go_simp
  refine zHp 1 (.pointer (some ⟨w.heap.size,1,none⟩)) rfl s2 ?_
  go_simp
  refine zHa 2 (.string v.name) rfl (by rintro w h;obtain⟨c0,c1,c2,c3,c4,c5,c6,-⟩:=box_all h.o;go_simp) s2 ?_
  go_simp
  refine zHp 6 (.pointer (some ⟨w.heap.size,3,none⟩)) rfl s2 ?_
  go_simp
  refine zHa 7 (.slice v.ao v.an v.ac) rfl (by rintro w h;obtain⟨c0,c1,c2,c3,c4,c5,c6,-⟩:=box_all h.o;go_simp) s2 ?_
  go_simp
  refine zH1 3 rfl (fun K hK=>?_)
  obtain⟨k3,W3,hrun,r3_3,hb3⟩:=run_txt v.name hmn W2
  go_simp
  have lx3:=own_lt x1
  have x2:=own_later x1 hb3
  have s3:=s2.step hb3
  have z3:=Nat.le_trans z2 hb3.size
  clear hrun
  refine hK _ _ ⟨s3,?_⟩
  clear hK K
  refine zH1 4 rfl (fun K hK=>?_)
  go_simp
  refine (rvalue_any 2 v.name.data.toList _ _ _ W3 hnN r3_3).mono ?_
  rintro e W4 ⟨v4,rfl,o4_4,hb4⟩
  rw[HVn.out] at o4_4
  have x3:=own_later x2 hb4
  have s4:=s3.step hb4
  have z4:=Nat.le_trans z3 hb4.size
  go_simp
  refine hK _ _ ⟨s4,?_⟩
  clear hK K
  refine zH1 5 rfl (fun K hK=>?_)
  obtain⟨ya5,yk5,e5,yr5⟩:=Rd.of_own o4_4
  subst e5
  refine step_app rfl (.tmp 14) (.tmp 18) 25 rfl B3 5 (.int .u8 0) 1 1 Tlv.byT v3 _ _ rfl x3 ya5 _ yk5 _ rfl yr5 (byV_one _) (by unfold maxLen;omega) (by omega) z4 ?_
  intro a5 k5 W5 x4 hg5 hb5 _
  have s5:=s4.turn hb5 hB3
  have z5:=Nat.le_trans z4 hb5.size
  clear hg5
  refine hK _ _ ⟨s5,?_⟩
  clear hK K
  refine zH1 8 rfl (fun K hK=>?_)
  go_simp
  refine (rAttrs_any 4 _ _ _ c.attrs W5 (ho.later s5.bel).a hanN hattr hA1).mono ?_
  rintro e W6 ⟨v8,rfl,o8_6,hb6⟩
  rw[HVa.out] at o8_6
  have x5:=own_later x4 hb6
  have s6:=s5.step hb6
  have z6:=Nat.le_trans z5 hb6.size
  go_simp
  refine hK _ _ ⟨s6,?_⟩
  clear hK K
  refine zH1 9 rfl (fun K hK=>?_)
  obtain⟨ya9,yk9,e9,yr9⟩:=Rd.of_own o8_6
  subst e9
  refine step_app rfl (.tmp 19) (.tmp 22) 25 rfl B3 5 (.int .u8 0) 1 1 Tlv.byT (.slice a5 (V1.length+Vn.length) k5) _ _ rfl x5 ya9 _ yk9 _ rfl yr9 (byV_one _) (by unfold maxLen;omega) (by omega) z6 ?_
  intro a9 k9 W7 x6 hg9 hb7 _
  have s7:=s6.turn hb7 hB3
  have z7:=Nat.le_trans z6 hb7.size
  clear hg9
  refine hK _ _ ⟨s7,?_⟩
  clear hK K
  refine zHp 10 (.slice a9 (V1.length+Vn.length+Va.length) k9) rfl s7 ?_
  go_simp
  refine wpAnyH_done (by kernel_rfl) ?_ _
  go_wp2_with fail
  go_ret
  refine⟨_,rfl,own_base ?_ (Nat.le_of_lt hB3),s7.bel⟩
  have hz:opL v c=V1++Vn++Va:=by rw[HOP.out,HF.out];simp only[List.flatMap_cons,List.flatMap_nil,List.append_nil,E110.out,E97.out,List.append_assoc]
  rw[hz]
  simp only[List.length_append,byV_app]
  exact x6
 ·have HF:=hid hf
  have g1:(v.k==1)=false:=by rw[hk];rfl
  have g3:(v.k==3)=false:=by rw[hk];rfl
  have g5:(v.k==5)=false:=by rw[hk];rfl
  have g2:(v.k==2)=true:=by rw[hk];rfl
  have g6:(v.k==6)=false:=by rw[hk];rfl
  have g4:(v.k==4)=false:=by rw[hk];rfl
  have g7:(v.k==7)=false:=by rw[hk];rfl
  have g8:(v.k==8)=false:=by rw[hk];rfl
  clear hf hk hne hk8 hk0
  obtain⟨c0,c1,c2,c3,c4,c5,c6,-⟩:=box_all s1.o
  obtain⟨k3,W2,hrun,r3,hb2⟩:=run_txt v.name hmn W1
  have s2:=s1.step hb2
  have x1:=own_later x0 hb2
  have z2:=Nat.le_trans z1 hb2.size
  go_wp2_with fail
  refine (rvalue_any 2 v.name.data.toList _ _ _ W2 hnN r3).mono ?_
  rintro e W3 ⟨v4,rfl,o4,hb3⟩
  rw[HVn.out] at o4
  have s3:=s2.step hb3
  have x2:=own_later x1 hb3
  have z3:=Nat.le_trans z2 hb3.size
  obtain⟨ya,yk,e4,yr⟩:=Rd.of_own o4
  subst e4
  clear hrun c0 c1 c2 c3 c4 c5 c6
  go_wp2_with (at_builtin;refine wpList_app _ rfl (.tmp 27) (.tmp 31) 25 rfl B3 5 (.int .u8 0) 1 1 Tlv.byT v3 _ _ rfl x2 ya _ yk _ rfl yr (byV_one _) (by unfold maxLen;omega) (by omega) z3 ?_;intro a5 k5 W4 x3 _ hb4 _)
  have s4:=s3.turn hb4 hB3
  go_ret
  refine⟨_,rfl,own_base ?_ (Nat.le_of_lt hB3),s4.bel⟩
  have hz:opL v c=V1++Vn:=by rw[HOP.out,HF.out];simp only[List.flatMap_cons,List.flatMap_nil,List.append_nil,E110.out]
  rw[hz]
  simp only[List.length_append,byV_app]
  exact x3
 ·have HF:=hid hf
  have g1:(v.k==1)=false:=by rw[hk];rfl
  have g3:(v.k==3)=true:=by rw[hk];rfl
  have g5:(v.k==5)=false:=by rw[hk];rfl
  have g2:(v.k==2)=false:=by rw[hk];rfl
  have g6:(v.k==6)=false:=by rw[hk];rfl
  have g4:(v.k==4)=false:=by rw[hk];rfl
  have g7:(v.k==7)=false:=by rw[hk];rfl
  have g8:(v.k==8)=false:=by rw[hk];rfl
  clear hf hk hne hk8 hk0
  go_upto_region 6 with fail
  have hd:Below W1.heap.size W1 W1.drew:=(Below.refl _ _).drew
  have s2:=s1.step hd
  have x1:=own_later x0 hd
  have z2:=Nat.le_trans z1 hd.size
  refine wp_region_held (S:=ByAt w v) hmo ?_
  change wpAnyH _ _ _ _ _ _ _ _ (World.drew W1)
  generalize World.drew W1=W2 at *
  refine zHp 0 (v3) rfl s2 ?_
  go_simp
  refine zHp 1 (.pointer (some ⟨w.heap.size,1,none⟩)) rfl s2 ?_
  go_simp
  refine zHa 2 (.string v.name) rfl (by rintro w h;obtain⟨c0,c1,c2,c3,c4,c5,c6,-⟩:=box_all h.o;go_simp) s2 ?_
  go_simp
  refine zHp 6 (.pointer (some ⟨w.heap.size,3,none⟩)) rfl s2 ?_
  go_simp
  refine zHa 7 (.slice v.ao v.an v.ac) rfl (by rintro w h;obtain⟨c0,c1,c2,c3,c4,c5,c6,-⟩:=box_all h.o;go_simp) s2 ?_
  go_simp
  refine zH1 3 rfl (fun K hK=>?_)
  obtain⟨k3,W3,hrun,r3_3,hb3⟩:=run_txt v.name hmn W2
  go_simp
  have lx3:=own_lt x1
  have x2:=own_later x1 hb3
  have s3:=s2.step hb3
  have z3:=Nat.le_trans z2 hb3.size
  clear hrun
  refine hK _ _ ⟨s3,?_⟩
  clear hK K
  refine zH1 4 rfl (fun K hK=>?_)
  go_simp
  refine (rvalue_any 2 v.name.data.toList _ _ _ W3 hnN r3_3).mono ?_
  rintro e W4 ⟨v4,rfl,o4_4,hb4⟩
  rw[HVn.out] at o4_4
  have x3:=own_later x2 hb4
  have s4:=s3.step hb4
  have z4:=Nat.le_trans z3 hb4.size
  go_simp
  refine hK _ _ ⟨s4,?_⟩
  clear hK K
  refine zH1 5 rfl (fun K hK=>?_)
  obtain⟨ya5,yk5,e5,yr5⟩:=Rd.of_own o4_4
  subst e5
  refine step_app rfl (.tmp 14) (.tmp 18) 25 rfl B3 5 (.int .u8 0) 1 1 Tlv.byT v3 _ _ rfl x3 ya5 _ yk5 _ rfl yr5 (byV_one _) (by unfold maxLen;omega) (by omega) z4 ?_
  intro a5 k5 W5 x4 hg5 hb5 _
  have s5:=s4.turn hb5 hB3
  have z5:=Nat.le_trans z4 hb5.size
  clear hg5
  refine hK _ _ ⟨s5,?_⟩
  clear hK K
  refine zH1 8 rfl (fun K hK=>?_)
  go_simp
  refine (rAttrs_any 4 _ _ _ c.attrs W5 (ho.later s5.bel).a hanN hattr hA1).mono ?_
  rintro e W6 ⟨v8,rfl,o8_6,hb6⟩
  rw[HVa.out] at o8_6
  have x5:=own_later x4 hb6
  have s6:=s5.step hb6
  have z6:=Nat.le_trans z5 hb6.size
  go_simp
  refine hK _ _ ⟨s6,?_⟩
  clear hK K
  refine zH1 9 rfl (fun K hK=>?_)
  obtain⟨ya9,yk9,e9,yr9⟩:=Rd.of_own o8_6
  subst e9
  refine step_app rfl (.tmp 19) (.tmp 22) 25 rfl B3 5 (.int .u8 0) 1 1 Tlv.byT (.slice a5 (V1.length+Vn.length) k5) _ _ rfl x5 ya9 _ yk9 _ rfl yr9 (byV_one _) (by unfold maxLen;omega) (by omega) z6 ?_
  intro a9 k9 W7 x6 hg9 hb7 _
  have s7:=s6.turn hb7 hB3
  have z7:=Nat.le_trans z6 hb7.size
  clear hg9
  refine hK _ _ ⟨s7,?_⟩
  clear hK K
  refine zHp 10 (.slice a9 (V1.length+Vn.length+Va.length) k9) rfl s7 ?_
  go_simp
  refine wpAnyH_done (by kernel_rfl) ?_ _
  go_wp2_with fail
  go_ret
  refine⟨_,rfl,own_base ?_ (Nat.le_of_lt hB3),s7.bel⟩
  have hz:opL v c=V1++Vn++Va:=by rw[HOP.out,HF.out];simp only[List.flatMap_cons,List.flatMap_nil,List.append_nil,E110.out,E97.out,List.append_assoc]
  rw[hz]
  simp only[List.length_append,byV_app]
  exact x6
 ·have HF:=hid hf
  have g1:(v.k==1)=false:=by rw[hk];rfl
  have g3:(v.k==3)=false:=by rw[hk];rfl
  have g5:(v.k==5)=false:=by rw[hk];rfl
  have g2:(v.k==2)=false:=by rw[hk];rfl
  have g6:(v.k==6)=false:=by rw[hk];rfl
  have g4:(v.k==4)=true:=by rw[hk];rfl
  have g7:(v.k==7)=false:=by rw[hk];rfl
  have g8:(v.k==8)=false:=by rw[hk];rfl
  clear hf hk hne hk8 hk0
  go_upto_region 11 with fail
  have hd:Below W1.heap.size W1 W1.drew:=(Below.refl _ _).drew
  have s2:=s1.step hd
  have x1:=own_later x0 hd
  have z2:=Nat.le_trans z1 hd.size
  refine wp_region_held (S:=ByAt w v) hmo ?_
  change wpAnyH _ _ _ _ _ _ _ _ (World.drew W1)
  generalize World.drew W1=W2 at *
  refine zHp 0 (v3) rfl s2 ?_
  go_simp
  refine zHp 1 (.pointer (some ⟨w.heap.size,1,none⟩)) rfl s2 ?_
  go_simp
  refine zHa 2 (.string v.name) rfl (by rintro w h;obtain⟨c0,c1,c2,c3,c4,c5,c6,-⟩:=box_all h.o;go_simp) s2 ?_
  go_simp
  refine zHp 6 (.pointer (some ⟨w.heap.size,2,none⟩)) rfl s2 ?_
  go_simp
  refine zHa 7 (.string v.to) rfl (by rintro w h;obtain⟨c0,c1,c2,c3,c4,c5,c6,-⟩:=box_all h.o;go_simp) s2 ?_
  go_simp
  refine wpAnyH_all (rs:=[3,8]) (by kernel_rfl) (by simp) (fun j hj=>?_)
  simp only[List.mem_cons,List.not_mem_nil,or_false] at hj
  rcases hj with rfl|rfl
  ·refine wpOp_step rfl (fun K hK=>?_)
   obtain⟨k3,W3,hrun,r3_3,hb3⟩:=run_txt v.name hmn W2
   go_simp
   have lx3:=own_lt x1
   have x2:=own_later x1 hb3
   have s3:=s2.step hb3
   have z3:=Nat.le_trans z2 hb3.size
   clear hrun
   refine hK _ _ ⟨s3,?_⟩
   clear hK K
   refine wpAnyH_all (rs:=[4,8]) (by kernel_rfl) (by simp) (fun j hj=>?_)
   simp only[List.mem_cons,List.not_mem_nil,or_false] at hj
   rcases hj with rfl|rfl
   ·refine wpOp_step rfl (fun K hK=>?_)
    go_simp
    refine (rvalue_any 2 v.name.data.toList _ _ _ W3 hnN r3_3).mono ?_
    rintro e W4 ⟨v4,rfl,o4_4,hb4⟩
    rw[HVn.out] at o4_4
    have x3:=own_later x2 hb4
    have s4:=s3.step hb4
    have z4:=Nat.le_trans z3 hb4.size
    go_simp
    refine hK _ _ ⟨s4,?_⟩
    clear hK K
    refine wpAnyH_all (rs:=[5,8]) (by kernel_rfl) (by simp) (fun j hj=>?_)
    simp only[List.mem_cons,List.not_mem_nil,or_false] at hj
    rcases hj with rfl|rfl
    ·refine wpOp_step rfl (fun K hK=>?_)
     obtain⟨ya5,yk5,e5,yr5⟩:=Rd.of_own o4_4
     subst e5
     refine step_app rfl (.tmp 35) (.tmp 39) 25 rfl B3 5 (.int .u8 0) 1 1 Tlv.byT v3 _ _ rfl x3 ya5 _ yk5 _ rfl yr5 (byV_one _) (by unfold maxLen;omega) (by omega) z4 ?_
     intro a5 k5 W5 x4 hg5 hb5 _
     have s5:=s4.turn hb5 hB3
     have z5:=Nat.le_trans z4 hb5.size
     clear hg5
     refine hK _ _ ⟨s5,?_⟩
     clear hK K
     refine zH1 8 rfl (fun K hK=>?_)
     obtain⟨k8,W6,hrun,r8_6,hb6⟩:=run_txt v.to hmt W5
     go_simp
     have lx8:=own_lt x4
     have x5:=own_later x4 hb6
     have s6:=s5.step hb6
     have z6:=Nat.le_trans z5 hb6.size
     clear hrun
     refine hK _ _ ⟨s6,?_⟩
     clear hK K
     refine zH1 9 rfl (fun K hK=>?_)
     go_simp
     refine (rvalue_any 3 v.to.data.toList _ _ _ W6 hnT r8_6).mono ?_
     rintro e W7 ⟨v9,rfl,o9_7,hb7⟩
     rw[HVt.out] at o9_7
     have x6:=own_later x5 hb7
     have s7:=s6.step hb7
     have z7:=Nat.le_trans z6 hb7.size
     go_simp
     refine hK _ _ ⟨s7,?_⟩
     clear hK K
     refine zH1 10 rfl (fun K hK=>?_)
     obtain⟨ya10,yk10,e10,yr10⟩:=Rd.of_own o9_7
     subst e10
     refine step_app rfl (.tmp 40) (.tmp 44) 25 rfl B3 5 (.int .u8 0) 1 1 Tlv.byT (.slice a5 (V1.length+Vn.length) k5) _ _ rfl x6 ya10 _ yk10 _ rfl yr10 (byV_one _) (by unfold maxLen;omega) (by omega) z7 ?_
     intro a10 k10 W8 x7 hg10 hb8 _
     have s8:=s7.turn hb8 hB3
     have z8:=Nat.le_trans z7 hb8.size
     clear hg10
     refine hK _ _ ⟨s8,?_⟩
     clear hK K
     refine zHp 11 (.slice a10 (V1.length+Vn.length+Vt.length) k10) rfl s8 ?_
     go_simp
     refine wpAnyH_done (by kernel_rfl) ?_ _
     go_wp2_with fail
     go_ret
     refine⟨_,rfl,own_base ?_ (Nat.le_of_lt hB3),s8.bel⟩
     have hz:opL v c=V1++Vn++Vt:=by rw[HOP.out,HF.out];simp only[List.flatMap_cons,List.flatMap_nil,List.append_nil,E110.out,E116.out,List.append_assoc]
     rw[hz]
     simp only[List.length_append,byV_app]
     exact x7
    refine wpOp_step rfl (fun K hK=>?_)
    obtain⟨k8,W5,hrun,r8_5,hb5⟩:=run_txt v.to hmt W4
    go_simp
    have lx8:=own_lt x3
    have o4_5:=own_later o4_4 hb5
    have x4:=own_later x3 hb5
    have s5:=s4.step hb5
    have z5:=Nat.le_trans z4 hb5.size
    clear hrun
    refine hK _ _ ⟨s5,?_⟩
    clear hK K
    refine zH1 5 rfl (fun K hK=>?_)
    obtain⟨ya5,yk5,e5,yr5⟩:=Rd.of_own o4_5
    subst e5
    refine step_app rfl (.tmp 35) (.tmp 39) 25 rfl B3 5 (.int .u8 0) 1 1 Tlv.byT v3 _ _ rfl x4 ya5 _ yk5 _ rfl yr5 (byV_one _) (by unfold maxLen;omega) (by omega) z5 ?_
    intro a5 k5 W6 x5 hg5 hb6 _
    have s6:=s5.turn hb6 hB3
    have z6:=Nat.le_trans z5 hb6.size
    have r8_6:=rd_keep r8_5 hg5 (fresh_ne lx8)
    clear hg5
    refine hK _ _ ⟨s6,?_⟩
    clear hK K
    refine zH1 9 rfl (fun K hK=>?_)
    go_simp
    refine (rvalue_any 3 v.to.data.toList _ _ _ W6 hnT r8_6).mono ?_
    rintro e W7 ⟨v9,rfl,o9_7,hb7⟩
    rw[HVt.out] at o9_7
    have x6:=own_later x5 hb7
    have s7:=s6.step hb7
    have z7:=Nat.le_trans z6 hb7.size
    go_simp
    refine hK _ _ ⟨s7,?_⟩
    clear hK K
    refine zH1 10 rfl (fun K hK=>?_)
    obtain⟨ya10,yk10,e10,yr10⟩:=Rd.of_own o9_7
    subst e10
    refine step_app rfl (.tmp 40) (.tmp 44) 25 rfl B3 5 (.int .u8 0) 1 1 Tlv.byT (.slice a5 (V1.length+Vn.length) k5) _ _ rfl x6 ya10 _ yk10 _ rfl yr10 (byV_one _) (by unfold maxLen;omega) (by omega) z7 ?_
    intro a10 k10 W8 x7 hg10 hb8 _
    have s8:=s7.turn hb8 hB3
    have z8:=Nat.le_trans z7 hb8.size
    clear hg10
    refine hK _ _ ⟨s8,?_⟩
    clear hK K
    refine zHp 11 (.slice a10 (V1.length+Vn.length+Vt.length) k10) rfl s8 ?_
    go_simp
    refine wpAnyH_done (by kernel_rfl) ?_ _
    go_wp2_with fail
    go_ret
    refine⟨_,rfl,own_base ?_ (Nat.le_of_lt hB3),s8.bel⟩
    have hz:opL v c=V1++Vn++Vt:=by rw[HOP.out,HF.out];simp only[List.flatMap_cons,List.flatMap_nil,List.append_nil,E110.out,E116.out,List.append_assoc]
    rw[hz]
    simp only[List.length_append,byV_app]
    exact x7
   refine wpOp_step rfl (fun K hK=>?_)
   obtain⟨k8,W4,hrun,r8_4,hb4⟩:=run_txt v.to hmt W3
   go_simp
   have lx8:=own_lt x2
   have r3_4:=r3_3.later hb4
   have x3:=own_later x2 hb4
   have s4:=s3.step hb4
   have z4:=Nat.le_trans z3 hb4.size
   clear hrun
   refine hK _ _ ⟨s4,?_⟩
   clear hK K
   refine zH1 4 rfl (fun K hK=>?_)
   go_simp
   refine (rvalue_any 2 v.name.data.toList _ _ _ W4 hnN r3_4).mono ?_
   rintro e W5 ⟨v4,rfl,o4_5,hb5⟩
   rw[HVn.out] at o4_5
   have r8_5:=r8_4.later hb5
   have x4:=own_later x3 hb5
   have s5:=s4.step hb5
   have z5:=Nat.le_trans z4 hb5.size
   go_simp
   refine hK _ _ ⟨s5,?_⟩
   clear hK K
   refine zH1 5 rfl (fun K hK=>?_)
   obtain⟨ya5,yk5,e5,yr5⟩:=Rd.of_own o4_5
   subst e5
   refine step_app rfl (.tmp 35) (.tmp 39) 25 rfl B3 5 (.int .u8 0) 1 1 Tlv.byT v3 _ _ rfl x4 ya5 _ yk5 _ rfl yr5 (byV_one _) (by unfold maxLen;omega) (by omega) z5 ?_
   intro a5 k5 W6 x5 hg5 hb6 _
   have s6:=s5.turn hb6 hB3
   have z6:=Nat.le_trans z5 hb6.size
   have r8_6:=rd_keep r8_5 hg5 (fresh_ne lx8)
   clear hg5
   refine hK _ _ ⟨s6,?_⟩
   clear hK K
   refine zH1 9 rfl (fun K hK=>?_)
   go_simp
   refine (rvalue_any 3 v.to.data.toList _ _ _ W6 hnT r8_6).mono ?_
   rintro e W7 ⟨v9,rfl,o9_7,hb7⟩
   rw[HVt.out] at o9_7
   have x6:=own_later x5 hb7
   have s7:=s6.step hb7
   have z7:=Nat.le_trans z6 hb7.size
   go_simp
   refine hK _ _ ⟨s7,?_⟩
   clear hK K
   refine zH1 10 rfl (fun K hK=>?_)
   obtain⟨ya10,yk10,e10,yr10⟩:=Rd.of_own o9_7
   subst e10
   refine step_app rfl (.tmp 40) (.tmp 44) 25 rfl B3 5 (.int .u8 0) 1 1 Tlv.byT (.slice a5 (V1.length+Vn.length) k5) _ _ rfl x6 ya10 _ yk10 _ rfl yr10 (byV_one _) (by unfold maxLen;omega) (by omega) z7 ?_
   intro a10 k10 W8 x7 hg10 hb8 _
   have s8:=s7.turn hb8 hB3
   have z8:=Nat.le_trans z7 hb8.size
   clear hg10
   refine hK _ _ ⟨s8,?_⟩
   clear hK K
   refine zHp 11 (.slice a10 (V1.length+Vn.length+Vt.length) k10) rfl s8 ?_
   go_simp
   refine wpAnyH_done (by kernel_rfl) ?_ _
   go_wp2_with fail
   go_ret
   refine⟨_,rfl,own_base ?_ (Nat.le_of_lt hB3),s8.bel⟩
   have hz:opL v c=V1++Vn++Vt:=by rw[HOP.out,HF.out];simp only[List.flatMap_cons,List.flatMap_nil,List.append_nil,E110.out,E116.out,List.append_assoc]
   rw[hz]
   simp only[List.length_append,byV_app]
   exact x7
  refine wpOp_step rfl (fun K hK=>?_)
  obtain⟨k8,W3,hrun,r8_3,hb3⟩:=run_txt v.to hmt W2
  go_simp
  have lx8:=own_lt x1
  have x2:=own_later x1 hb3
  have s3:=s2.step hb3
  have z3:=Nat.le_trans z2 hb3.size
  clear hrun
  refine hK _ _ ⟨s3,?_⟩
  clear hK K
  refine zH1 3 rfl (fun K hK=>?_)
  obtain⟨k3,W4,hrun,r3_4,hb4⟩:=run_txt v.name hmn W3
  go_simp
  have lx3:=own_lt x2
  have r8_4:=r8_3.later hb4
  have x3:=own_later x2 hb4
  have s4:=s3.step hb4
  have z4:=Nat.le_trans z3 hb4.size
  clear hrun
  refine hK _ _ ⟨s4,?_⟩
  clear hK K
  refine zH1 4 rfl (fun K hK=>?_)
  go_simp
  refine (rvalue_any 2 v.name.data.toList _ _ _ W4 hnN r3_4).mono ?_
  rintro e W5 ⟨v4,rfl,o4_5,hb5⟩
  rw[HVn.out] at o4_5
  have r8_5:=r8_4.later hb5
  have x4:=own_later x3 hb5
  have s5:=s4.step hb5
  have z5:=Nat.le_trans z4 hb5.size
  go_simp
  refine hK _ _ ⟨s5,?_⟩
  clear hK K
  refine zH1 5 rfl (fun K hK=>?_)
  obtain⟨ya5,yk5,e5,yr5⟩:=Rd.of_own o4_5
  subst e5
  refine step_app rfl (.tmp 35) (.tmp 39) 25 rfl B3 5 (.int .u8 0) 1 1 Tlv.byT v3 _ _ rfl x4 ya5 _ yk5 _ rfl yr5 (byV_one _) (by unfold maxLen;omega) (by omega) z5 ?_
  intro a5 k5 W6 x5 hg5 hb6 _
  have s6:=s5.turn hb6 hB3
  have z6:=Nat.le_trans z5 hb6.size
  have r8_6:=rd_keep r8_5 hg5 (fresh_ne lx8)
  clear hg5
  refine hK _ _ ⟨s6,?_⟩
  clear hK K
  refine zH1 9 rfl (fun K hK=>?_)
  go_simp
  refine (rvalue_any 3 v.to.data.toList _ _ _ W6 hnT r8_6).mono ?_
  rintro e W7 ⟨v9,rfl,o9_7,hb7⟩
  rw[HVt.out] at o9_7
  have x6:=own_later x5 hb7
  have s7:=s6.step hb7
  have z7:=Nat.le_trans z6 hb7.size
  go_simp
  refine hK _ _ ⟨s7,?_⟩
  clear hK K
  refine zH1 10 rfl (fun K hK=>?_)
  obtain⟨ya10,yk10,e10,yr10⟩:=Rd.of_own o9_7
  subst e10
  refine step_app rfl (.tmp 40) (.tmp 44) 25 rfl B3 5 (.int .u8 0) 1 1 Tlv.byT (.slice a5 (V1.length+Vn.length) k5) _ _ rfl x6 ya10 _ yk10 _ rfl yr10 (byV_one _) (by unfold maxLen;omega) (by omega) z7 ?_
  intro a10 k10 W8 x7 hg10 hb8 _
  have s8:=s7.turn hb8 hB3
  have z8:=Nat.le_trans z7 hb8.size
  clear hg10
  refine hK _ _ ⟨s8,?_⟩
  clear hK K
  refine zHp 11 (.slice a10 (V1.length+Vn.length+Vt.length) k10) rfl s8 ?_
  go_simp
  refine wpAnyH_done (by kernel_rfl) ?_ _
  go_wp2_with fail
  go_ret
  refine⟨_,rfl,own_base ?_ (Nat.le_of_lt hB3),s8.bel⟩
  have hz:opL v c=V1++Vn++Vt:=by rw[HOP.out,HF.out];simp only[List.flatMap_cons,List.flatMap_nil,List.append_nil,E110.out,E116.out,List.append_assoc]
  rw[hz]
  simp only[List.length_append,byV_app]
  exact x7
 ·have HF:=hid hf
  have g1:(v.k==1)=false:=by rw[hk];rfl
  have g3:(v.k==3)=false:=by rw[hk];rfl
  have g5:(v.k==5)=true:=by rw[hk];rfl
  have g2:(v.k==2)=false:=by rw[hk];rfl
  have g6:(v.k==6)=false:=by rw[hk];rfl
  have g4:(v.k==4)=false:=by rw[hk];rfl
  have g7:(v.k==7)=false:=by rw[hk];rfl
  have g8:(v.k==8)=false:=by rw[hk];rfl
  clear hf hk hne hk8 hk0
  go_upto_region 6 with fail
  have hd:Below W1.heap.size W1 W1.drew:=(Below.refl _ _).drew
  have s2:=s1.step hd
  have x1:=own_later x0 hd
  have z2:=Nat.le_trans z1 hd.size
  refine wp_region_held (S:=ByAt w v) hmo ?_
  change wpAnyH _ _ _ _ _ _ _ _ (World.drew W1)
  generalize World.drew W1=W2 at *
  refine zHp 0 (v3) rfl s2 ?_
  go_simp
  refine zHp 1 (.pointer (some ⟨w.heap.size,1,none⟩)) rfl s2 ?_
  go_simp
  refine zHa 2 (.string v.name) rfl (by rintro w h;obtain⟨c0,c1,c2,c3,c4,c5,c6,-⟩:=box_all h.o;go_simp) s2 ?_
  go_simp
  refine zHp 6 (.pointer (some ⟨w.heap.size,3,none⟩)) rfl s2 ?_
  go_simp
  refine zHa 7 (.slice v.ao v.an v.ac) rfl (by rintro w h;obtain⟨c0,c1,c2,c3,c4,c5,c6,-⟩:=box_all h.o;go_simp) s2 ?_
  go_simp
  refine zH1 3 rfl (fun K hK=>?_)
  obtain⟨k3,W3,hrun,r3_3,hb3⟩:=run_txt v.name hmn W2
  go_simp
  have lx3:=own_lt x1
  have x2:=own_later x1 hb3
  have s3:=s2.step hb3
  have z3:=Nat.le_trans z2 hb3.size
  clear hrun
  refine hK _ _ ⟨s3,?_⟩
  clear hK K
  refine zH1 4 rfl (fun K hK=>?_)
  go_simp
  refine (rvalue_any 2 v.name.data.toList _ _ _ W3 hnN r3_3).mono ?_
  rintro e W4 ⟨v4,rfl,o4_4,hb4⟩
  rw[HVn.out] at o4_4
  have x3:=own_later x2 hb4
  have s4:=s3.step hb4
  have z4:=Nat.le_trans z3 hb4.size
  go_simp
  refine hK _ _ ⟨s4,?_⟩
  clear hK K
  refine zH1 5 rfl (fun K hK=>?_)
  obtain⟨ya5,yk5,e5,yr5⟩:=Rd.of_own o4_4
  subst e5
  refine step_app rfl (.tmp 14) (.tmp 18) 25 rfl B3 5 (.int .u8 0) 1 1 Tlv.byT v3 _ _ rfl x3 ya5 _ yk5 _ rfl yr5 (byV_one _) (by unfold maxLen;omega) (by omega) z4 ?_
  intro a5 k5 W5 x4 hg5 hb5 _
  have s5:=s4.turn hb5 hB3
  have z5:=Nat.le_trans z4 hb5.size
  clear hg5
  refine hK _ _ ⟨s5,?_⟩
  clear hK K
  refine zH1 8 rfl (fun K hK=>?_)
  go_simp
  refine (rAttrs_any 4 _ _ _ c.attrs W5 (ho.later s5.bel).a hanN hattr hA1).mono ?_
  rintro e W6 ⟨v8,rfl,o8_6,hb6⟩
  rw[HVa.out] at o8_6
  have x5:=own_later x4 hb6
  have s6:=s5.step hb6
  have z6:=Nat.le_trans z5 hb6.size
  go_simp
  refine hK _ _ ⟨s6,?_⟩
  clear hK K
  refine zH1 9 rfl (fun K hK=>?_)
  obtain⟨ya9,yk9,e9,yr9⟩:=Rd.of_own o8_6
  subst e9
  refine step_app rfl (.tmp 19) (.tmp 22) 25 rfl B3 5 (.int .u8 0) 1 1 Tlv.byT (.slice a5 (V1.length+Vn.length) k5) _ _ rfl x5 ya9 _ yk9 _ rfl yr9 (byV_one _) (by unfold maxLen;omega) (by omega) z6 ?_
  intro a9 k9 W7 x6 hg9 hb7 _
  have s7:=s6.turn hb7 hB3
  have z7:=Nat.le_trans z6 hb7.size
  clear hg9
  refine hK _ _ ⟨s7,?_⟩
  clear hK K
  refine zHp 10 (.slice a9 (V1.length+Vn.length+Va.length) k9) rfl s7 ?_
  go_simp
  refine wpAnyH_done (by kernel_rfl) ?_ _
  go_wp2_with fail
  go_ret
  refine⟨_,rfl,own_base ?_ (Nat.le_of_lt hB3),s7.bel⟩
  have hz:opL v c=V1++Vn++Va:=by rw[HOP.out,HF.out];simp only[List.flatMap_cons,List.flatMap_nil,List.append_nil,E110.out,E97.out,List.append_assoc]
  rw[hz]
  simp only[List.length_append,byV_app]
  exact x6
 ·have HF:=hid hf
  have g1:(v.k==1)=false:=by rw[hk];rfl
  have g3:(v.k==3)=false:=by rw[hk];rfl
  have g5:(v.k==5)=false:=by rw[hk];rfl
  have g2:(v.k==2)=false:=by rw[hk];rfl
  have g6:(v.k==6)=true:=by rw[hk];rfl
  have g4:(v.k==4)=false:=by rw[hk];rfl
  have g7:(v.k==7)=false:=by rw[hk];rfl
  have g8:(v.k==8)=false:=by rw[hk];rfl
  clear hf hk hne hk8 hk0
  obtain⟨c0,c1,c2,c3,c4,c5,c6,-⟩:=box_all s1.o
  obtain⟨k3,W2,hrun,r3,hb2⟩:=run_txt v.name hmn W1
  have s2:=s1.step hb2
  have x1:=own_later x0 hb2
  have z2:=Nat.le_trans z1 hb2.size
  go_wp2_with fail
  refine (rvalue_any 2 v.name.data.toList _ _ _ W2 hnN r3).mono ?_
  rintro e W3 ⟨v4,rfl,o4,hb3⟩
  rw[HVn.out] at o4
  have s3:=s2.step hb3
  have x2:=own_later x1 hb3
  have z3:=Nat.le_trans z2 hb3.size
  obtain⟨ya,yk,e4,yr⟩:=Rd.of_own o4
  subst e4
  clear hrun c0 c1 c2 c3 c4 c5 c6
  go_wp2_with (at_builtin;refine wpList_app _ rfl (.tmp 27) (.tmp 31) 25 rfl B3 5 (.int .u8 0) 1 1 Tlv.byT v3 _ _ rfl x2 ya _ yk _ rfl yr (byV_one _) (by unfold maxLen;omega) (by omega) z3 ?_;intro a5 k5 W4 x3 _ hb4 _)
  have s4:=s3.turn hb4 hB3
  go_ret
  refine⟨_,rfl,own_base ?_ (Nat.le_of_lt hB3),s4.bel⟩
  have hz:opL v c=V1++Vn:=by rw[HOP.out,HF.out];simp only[List.flatMap_cons,List.flatMap_nil,List.append_nil,E110.out]
  rw[hz]
  simp only[List.length_append,byV_app]
  exact x3
 ·have HF:=hid hf
  have g1:(v.k==1)=false:=by rw[hk];rfl
  have g3:(v.k==3)=false:=by rw[hk];rfl
  have g5:(v.k==5)=false:=by rw[hk];rfl
  have g2:(v.k==2)=false:=by rw[hk];rfl
  have g6:(v.k==6)=false:=by rw[hk];rfl
  have g4:(v.k==4)=false:=by rw[hk];rfl
  have g7:(v.k==7)=true:=by rw[hk];rfl
  have g8:(v.k==8)=false:=by rw[hk];rfl
  clear hf hk hne hk8 hk0
  obtain⟨c0,c1,c2,c3,c4,c5,c6,-⟩:=box_all s1.o
  go_wp2_with fail
  refine (rTexts_any 5 _ _ _ c.parts W1 (ho.later s1.bel).b hbnN hpart hP1).mono ?_
  rintro e W2 ⟨v4,rfl,o4,hb2⟩
  rw[HVp.out] at o4
  have s2:=s1.step hb2
  have x1:=own_later x0 hb2
  have z2:=Nat.le_trans z1 hb2.size
  obtain⟨ya,yk,e4,yr⟩:=Rd.of_own o4
  subst e4
  clear c0 c1 c2 c3 c4 c5 c6
  go_upto_region 14 with (at_builtin;refine wpList_app _ rfl (.tmp 48) (.tmp 51) 25 rfl B3 5 (.int .u8 0) 1 1 Tlv.byT v3 _ _ rfl x1 ya _ yk _ rfl yr (byV_one _) (by unfold maxLen;omega) (by omega) z2 ?_;intro a0 k0 W3 x2 _ hb3 _)
  have s3:=s2.turn hb3 hB3
  have z3:=Nat.le_trans z2 hb3.size
  have hd:Below W3.heap.size W3 W3.drew:=(Below.refl _ _).drew
  have s4:=s3.step hd
  have x3:=own_later x2 hd
  have z4:=Nat.le_trans z3 hd.size
  refine wp_region_held (S:=ByAt w v) hmo ?_
  change wpAnyH _ _ _ _ _ _ _ _ (World.drew W3)
  generalize World.drew W3=W4 at *
  refine zHp 0 (.slice a0 (V1.length+Vp.length) k0) rfl s4 ?_
  go_simp
  refine zHp 1 (.pointer (some ⟨w.heap.size,5,none⟩)) rfl s4 ?_
  go_simp
  refine zHa 2 (.slice v.co v.cn v.cc) rfl (by rintro w h;obtain⟨c0,c1,c2,c3,c4,c5,c6,-⟩:=box_all h.o;go_simp) s4 ?_
  go_simp
  refine zHp 5 (.pointer (some ⟨w.heap.size,6,none⟩)) rfl s4 ?_
  go_simp
  refine zHa 6 (.int .i64 v.n) rfl (by rintro w h;obtain⟨c0,c1,c2,c3,c4,c5,c6,-⟩:=box_all h.o;go_simp) s4 ?_
  go_simp
  refine zHa 7 (.int .u64 (nn:Int)) rfl (by rintro w h;obtain⟨c0,c1,c2,c3,c4,c5,c6,-⟩:=box_all h.o;go_simp) s4 ?_
  go_simp
  refine zH1 3 rfl (fun K hK=>?_)
  go_simp
  refine (rvalue_any 6 c.cursor _ _ _ W4 hnC (ho.later s4.bel).c).mono ?_
  rintro e W5 ⟨v3,rfl,o3_5,hb5⟩
  rw[HVc.out] at o3_5
  have x4:=own_later x3 hb5
  have s5:=s4.step hb5
  have z5:=Nat.le_trans z4 hb5.size
  go_simp
  refine hK _ _ ⟨s5,?_⟩
  clear hK K
  refine zH1 4 rfl (fun K hK=>?_)
  obtain⟨ya4,yk4,e4,yr4⟩:=Rd.of_own o3_5
  subst e4
  refine step_app rfl (.tmp 53) (.tmp 56) 25 rfl B3 5 (.int .u8 0) 1 1 Tlv.byT (.slice a0 (V1.length+Vp.length) k0) _ _ rfl x4 ya4 _ yk4 _ rfl yr4 (byV_one _) (by unfold maxLen;omega) (by omega) z5 ?_
  intro a4 k4 W6 x5 hg4 hb6 _
  have s6:=s5.turn hb6 hB3
  have z6:=Nat.le_trans z5 hb6.size
  clear hg4
  refine hK _ _ ⟨s6,?_⟩
  clear hK K
  refine zH1 8 rfl (fun K hK=>?_)
  go_simp
  refine (rnumber_any 7 nn W6 hn64).mono ?_
  rintro e W7 ⟨v8,rfl,o8_7,hb7⟩
  rw[HVk.out] at o8_7
  have x6:=own_later x5 hb7
  have s7:=s6.step hb7
  have z7:=Nat.le_trans z6 hb7.size
  go_simp
  refine hK _ _ ⟨s7,?_⟩
  clear hK K
  refine zH1 9 rfl (fun K hK=>?_)
  obtain⟨ya9,yk9,e9,yr9⟩:=Rd.of_own o8_7
  subst e9
  refine step_app rfl (.tmp 57) (.tmp 61) 25 rfl B3 5 (.int .u8 0) 1 1 Tlv.byT (.slice a4 (V1.length+Vp.length+Vc.length) k4) _ _ rfl x6 ya9 _ yk9 _ rfl yr9 (byV_one _) (by unfold maxLen;omega) (by omega) z7 ?_
  intro a9 k9 W8 x7 hg9 hb8 _
  have s8:=s7.turn hb8 hB3
  have z8:=Nat.le_trans z7 hb8.size
  clear hg9
  refine hK _ _ ⟨s8,?_⟩
  clear hK K
  refine zHp 10 (.slice a9 (V1.length+Vp.length+Vc.length+Vk.length) k9) rfl s8 ?_
  go_simp
  refine wpAnyH_done (by kernel_rfl) ?_ _
  go_wp2_with fail
  go_ret
  refine⟨_,rfl,own_base ?_ (Nat.le_of_lt hB3),s8.bel⟩
  have hz:opL v c=V1++Vp++Vc++Vk:=by rw[HOP.out,HF.out];simp only[List.flatMap_cons,List.flatMap_nil,List.append_nil,E112.out,E99.out,E107.out,List.append_assoc]
  rw[hz]
  simp only[List.length_append,byV_app]
  exact x7
 have HF:=hid hf
 have g1:(v.k==1)=false:=by rw[hk];rfl
 have g3:(v.k==3)=false:=by rw[hk];rfl
 have g5:(v.k==5)=false:=by rw[hk];rfl
 have g2:(v.k==2)=false:=by rw[hk];rfl
 have g6:(v.k==6)=false:=by rw[hk];rfl
 have g4:(v.k==4)=false:=by rw[hk];rfl
 have g7:(v.k==7)=false:=by rw[hk];rfl
 have g8:(v.k==8)=true:=by rw[hk];rfl
 clear hf hk hne hk8 hk0
 go_upto_region 14 with fail
 have hd:Below W1.heap.size W1 W1.drew:=(Below.refl _ _).drew
 have s2:=s1.step hd
 have x1:=own_later x0 hd
 have z2:=Nat.le_trans z1 hd.size
 refine wp_region_held (S:=ByAt w v) hmo ?_
 change wpAnyH _ _ _ _ _ _ _ _ (World.drew W1)
 generalize World.drew W1=W2 at *
 refine zHp 0 (v3) rfl s2 ?_
 go_simp
 refine zHp 1 (.pointer (some ⟨w.heap.size,5,none⟩)) rfl s2 ?_
 go_simp
 refine zHa 2 (.slice v.co v.cn v.cc) rfl (by rintro w h;obtain⟨c0,c1,c2,c3,c4,c5,c6,-⟩:=box_all h.o;go_simp) s2 ?_
 go_simp
 refine zHp 5 (.pointer (some ⟨w.heap.size,6,none⟩)) rfl s2 ?_
 go_simp
 refine zHa 6 (.int .i64 v.n) rfl (by rintro w h;obtain⟨c0,c1,c2,c3,c4,c5,c6,-⟩:=box_all h.o;go_simp) s2 ?_
 go_simp
 refine zHa 7 (.int .u64 (nn:Int)) rfl (by rintro w h;obtain⟨c0,c1,c2,c3,c4,c5,c6,-⟩:=box_all h.o;go_simp) s2 ?_
 go_simp
 refine zH1 3 rfl (fun K hK=>?_)
 go_simp
 refine (rvalue_any 6 c.cursor _ _ _ W2 hnC (ho.later s2.bel).c).mono ?_
 rintro e W3 ⟨v3,rfl,o3_3,hb3⟩
 rw[HVc.out] at o3_3
 have x2:=own_later x1 hb3
 have s3:=s2.step hb3
 have z3:=Nat.le_trans z2 hb3.size
 go_simp
 refine hK _ _ ⟨s3,?_⟩
 clear hK K
 refine zH1 4 rfl (fun K hK=>?_)
 obtain⟨ya4,yk4,e4,yr4⟩:=Rd.of_own o3_3
 subst e4
 refine step_app rfl (.tmp 53) (.tmp 56) 25 rfl B3 5 (.int .u8 0) 1 1 Tlv.byT v3 _ _ rfl x2 ya4 _ yk4 _ rfl yr4 (byV_one _) (by unfold maxLen;omega) (by omega) z3 ?_
 intro a4 k4 W4 x3 hg4 hb4 _
 have s4:=s3.turn hb4 hB3
 have z4:=Nat.le_trans z3 hb4.size
 clear hg4
 refine hK _ _ ⟨s4,?_⟩
 clear hK K
 refine zH1 8 rfl (fun K hK=>?_)
 go_simp
 refine (rnumber_any 7 nn W4 hn64).mono ?_
 rintro e W5 ⟨v8,rfl,o8_5,hb5⟩
 rw[HVk.out] at o8_5
 have x4:=own_later x3 hb5
 have s5:=s4.step hb5
 have z5:=Nat.le_trans z4 hb5.size
 go_simp
 refine hK _ _ ⟨s5,?_⟩
 clear hK K
 refine zH1 9 rfl (fun K hK=>?_)
 obtain⟨ya9,yk9,e9,yr9⟩:=Rd.of_own o8_5
 subst e9
 refine step_app rfl (.tmp 57) (.tmp 61) 25 rfl B3 5 (.int .u8 0) 1 1 Tlv.byT (.slice a4 (V1.length+Vc.length) k4) _ _ rfl x4 ya9 _ yk9 _ rfl yr9 (byV_one _) (by unfold maxLen;omega) (by omega) z5 ?_
 intro a9 k9 W6 x5 hg9 hb6 _
 have s6:=s5.turn hb6 hB3
 have z6:=Nat.le_trans z5 hb6.size
 clear hg9
 refine hK _ _ ⟨s6,?_⟩
 clear hK K
 refine zHp 10 (.slice a9 (V1.length+Vc.length+Vk.length) k9) rfl s6 ?_
 go_simp
 refine wpAnyH_done (by kernel_rfl) ?_ _
 go_wp2_with fail
 go_ret
 refine⟨_,rfl,own_base ?_ (Nat.le_of_lt hB3),s6.bel⟩
 have hz:opL v c=V1++Vc++Vk:=by rw[HOP.out,HF.out];simp only[List.flatMap_cons,List.flatMap_nil,List.append_nil,E99.out,E107.out,List.append_assoc]
 rw[hz]
 simp only[List.length_append,byV_app]
 exact x5
end Go.Proofs.YtgeafnggodkpaaaGreat.Msg
