/-
  A part of the proof.
-/
import Derived.Test.YtfmmandlmbcncaaGreatDoorKcao
import Derived.Test.YtfmmandlmbcncaaGreatDoorKcam
set_option maxHeartbeats 40000000
set_option maxRecDepth 100000
namespace Go.Proofs.YtfmmandlmbcncaaGreatDoor.Msg
open Go.RowKit Go.Lib Mem Utf Tlv
theorem iG {W:World}{B size n:Nat}{e:TypeId}{v:Value}{xs:List Value}(h:W.ownsRow B e size v n xs):∀k,v.ownBlock=some k->k<W.heap.size:=by
 intro k hk;rcases h.2 with ⟨rfl,-⟩ | ⟨g,cap,cur,rfl,-,hg,-⟩
 ·cases hk
 have:g=k:=by simpa [Value.ownBlock] using hk
 subst this;exact (Array.getElem?_eq_some_iff.1 hg).1
theorem own_below {W W':World}{B B' n size:Nat}{e:TypeId}{v:Value}{xs:List Value}(h:W.ownsRow B e size v n xs)(hb:Below B' W W')(hlt:∀k,v.ownBlock=some k->k<B'):W'.ownsRow B e size v n xs:=by
 obtain⟨h1,h2⟩:=h;refine⟨h1,?_⟩;rcases h2 with h2 | ⟨g,cap,cur,hv,hbg,hg,rest⟩
 ·exact .inl h2
 exact .inr ⟨g,cap,cur,hv,hbg,(hb.block g (hlt g (by rw[hv];rfl))).trans hg,rest⟩
theorem Hw (l:List (ByteArray×ByteArray))(k:Nat)(u:ByteArray×ByteArray)(h:l[k]?=some u):aH (l.take (k+1))=aH (l.take k)++val 3 (val 1 u.1.data.toList++val 2 u.2.data.toList):=by
 obtain⟨hl,e⟩:=List.getElem?_eq_some_iff.1 h;rw[List.take_succ_eq_append_getElem hl,e];simp[aH]
theorem Jc (l:List ByteArray)(k:Nat)(u:ByteArray)(h:l[k]?=some u):bJ (l.take (k+1))=bJ (l.take k)++val 1 u.data.toList:=by
 obtain⟨hl,e⟩:=List.getElem?_eq_some_iff.1 h;rw[List.take_succ_eq_append_getElem hl,e];simp[bJ]
theorem NJ (l:List (ByteArray×ByteArray))(k:Nat):(aH (l.take k)).length<=(aH l).length:=by
 have e:aH l=aH (l.take k)++aH (l.drop k):=by unfold aH;rw[<-List.flatMap_append,List.take_append_drop]
 rw[e,List.length_append];omega
theorem Nl (l:List ByteArray)(k:Nat):(bJ (l.take k)).length<=(bJ l).length:=by
 have e:bJ l=bJ (l.take k)++bJ (l.drop k):=by unfold bJ;rw[<-List.flatMap_append,List.take_append_drop]
 rw[e,List.length_append];omega
def AtAt (u:ByteArray×ByteArray)(b o:Nat)(W:World):Prop:=W.cell? ⟨b,o,none⟩=some (.string u.1)/\W.cell? ⟨b,o+1,none⟩=some (.string u.2)
theorem AtAt.step {u:ByteArray×ByteArray}{b o:Nat}{W W':World}(h:AtAt u b o W)(hb:Below W.heap.size W W'):AtAt u b o W':=⟨dI hb h.1,dI hb h.2⟩
theorem AtAt.below {u:ByteArray×ByteArray}{b o B:Nat}{W W':World}(h:AtAt u b o W)(hb:Below B W W')(hlt:b<B):AtAt u b o W':=⟨(hb.cell (p:=⟨b,o,none⟩) hlt).trans h.1,(hb.cell (p:=⟨b,o+1,none⟩) hlt).trans h.2⟩
theorem wU (t:UInt8)(ao:Option Addr)(n cap:Nat)(x:List (ByteArray×ByteArray))(w:World)(hx:Rd w 2 ao n cap (atV x))(hn:n<=1000)(hu:∀u∈x,u.1.size<=1000/\u.2.size<=1000)(hl:(aH x).length<=200000) :
  Calls Tryz.prog 157 #[.int .u8 (t.toNat:Int),.slice ao n cap] w (ja w (val t (aH x))):=by
 have hmo:Tryz.prog.follows .mixedOrders=true:=by kernel_rfl
 have lx:x.length=n:=by have:=hx.1;rw[fG] at this;omega
 have LX:=hid lx;have HL:=hid hl;clear lx hl;have own0:w.ownsRow w.heap.size 5 1 (.slice none 0 0) (aH (x.take 0)).length (byV (aH (x.take 0))):=World.ownsRow_nil _ _ _ _;go_in;go_wp2_with fail;go_loopw [5,6] (fun bv p wr=>∃k:Nat,k<=n/\p=.int .i64 (k:Int)/\wr.ownsRow w.heap.size 5 1 bv (aH (x.take k)).length (byV (aH (x.take k)))/\Below w.heap.size w wr) (fun _ p _=>n-(intOf p).toNat)
 case atStart=>exact⟨0,Nat.zero_le _,rfl,own0,Below.refl _ _⟩
 case round=>
  obtain⟨k,hk,rfl,own,hbr⟩:=hrel;by_cases hkn:k<n
  ·obtain⟨b1,o1,rfl,hl1,hc1⟩:=hx.some (by have:=hx.le;omega);obtain⟨u,hue⟩:∃u,x[k]?=some u:=⟨_,List.getElem?_eq_getElem (by rw[LX.out];exact hkn)⟩
   obtain⟨v1,v2⟩:=jT x k u hue;have c1:=(hbr.cell (p:=⟨b1,o1+k*2,none⟩) hl1).trans (hc1 (k*2) _ v1);have c2:wr.cell? ⟨b1,o1+k*2+1,none⟩=_:=(hbr.cell (p:=⟨b1,o1+(k*2+1),none⟩) hl1).trans (hc1 (k*2+1) _ v2);obtain⟨hu1,hu2⟩:=hu u (List.mem_of_getElem? hue);have hm1:u.1.size<=maxLen:=by unfold maxLen;omega
   have hm2:u.2.size<=maxLen:=by unfold maxLen;omega
   have hn1:u.1.size<=4194304:=by omega
   have hn2:u.2.size<=4194304:=by omega
   have hL:(aH (x.take k)).length<=200000:=Nat.le_trans (NJ x k) HL.out;have hnext:=hid (Hw x k u hue);obtain⟨V1,hv1⟩:∃V1,val 1 u.1.data.toList=V1:=⟨_,rfl⟩
   obtain⟨V2,hv2⟩:∃V2,val 2 u.2.data.toList=V2:=⟨_,rfl⟩
   obtain⟨V3,hv3⟩:∃V3,val 3 (V1++V2)=V3:=⟨_,rfl⟩
   obtain⟨A,hA⟩:∃A,aH (x.take k)=A:=⟨_,rfl⟩
   have hV1:V1.length=u.1.size+5:=by rw[<-hv1,af,dD];omega
   have hV2:V2.length=u.2.size+5:=by rw[<-hv2,af,dD];omega
   have hV3:V3.length=u.1.size+5+(u.2.size+5)+5:=by rw[<-hv3,af,List.length_append,hV1,hV2];omega
   have hN:Hid (aH (x.take (k+1))=A++V3):=hid (by rw[hnext.out,hv1,hv2,hv3,hA]);have h15:V1.length+V2.length<=maxLen:=by rw[hV1,hV2];unfold maxLen;omega
   have h15b:(V1.length+V2.length)*1<=140737488355328:=by rw[hV1,hV2];omega
   have h16:V1.length+V2.length<=4194304:=by rw[hV1,hV2];omega
   rw[hA] at hL;have h17:A.length+V3.length<=maxLen:=by rw[hV3];unfold maxLen;omega
   have h17b:(A.length+V3.length)*1<=140737488355328:=by rw[hV3];omega
   rw[hA] at own;have Hv1:=hid hv1;have Hv2:=hid hv2;have Hv3:=hid hv3;clear hv1 hv2 hv3 hA hL hnext;have i0:(0:Int)<=(k:Int):=by omega
   have i1:(k:Int)<(n:Int):=by omega
   have s0:AtAt u b1 (o1+k*2) wr.drew:=⟨c1,c2⟩
   have b0:wr.drew.ownsRow w.heap.size 5 1 u5 A.length (byV A):=ag own (Below.refl _ _).drew;have hb0:Below w.heap.size w wr.drew:=hbr.drew;have z0:=hb0.size;clear v1 v2 c1 c2 hc1 hV1 hV2 hV3;go_upto_region 5 with fail;refine wp_region_held (S:=AtAt u b1 (o1+k*2)) hmo ?_;change wpAnyH _ _ _ _ _ _ _ _ (World.drew wr);clear own hbr;generalize World.drew wr=W0 at *;have hbb0:=hb0;refine zHp 0 (u5) rfl s0 ?_;go_simp;refine zHp 1 (.slice (some ⟨b1,o1,none⟩) n cap) rfl s0 ?_;go_simp;refine zHp 2 (.int .i64 (k:Int)) rfl s0 ?_;go_simp;refine zHa 3 (.pointer (some ⟨b1,o1+k*2,none⟩)) rfl (by rintro w h;obtain⟨c0,c1⟩:=h;go_simp) s0 ?_;go_simp;refine zHa 4 (.pointer (some ⟨b1,o1+k*2,none⟩)) rfl (by rintro w h;obtain⟨c0,c1⟩:=h;go_simp) s0 ?_;go_simp;refine zHa 5 (.string u.1) rfl (by rintro w h;obtain⟨c0,c1⟩:=h;go_simp) s0 ?_;go_simp;refine zHp 8 (.slice (some ⟨b1,o1,none⟩) n cap) rfl s0 ?_;go_simp;refine zHp 9 (.int .i64 (k:Int)) rfl s0 ?_;go_simp;refine zHa 10 (.pointer (some ⟨b1,o1+k*2,none⟩)) rfl (by rintro w h;obtain⟨c0,c1⟩:=h;go_simp) s0 ?_;go_simp;refine zHa 11 (.pointer (some ⟨b1,o1+k*2+1,none⟩)) rfl (by rintro w h;obtain⟨c0,c1⟩:=h;go_simp) s0 ?_;go_simp;refine zHa 12 (.string u.2) rfl (by rintro w h;obtain⟨c0,c1⟩:=h;go_simp) s0 ?_;go_simp;refine wpAnyH_all (rs:=[6,13]) (by kernel_rfl) (by simp) (fun j hj=>?_);simp only[List.mem_cons,List.not_mem_nil,or_false] at hj;rcases hj with rfl|rfl
   ·refine wpOp_step rfl (fun K hK=>?_);obtain⟨k6,W1,hrun,r6_1,hb1⟩:=fU u.1 hm1 W0;go_simp;have b1:=ag b0 hb1;have s1:=s0.step hb1;have z1:=Nat.le_trans z0 hb1.size;have hbb1:=hbb0.trans (hb1.mono z0);clear hrun;refine hK _ _ ⟨s1,?_⟩;clear hK K;refine wpAnyH_all (rs:=[7,13]) (by kernel_rfl) (by simp) (fun j hj=>?_);simp only[List.mem_cons,List.not_mem_nil,or_false] at hj;rcases hj with rfl|rfl
    ·refine wpOp_step rfl (fun K hK=>?_);go_simp;refine (aS 1 u.1.data.toList _ _ _ W1 hn1 r6_1).mono ?_;rintro e W2 ⟨v7,rfl,o7_2,hb2⟩;rw[Hv1.out] at o7_2;have b2:=ag b1 hb2;have s2:=s1.step hb2;have z2:=Nat.le_trans z1 hb2.size;have hbb2:=hbb1.trans (hb2.mono z1);have lt7:=iG b1;have y7:=z1;have q7:=hbb1.size;generalize hZ7:W1.heap.size=Z7 at o7_2 lt7 y7;have gz2:Z7<=W2.heap.size:=by rw[<-hZ7];exact hb2.size
     go_simp;refine hK _ _ ⟨s2,?_⟩;clear hK K;refine zH1 13 rfl (fun K hK=>?_);obtain⟨k13,W3,hrun,r13_3,hb3⟩:=fU u.2 hm2 W2;go_simp;have b3:=ag b2 hb3;have s3:=s2.step hb3;have o7_3:=ag o7_2 hb3;have z3:=Nat.le_trans z2 hb3.size;have gz3:=Nat.le_trans gz2 hb3.size;have hbb3:=hbb2.trans (hb3.mono z2);clear hrun;refine hK _ _ ⟨s3,?_⟩;clear hK K;refine zH1 14 rfl (fun K hK=>?_);go_simp;refine (aS 2 u.2.data.toList _ _ _ W3 hn2 r13_3).mono ?_;rintro e W4 ⟨v14,rfl,o14_4,hb4⟩;rw[Hv2.out] at o14_4;have b4:=ag b3 hb4;have s4:=s3.step hb4;have o7_4:=ag o7_3 hb4;have z4:=Nat.le_trans z3 hb4.size;have gz4:=Nat.le_trans gz3 hb4.size;have hbb4:=hbb3.trans (hb4.mono z3);go_simp;refine hK _ _ ⟨s4,?_⟩;clear hK K;refine zH1 15 rfl (fun K hK=>?_);obtain⟨a14,k14,e14,r14⟩:=Rd.of_own o14_4;subst e14;refine bY rfl (.tmp 20) (.tmp 27) 34 rfl Z7 5 (.int .u8 0) 1 1 Tlv.byT v7 _ _ rfl o7_4 a14 _ k14 _ rfl r14 (bK _) h15 h15b gz4 ?_;intro ao15 cap15 W5 o15x hg15 hb15 _;have r15_5:Rd W5 1 ao15 (V1.length+V2.length) cap15 (byV (V1++V2)):=by rw[dP];exact Rd.of_own_slice o15x
     have b5:=own_below b4 hb15 lt7;have s5:=s4.below hb15 (by omega);have z5:=Nat.le_trans z4 hb15.size;have hbb5:=hbb4.trans (hb15.mono (by omega));clear o15x hg15 hb15;refine hK _ _ ⟨s5,?_⟩;clear hK K;refine zH1 16 rfl (fun K hK=>?_);go_simp;refine (aS 3 (V1++V2) ao15 (V1.length+V2.length) cap15 W5 h16 r15_5).mono ?_;rintro e W6 ⟨v16,rfl,o16_6,hb6⟩;rw[Hv3.out] at o16_6;have b6:=ag b5 hb6;have s6:=s5.step hb6;have z6:=Nat.le_trans z5 hb6.size;have hbb6:=hbb5.trans (hb6.mono z5);go_simp;refine hK _ _ ⟨s6,?_⟩;clear hK K;refine zH1 17 rfl (fun K hK=>?_);obtain⟨a16,k16,e16,r16⟩:=Rd.of_own o16_6;subst e16;refine bY rfl (.tmp 13) (.tmp 29) 34 rfl w.heap.size 5 (.int .u8 0) 1 1 Tlv.byT u5 _ _ rfl b6 a16 _ k16 _ rfl r16 (bK _) h17 h17b z6 ?_;intro ao17 cap17 W7 o17x hg17 hb17 _;have o17:W7.ownsRow w.heap.size 5 1 (.slice ao17 (A.length+V3.length) cap17) (aH (x.take (k+1))).length (byV (aH (x.take (k+1)))):=by rw[hN.out,List.length_append,dP];exact o17x
     have s7:=s6.below hb17 hl1;have hbb7:=hbb6.trans hb17;clear o17x hg17 hb17;refine hK _ _ ⟨s7,?_⟩;clear hK K;refine zHp 18 (.slice ao17 (A.length+V3.length) cap17) rfl s7 ?_;go_simp;refine wpAnyH_done (by kernel_rfl) ?_ _;clear h15 h15b h16 h17 h17b;go_wp2_with fail;go_roundw
     case rel=>exact⟨k+1,by omega,by go_num,o17,hbb7⟩
     case measure=>simp[intOf];omega
    refine wpOp_step rfl (fun K hK=>?_);obtain⟨k13,W2,hrun,r13_2,hb2⟩:=fU u.2 hm2 W1;go_simp;have b2:=ag b1 hb2;have s2:=s1.step hb2;have r6_2:=r6_1.later hb2;have z2:=Nat.le_trans z1 hb2.size;have hbb2:=hbb1.trans (hb2.mono z1);clear hrun;refine hK _ _ ⟨s2,?_⟩;clear hK K;refine zH1 7 rfl (fun K hK=>?_);go_simp;refine (aS 1 u.1.data.toList _ _ _ W2 hn1 r6_2).mono ?_;rintro e W3 ⟨v7,rfl,o7_3,hb3⟩;rw[Hv1.out] at o7_3;have b3:=ag b2 hb3;have s3:=s2.step hb3;have r13_3:=r13_2.later hb3;have z3:=Nat.le_trans z2 hb3.size;have hbb3:=hbb2.trans (hb3.mono z2);have lt7:=iG b2;have y7:=z2;have q7:=hbb2.size;generalize hZ7:W2.heap.size=Z7 at o7_3 lt7 y7;have gz3:Z7<=W3.heap.size:=by rw[<-hZ7];exact hb3.size
    go_simp;refine hK _ _ ⟨s3,?_⟩;clear hK K;refine zH1 14 rfl (fun K hK=>?_);go_simp;refine (aS 2 u.2.data.toList _ _ _ W3 hn2 r13_3).mono ?_;rintro e W4 ⟨v14,rfl,o14_4,hb4⟩;rw[Hv2.out] at o14_4;have b4:=ag b3 hb4;have s4:=s3.step hb4;have o7_4:=ag o7_3 hb4;have z4:=Nat.le_trans z3 hb4.size;have gz4:=Nat.le_trans gz3 hb4.size;have hbb4:=hbb3.trans (hb4.mono z3);go_simp;refine hK _ _ ⟨s4,?_⟩;clear hK K;refine zH1 15 rfl (fun K hK=>?_);obtain⟨a14,k14,e14,r14⟩:=Rd.of_own o14_4;subst e14;refine bY rfl (.tmp 20) (.tmp 27) 34 rfl Z7 5 (.int .u8 0) 1 1 Tlv.byT v7 _ _ rfl o7_4 a14 _ k14 _ rfl r14 (bK _) h15 h15b gz4 ?_;intro ao15 cap15 W5 o15x hg15 hb15 _;have r15_5:Rd W5 1 ao15 (V1.length+V2.length) cap15 (byV (V1++V2)):=by rw[dP];exact Rd.of_own_slice o15x
    have b5:=own_below b4 hb15 lt7;have s5:=s4.below hb15 (by omega);have z5:=Nat.le_trans z4 hb15.size;have hbb5:=hbb4.trans (hb15.mono (by omega));clear o15x hg15 hb15;refine hK _ _ ⟨s5,?_⟩;clear hK K;refine zH1 16 rfl (fun K hK=>?_);go_simp;refine (aS 3 (V1++V2) ao15 (V1.length+V2.length) cap15 W5 h16 r15_5).mono ?_;rintro e W6 ⟨v16,rfl,o16_6,hb6⟩;rw[Hv3.out] at o16_6;have b6:=ag b5 hb6;have s6:=s5.step hb6;have z6:=Nat.le_trans z5 hb6.size;have hbb6:=hbb5.trans (hb6.mono z5);go_simp;refine hK _ _ ⟨s6,?_⟩;clear hK K;refine zH1 17 rfl (fun K hK=>?_);obtain⟨a16,k16,e16,r16⟩:=Rd.of_own o16_6;subst e16;refine bY rfl (.tmp 13) (.tmp 29) 34 rfl w.heap.size 5 (.int .u8 0) 1 1 Tlv.byT u5 _ _ rfl b6 a16 _ k16 _ rfl r16 (bK _) h17 h17b z6 ?_;intro ao17 cap17 W7 o17x hg17 hb17 _;have o17:W7.ownsRow w.heap.size 5 1 (.slice ao17 (A.length+V3.length) cap17) (aH (x.take (k+1))).length (byV (aH (x.take (k+1)))):=by rw[hN.out,List.length_append,dP];exact o17x
    have s7:=s6.below hb17 hl1;have hbb7:=hbb6.trans hb17;clear o17x hg17 hb17;refine hK _ _ ⟨s7,?_⟩;clear hK K;refine zHp 18 (.slice ao17 (A.length+V3.length) cap17) rfl s7 ?_;go_simp;refine wpAnyH_done (by kernel_rfl) ?_ _;clear h15 h15b h16 h17 h17b;go_wp2_with fail;go_roundw
    case rel=>exact⟨k+1,by omega,by go_num,o17,hbb7⟩
    case measure=>simp[intOf];omega
   refine wpOp_step rfl (fun K hK=>?_);obtain⟨k13,W1,hrun,r13_1,hb1⟩:=fU u.2 hm2 W0;go_simp;have b1:=ag b0 hb1;have s1:=s0.step hb1;have z1:=Nat.le_trans z0 hb1.size;have hbb1:=hbb0.trans (hb1.mono z0);clear hrun;refine hK _ _ ⟨s1,?_⟩;clear hK K;refine zH1 6 rfl (fun K hK=>?_);obtain⟨k6,W2,hrun,r6_2,hb2⟩:=fU u.1 hm1 W1;go_simp;have b2:=ag b1 hb2;have s2:=s1.step hb2;have r13_2:=r13_1.later hb2;have z2:=Nat.le_trans z1 hb2.size;have hbb2:=hbb1.trans (hb2.mono z1);clear hrun;refine hK _ _ ⟨s2,?_⟩;clear hK K;refine zH1 7 rfl (fun K hK=>?_);go_simp;refine (aS 1 u.1.data.toList _ _ _ W2 hn1 r6_2).mono ?_;rintro e W3 ⟨v7,rfl,o7_3,hb3⟩;rw[Hv1.out] at o7_3;have b3:=ag b2 hb3;have s3:=s2.step hb3;have r13_3:=r13_2.later hb3;have z3:=Nat.le_trans z2 hb3.size;have hbb3:=hbb2.trans (hb3.mono z2);have lt7:=iG b2;have y7:=z2;have q7:=hbb2.size;generalize hZ7:W2.heap.size=Z7 at o7_3 lt7 y7;have gz3:Z7<=W3.heap.size:=by rw[<-hZ7];exact hb3.size
   go_simp;refine hK _ _ ⟨s3,?_⟩;clear hK K;refine zH1 14 rfl (fun K hK=>?_);go_simp;refine (aS 2 u.2.data.toList _ _ _ W3 hn2 r13_3).mono ?_;rintro e W4 ⟨v14,rfl,o14_4,hb4⟩;rw[Hv2.out] at o14_4;have b4:=ag b3 hb4;have s4:=s3.step hb4;have o7_4:=ag o7_3 hb4;have z4:=Nat.le_trans z3 hb4.size;have gz4:=Nat.le_trans gz3 hb4.size;have hbb4:=hbb3.trans (hb4.mono z3);go_simp;refine hK _ _ ⟨s4,?_⟩;clear hK K;refine zH1 15 rfl (fun K hK=>?_);obtain⟨a14,k14,e14,r14⟩:=Rd.of_own o14_4;subst e14;refine bY rfl (.tmp 20) (.tmp 27) 34 rfl Z7 5 (.int .u8 0) 1 1 Tlv.byT v7 _ _ rfl o7_4 a14 _ k14 _ rfl r14 (bK _) h15 h15b gz4 ?_;intro ao15 cap15 W5 o15x hg15 hb15 _;have r15_5:Rd W5 1 ao15 (V1.length+V2.length) cap15 (byV (V1++V2)):=by rw[dP];exact Rd.of_own_slice o15x
   have b5:=own_below b4 hb15 lt7;have s5:=s4.below hb15 (by omega);have z5:=Nat.le_trans z4 hb15.size;have hbb5:=hbb4.trans (hb15.mono (by omega));clear o15x hg15 hb15;refine hK _ _ ⟨s5,?_⟩;clear hK K;refine zH1 16 rfl (fun K hK=>?_);go_simp;refine (aS 3 (V1++V2) ao15 (V1.length+V2.length) cap15 W5 h16 r15_5).mono ?_;rintro e W6 ⟨v16,rfl,o16_6,hb6⟩;rw[Hv3.out] at o16_6;have b6:=ag b5 hb6;have s6:=s5.step hb6;have z6:=Nat.le_trans z5 hb6.size;have hbb6:=hbb5.trans (hb6.mono z5);go_simp;refine hK _ _ ⟨s6,?_⟩;clear hK K;refine zH1 17 rfl (fun K hK=>?_);obtain⟨a16,k16,e16,r16⟩:=Rd.of_own o16_6;subst e16;refine bY rfl (.tmp 13) (.tmp 29) 34 rfl w.heap.size 5 (.int .u8 0) 1 1 Tlv.byT u5 _ _ rfl b6 a16 _ k16 _ rfl r16 (bK _) h17 h17b z6 ?_;intro ao17 cap17 W7 o17x hg17 hb17 _;have o17:W7.ownsRow w.heap.size 5 1 (.slice ao17 (A.length+V3.length) cap17) (aH (x.take (k+1))).length (byV (aH (x.take (k+1)))):=by rw[hN.out,List.length_append,dP];exact o17x
   have s7:=s6.below hb17 hl1;have hbb7:=hbb6.trans hb17;clear o17x hg17 hb17;refine hK _ _ ⟨s7,?_⟩;clear hK K;refine zHp 18 (.slice ao17 (A.length+V3.length) cap17) rfl s7 ?_;go_simp;refine wpAnyH_done (by kernel_rfl) ?_ _;clear h15 h15b h16 h17 h17b;go_wp2_with fail;go_roundw
   case rel=>exact⟨k+1,by omega,by go_num,o17,hbb7⟩
   case measure=>simp[intOf];omega
  have hke:k=n:=by omega
  have hfull:x.take k=x:=List.take_of_length_le (by rw[LX.out];omega);rw[hfull] at own;obtain⟨ao',cap',e',hr'⟩:=Rd.of_own own;subst e';have z0:=hbr.size;have hlen:(aH x).length<=4194304:=Nat.le_trans HL.out (by decide);clear hke hfull;go_wp2_with fail;refine (aS t (aH x) ao' _ cap' wr hlen hr').mono ?_;rintro e W1 ⟨v1,rfl,o1,hb1⟩;go_wp2_with fail;go_ret;exact⟨v1,rfl,own_base o1 z0,hbr.trans (hb1.mono z0)⟩
theorem Fb (t:UInt8)(ao:Option Addr)(n cap:Nat)(x:List ByteArray)(w:World)(hx:Rd w 1 ao n cap (txV x))(hn:n<=1000)(hu:∀u∈x,u.size<=1000)(hl:(bJ x).length<=200000) :
  Calls Tryz.prog 158 #[.int .u8 (t.toNat:Int),.slice ao n cap] w (ja w (val t (bJ x))):=by
 have lx:x.length=n:=by have:=hx.1;rw[gG] at this;omega
 have LX:=hid lx;have HL:=hid hl;clear lx hl;have own0:w.ownsRow w.heap.size 5 1 (.slice none 0 0) (bJ (x.take 0)).length (byV (bJ (x.take 0))):=World.ownsRow_nil _ _ _ _;go_in;go_wp2_with fail;go_loopw [5,6] (fun bv p wr=>∃k:Nat,k<=n/\p=.int .i64 (k:Int)/\wr.ownsRow w.heap.size 5 1 bv (bJ (x.take k)).length (byV (bJ (x.take k)))/\Below w.heap.size w wr) (fun _ p _=>n-(intOf p).toNat)
 case atStart=>exact⟨0,Nat.zero_le _,rfl,own0,Below.refl _ _⟩
 case round=>
  obtain⟨k,hk,rfl,own,hbr⟩:=hrel;by_cases hkn:k<n
  ·obtain⟨b1,o1,rfl,hl1,hc1⟩:=hx.some (by have:=hx.le;omega);obtain⟨u,hue⟩:∃u,x[k]?=some u:=⟨_,List.getElem?_eq_getElem (by rw[LX.out];exact hkn)⟩
   have c1:=(hbr.cell (p:=⟨b1,o1+k,none⟩) hl1).trans (hc1 k _ (nz x k u hue));have c2:wr.cell? ⟨b1,o1+k*1,none⟩=some (.string u):=by rw[Nat.mul_one];exact c1
   have hu1:=hu u (List.mem_of_getElem? hue);have hm1:u.size<=maxLen:=by unfold maxLen;omega
   have hn1:u.size<=4194304:=by omega
   have hL:(bJ (x.take k)).length<=200000:=Nat.le_trans (Nl x k) HL.out;have hnext:=hid (Jc x k u hue);obtain⟨V1,hv1⟩:∃V1,val 1 u.data.toList=V1:=⟨_,rfl⟩
   obtain⟨A,hA⟩:∃A,bJ (x.take k)=A:=⟨_,rfl⟩
   have hV1:V1.length=u.size+5:=by rw[<-hv1,af,dD];omega
   have hN:Hid (bJ (x.take (k+1))=A++V1):=hid (by rw[hnext.out,hv1,hA]);rw[hA] at hL;have h17:A.length+V1.length<=maxLen:=by rw[hV1];unfold maxLen;omega
   have h17b:(A.length+V1.length)*1<=140737488355328:=by rw[hV1];omega
   rw[hA] at own;have Hv1:=hid hv1;clear hv1 hA hL hnext hV1 hc1;have i0:(0:Int)<=(k:Int):=by omega
   have i1:(k:Int)<(n:Int):=by omega
   have z0:=hbr.size;obtain⟨k1,W1,hrun,r1,hb1⟩:=fU u hm1 wr;go_wp2_with fail;refine (aS 1 u.data.toList _ _ _ W1 hn1 r1).mono ?_;rintro e W2 ⟨v1,rfl,o2,hb2⟩;rw[Hv1.out] at o2;obtain⟨a2,k2,e2,r2⟩:=Rd.of_own o2;subst e2;have own2:=ag (ag own hb1) hb2;have hB2:=(hbr.trans (hb1.mono z0)).trans (hb2.mono (Nat.le_trans z0 hb1.size));have z2:=hB2.size;clear hrun c1 c2 own r1 o2 hm1 hn1 hu1;go_wp2_with (at_builtin;refine fO _ rfl (.tmp 13) (.tmp 19) 34 rfl w.heap.size 5 (.int .u8 0) 1 1 Tlv.byT u5 _ _ rfl own2 a2 _ k2 _ rfl r2 (bK _) h17 h17b z2 ?_;intro ao3 cap3 W3 o3 _ hb3 _);have o4:W3.ownsRow w.heap.size 5 1 (.slice ao3 (A.length+V1.length) cap3) (bJ (x.take (k+1))).length (byV (bJ (x.take (k+1)))):=by rw[hN.out,List.length_append,dP];exact o3
   clear h17 h17b;go_roundw
   case rel=>exact⟨k+1,by omega,by go_num,o4,hB2.trans hb3⟩
   case measure=>simp[intOf];omega
  have hke:k=n:=by omega
  have hfull:x.take k=x:=List.take_of_length_le (by rw[LX.out];omega);rw[hfull] at own;obtain⟨ao',cap',e',hr'⟩:=Rd.of_own own;subst e';have z0:=hbr.size;have hlen:(bJ x).length<=4194304:=Nat.le_trans HL.out (by decide);clear hke hfull;go_wp2_with fail;refine (aS t (bJ x) ao' _ cap' wr hlen hr').mono ?_;rintro e W1 ⟨v1,rfl,o1,hb1⟩;go_wp2_with fail;go_ret;exact⟨v1,rfl,own_base o1 z0,hbr.trans (hb1.mono z0)⟩
end Go.Proofs.YtfmmandlmbcncaaGreatDoor.Msg
