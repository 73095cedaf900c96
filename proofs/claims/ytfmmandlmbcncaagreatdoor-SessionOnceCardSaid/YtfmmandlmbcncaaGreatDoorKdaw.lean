/-
  A part of the proof.
-/
import Derived.Test.YtfmmandlmbcncaaGreatDoorKdav
import Derived.Test.YtfmmandlmbcncaaGreatDoorKdao
set_option maxHeartbeats 40000000
set_option maxRecDepth 100000
namespace Go.Proofs.YtfmmandlmbcncaaGreatDoor.Msg
open Go.RowKit Go.Lib Mem Utf Tlv
theorem kW {W:World}{B size n:Nat}{e:TypeId}{v:Value}{xs:List Value}(h:W.ownsRow B e size v n xs):∀k,v.ownBlock=some k->k<W.heap.size:=by
 intro k hk;rcases h.2 with ⟨rfl,-⟩ | ⟨g,cap,cur,rfl,-,hg,-⟩
 ·cases hk
 have:g=k:=by simpa [Value.ownBlock] using hk
 subst this;exact (Array.getElem?_eq_some_iff.1 hg).1
theorem own_below {W W':World}{B B' n size:Nat}{e:TypeId}{v:Value}{xs:List Value}(h:W.ownsRow B e size v n xs)(hb:Below B' W W')(hlt:∀k,v.ownBlock=some k->k<B'):W'.ownsRow B e size v n xs:=by
 obtain⟨h1,h2⟩:=h;refine⟨h1,?_⟩;rcases h2 with h2 | ⟨g,cap,cur,hv,hbg,hg,rest⟩
 ·exact .inl h2
 exact .inr ⟨g,cap,cur,hv,hbg,(hb.block g (hlt g (by rw[hv];rfl))).trans hg,rest⟩
theorem J8 (l:List (ByteArray×ByteArray))(k:Nat)(u:ByteArray×ByteArray)(h:l[k]?=some u):aC (l.take (k+1))=aC (l.take k)++val 3 (val 1 u.1.data.toList++val 2 u.2.data.toList):=by
 obtain⟨hl,e⟩:=List.getElem?_eq_some_iff.1 h;rw[List.take_succ_eq_append_getElem hl,e];simp[aC]
theorem ND (l:List (ByteArray×ByteArray))(k:Nat):(aC (l.take k)).length<=(aC l).length:=by
 have e:aC l=aC (l.take k)++aC (l.drop k):=by unfold aC;rw[<-List.flatMap_append,List.take_append_drop]
 rw[e,List.length_append];omega
def AtAt (u:ByteArray×ByteArray)(b o:Nat)(W:World):Prop:=W.cell? ⟨b,o,none⟩=some (.string u.1)/\W.cell? ⟨b,o+1,none⟩=some (.string u.2)
theorem AtAt.step {u:ByteArray×ByteArray}{b o:Nat}{W W':World}(h:AtAt u b o W)(hb:Below W.heap.size W W'):AtAt u b o W':=⟨aU hb h.1,aU hb h.2⟩
theorem AtAt.below {u:ByteArray×ByteArray}{b o B:Nat}{W W':World}(h:AtAt u b o W)(hb:Below B W W')(hlt:b<B):AtAt u b o W':=⟨(hb.cell (p:=⟨b,o,none⟩) hlt).trans h.1,(hb.cell (p:=⟨b,o+1,none⟩) hlt).trans h.2⟩
theorem FQ (t:UInt8)(ao:Option Addr)(n cap:Nat)(x:List (ByteArray×ByteArray))(w:World)(hx:Rd w 2 ao n cap (atV x))(hn:n<=1000)(hu:∀u∈x,u.1.size<=1000/\u.2.size<=1000)(hl:(aC x).length<=200000) :
  Calls Tryz.prog 157 #[.int .u8 (t.toNat:Int),.slice ao n cap] w (kz w (val t (aC x))):=by
 have hmo:Tryz.prog.follows .mixedOrders=true:=by kernel_rfl
 have lx:x.length=n:=by have:=hx.1;rw[fE] at this;omega
 have LX:=hid lx;have HL:=hid hl;clear lx hl;have own0:w.ownsRow w.heap.size 5 1 (.slice none 0 0) (aC (x.take 0)).length (byV (aC (x.take 0))):=World.ownsRow_nil _ _ _ _;go_in;go_wp2_with fail;go_loopw [5,6] (fun bv p wr=>∃k:Nat,k<=n/\p=.int .i64 (k:Int)/\wr.ownsRow w.heap.size 5 1 bv (aC (x.take k)).length (byV (aC (x.take k)))/\Below w.heap.size w wr) (fun _ p _=>n-(intOf p).toNat)
 case atStart=>exact⟨0,Nat.zero_le _,rfl,own0,Below.refl _ _⟩
 case round=>
  obtain⟨k,hk,rfl,own,hbr⟩:=hrel;by_cases hkn:k<n
  ·obtain⟨b1,o1,rfl,hl1,hc1⟩:=hx.some (by have:=hx.le;omega);obtain⟨u,hue⟩:∃u,x[k]?=some u:=⟨_,List.getElem?_eq_getElem (by rw[LX.out];exact hkn)⟩
   obtain⟨v1,v2⟩:=jE x k u hue;have c1:=(hbr.cell (p:=⟨b1,o1+k*2,none⟩) hl1).trans (hc1 (k*2) _ v1);have c2:wr.cell? ⟨b1,o1+k*2+1,none⟩=_:=(hbr.cell (p:=⟨b1,o1+(k*2+1),none⟩) hl1).trans (hc1 (k*2+1) _ v2);obtain⟨hu1,hu2⟩:=hu u (List.mem_of_getElem? hue);have hm1:u.1.size<=maxLen:=by unfold maxLen;omega
   have hm2:u.2.size<=maxLen:=by unfold maxLen;omega
   have hn1:u.1.size<=4194304:=by omega
   have hn2:u.2.size<=4194304:=by omega
   have hL:(aC (x.take k)).length<=200000:=Nat.le_trans (ND x k) HL.out;have hnext:=hid (J8 x k u hue);obtain⟨V1,hv1⟩:∃V1,val 1 u.1.data.toList=V1:=⟨_,rfl⟩
   obtain⟨V2,hv2⟩:∃V2,val 2 u.2.data.toList=V2:=⟨_,rfl⟩
   obtain⟨V3,hv3⟩:∃V3,val 3 (V1++V2)=V3:=⟨_,rfl⟩
   obtain⟨A,hA⟩:∃A,aC (x.take k)=A:=⟨_,rfl⟩
   have hV1:V1.length=u.1.size+5:=by rw[<-hv1,ae,dC];omega
   have hV2:V2.length=u.2.size+5:=by rw[<-hv2,ae,dC];omega
   have hV3:V3.length=u.1.size+5+(u.2.size+5)+5:=by rw[<-hv3,ae,List.length_append,hV1,hV2];omega
   have hN:Hid (aC (x.take (k+1))=A++V3):=hid (by rw[hnext.out,hv1,hv2,hv3,hA]);have h15:V1.length+V2.length<=maxLen:=by rw[hV1,hV2];unfold maxLen;omega
   have h15b:(V1.length+V2.length)*1<=140737488355328:=by rw[hV1,hV2];omega
   have h16:V1.length+V2.length<=4194304:=by rw[hV1,hV2];omega
   rw[hA] at hL;have h17:A.length+V3.length<=maxLen:=by rw[hV3];unfold maxLen;omega
   have h17b:(A.length+V3.length)*1<=140737488355328:=by rw[hV3];omega
   rw[hA] at own;have Hv1:=hid hv1;have Hv2:=hid hv2;have Hv3:=hid hv3;clear hv1 hv2 hv3 hA hL hnext;have i0:(0:Int)<=(k:Int):=by omega
   have i1:(k:Int)<(n:Int):=by omega
   have s0:AtAt u b1 (o1+k*2) wr.drew:=⟨c1,c2⟩
   have b0:wr.drew.ownsRow w.heap.size 5 1 u5 A.length (byV A):=aF own (Below.refl _ _).drew;have hb0:Below w.heap.size w wr.drew:=hbr.drew;have z0:=hb0.size;clear v1 v2 c1 c2 hc1 hV1 hV2 hV3;go_upto_region 5 with fail;refine wp_region_held (S:=AtAt u b1 (o1+k*2)) hmo ?_;change wpAnyH _ _ _ _ _ _ _ _ (World.drew wr);clear own hbr;generalize World.drew wr=W0 at *;have hbb0:=hb0;refine zHp 0 (u5) rfl s0 ?_;go_simp;refine zHp 1 (.slice (some ⟨b1,o1,none⟩) n cap) rfl s0 ?_;go_simp;refine zHp 2 (.int .i64 (k:Int)) rfl s0 ?_;go_simp;refine zHa 3 (.pointer (some ⟨b1,o1+k*2,none⟩)) rfl (by rintro w h;obtain⟨c0,c1⟩:=h;go_simp) s0 ?_;go_simp;refine zHa 4 (.pointer (some ⟨b1,o1+k*2,none⟩)) rfl (by rintro w h;obtain⟨c0,c1⟩:=h;go_simp) s0 ?_;go_simp;refine zHa 5 (.string u.1) rfl (by rintro w h;obtain⟨c0,c1⟩:=h;go_simp) s0 ?_;go_simp;refine zHp 8 (.slice (some ⟨b1,o1,none⟩) n cap) rfl s0 ?_;go_simp;refine zHp 9 (.int .i64 (k:Int)) rfl s0 ?_;go_simp;refine zHa 10 (.pointer (some ⟨b1,o1+k*2,none⟩)) rfl (by rintro w h;obtain⟨c0,c1⟩:=h;go_simp) s0 ?_;go_simp;refine zHa 11 (.pointer (some ⟨b1,o1+k*2+1,none⟩)) rfl (by rintro w h;obtain⟨c0,c1⟩:=h;go_simp) s0 ?_;go_simp;refine zHa 12 (.string u.2) rfl (by rintro w h;obtain⟨c0,c1⟩:=h;go_simp) s0 ?_;go_simp;refine wpAnyH_all (rs:=[6,13]) (by kernel_rfl) (by simp) (fun j hj=>?_);simp only[List.mem_cons,List.not_mem_nil,or_false] at hj;rcases hj with rfl|rfl
   ·refine wpOp_step rfl (fun K hK=>?_);obtain⟨k6,W1,hrun,r6_1,hb1⟩:=lU u.1 hm1 W0;go_simp;have b1:=aF b0 hb1;have s1:=s0.step hb1;have z1:=Nat.le_trans z0 hb1.size;have hbb1:=hbb0.trans (hb1.mono z0);clear hrun;refine hK _ _ ⟨s1,?_⟩;clear hK K;refine wpAnyH_all (rs:=[7,13]) (by kernel_rfl) (by simp) (fun j hj=>?_);simp only[List.mem_cons,List.not_mem_nil,or_false] at hj;rcases hj with rfl|rfl
    ·refine wpOp_step rfl (fun K hK=>?_);go_simp;refine (di 1 u.1.data.toList _ _ _ W1 hn1 r6_1).mono ?_;rintro e W2 ⟨v7,rfl,o7_2,hb2⟩;rw[Hv1.out] at o7_2;have b2:=aF b1 hb2;have s2:=s1.step hb2;have z2:=Nat.le_trans z1 hb2.size;have hbb2:=hbb1.trans (hb2.mono z1);have lt7:=kW b1;have y7:=z1;have q7:=hbb1.size;generalize hZ7:W1.heap.size=Z7 at o7_2 lt7 y7;have gz2:Z7<=W2.heap.size:=by rw[<-hZ7];exact hb2.size
     go_simp;refine hK _ _ ⟨s2,?_⟩;clear hK K;refine zH1 13 rfl (fun K hK=>?_);obtain⟨k13,W3,hrun,r13_3,hb3⟩:=lU u.2 hm2 W2;go_simp;have b3:=aF b2 hb3;have s3:=s2.step hb3;have o7_3:=aF o7_2 hb3;have z3:=Nat.le_trans z2 hb3.size;have gz3:=Nat.le_trans gz2 hb3.size;have hbb3:=hbb2.trans (hb3.mono z2);clear hrun;refine hK _ _ ⟨s3,?_⟩;clear hK K;refine zH1 14 rfl (fun K hK=>?_);go_simp;refine (di 2 u.2.data.toList _ _ _ W3 hn2 r13_3).mono ?_;rintro e W4 ⟨v14,rfl,o14_4,hb4⟩;rw[Hv2.out] at o14_4;have b4:=aF b3 hb4;have s4:=s3.step hb4;have o7_4:=aF o7_3 hb4;have z4:=Nat.le_trans z3 hb4.size;have gz4:=Nat.le_trans gz3 hb4.size;have hbb4:=hbb3.trans (hb4.mono z3);go_simp;refine hK _ _ ⟨s4,?_⟩;clear hK K;refine zH1 15 rfl (fun K hK=>?_);obtain⟨a14,k14,e14,r14⟩:=Rd.of_own o14_4;subst e14;refine gX rfl (.tmp 20) (.tmp 27) 34 rfl Z7 5 (.int .u8 0) 1 1 Tlv.byT v7 _ _ rfl o7_4 a14 _ k14 _ rfl r14 (eP _) h15 h15b gz4 ?_;intro ao15 cap15 W5 o15x hg15 hb15 _;have r15_5:Rd W5 1 ao15 (V1.length+V2.length) cap15 (byV (V1++V2)):=by rw[iy];exact Rd.of_own_slice o15x
     have b5:=own_below b4 hb15 lt7;have s5:=s4.below hb15 (by omega);have z5:=Nat.le_trans z4 hb15.size;have hbb5:=hbb4.trans (hb15.mono (by omega));clear o15x hg15 hb15;refine hK _ _ ⟨s5,?_⟩;clear hK K;refine zH1 16 rfl (fun K hK=>?_);go_simp;refine (di 3 (V1++V2) ao15 (V1.length+V2.length) cap15 W5 h16 r15_5).mono ?_;rintro e W6 ⟨v16,rfl,o16_6,hb6⟩;rw[Hv3.out] at o16_6;have b6:=aF b5 hb6;have s6:=s5.step hb6;have z6:=Nat.le_trans z5 hb6.size;have hbb6:=hbb5.trans (hb6.mono z5);go_simp;refine hK _ _ ⟨s6,?_⟩;clear hK K;refine zH1 17 rfl (fun K hK=>?_);obtain⟨a16,k16,e16,r16⟩:=Rd.of_own o16_6;subst e16;refine gX rfl (.tmp 13) (.tmp 29) 34 rfl w.heap.size 5 (.int .u8 0) 1 1 Tlv.byT u5 _ _ rfl b6 a16 _ k16 _ rfl r16 (eP _) h17 h17b z6 ?_;intro ao17 cap17 W7 o17x hg17 hb17 _;have o17:W7.ownsRow w.heap.size 5 1 (.slice ao17 (A.length+V3.length) cap17) (aC (x.take (k+1))).length (byV (aC (x.take (k+1)))):=by rw[hN.out,List.length_append,iy];exact o17x
     have s7:=s6.below hb17 hl1;have hbb7:=hbb6.trans hb17;clear o17x hg17 hb17;refine hK _ _ ⟨s7,?_⟩;clear hK K;refine zHp 18 (.slice ao17 (A.length+V3.length) cap17) rfl s7 ?_;go_simp;refine wpAnyH_done (by kernel_rfl) ?_ _;clear h15 h15b h16 h17 h17b;go_wp2_with fail;go_roundw
     case rel=>exact⟨k+1,by omega,by go_num,o17,hbb7⟩
     case measure=>simp[intOf];omega
    refine wpOp_step rfl (fun K hK=>?_);obtain⟨k13,W2,hrun,r13_2,hb2⟩:=lU u.2 hm2 W1;go_simp;have b2:=aF b1 hb2;have s2:=s1.step hb2;have r6_2:=r6_1.later hb2;have z2:=Nat.le_trans z1 hb2.size;have hbb2:=hbb1.trans (hb2.mono z1);clear hrun;refine hK _ _ ⟨s2,?_⟩;clear hK K;refine zH1 7 rfl (fun K hK=>?_);go_simp;refine (di 1 u.1.data.toList _ _ _ W2 hn1 r6_2).mono ?_;rintro e W3 ⟨v7,rfl,o7_3,hb3⟩;rw[Hv1.out] at o7_3;have b3:=aF b2 hb3;have s3:=s2.step hb3;have r13_3:=r13_2.later hb3;have z3:=Nat.le_trans z2 hb3.size;have hbb3:=hbb2.trans (hb3.mono z2);have lt7:=kW b2;have y7:=z2;have q7:=hbb2.size;generalize hZ7:W2.heap.size=Z7 at o7_3 lt7 y7;have gz3:Z7<=W3.heap.size:=by rw[<-hZ7];exact hb3.size
    go_simp;refine hK _ _ ⟨s3,?_⟩;clear hK K;refine zH1 14 rfl (fun K hK=>?_);go_simp;refine (di 2 u.2.data.toList _ _ _ W3 hn2 r13_3).mono ?_;rintro e W4 ⟨v14,rfl,o14_4,hb4⟩;rw[Hv2.out] at o14_4;have b4:=aF b3 hb4;have s4:=s3.step hb4;have o7_4:=aF o7_3 hb4;have z4:=Nat.le_trans z3 hb4.size;have gz4:=Nat.le_trans gz3 hb4.size;have hbb4:=hbb3.trans (hb4.mono z3);go_simp;refine hK _ _ ⟨s4,?_⟩;clear hK K;refine zH1 15 rfl (fun K hK=>?_);obtain⟨a14,k14,e14,r14⟩:=Rd.of_own o14_4;subst e14;refine gX rfl (.tmp 20) (.tmp 27) 34 rfl Z7 5 (.int .u8 0) 1 1 Tlv.byT v7 _ _ rfl o7_4 a14 _ k14 _ rfl r14 (eP _) h15 h15b gz4 ?_;intro ao15 cap15 W5 o15x hg15 hb15 _;have r15_5:Rd W5 1 ao15 (V1.length+V2.length) cap15 (byV (V1++V2)):=by rw[iy];exact Rd.of_own_slice o15x
    have b5:=own_below b4 hb15 lt7;have s5:=s4.below hb15 (by omega);have z5:=Nat.le_trans z4 hb15.size;have hbb5:=hbb4.trans (hb15.mono (by omega));clear o15x hg15 hb15;refine hK _ _ ⟨s5,?_⟩;clear hK K;refine zH1 16 rfl (fun K hK=>?_);go_simp;refine (di 3 (V1++V2) ao15 (V1.length+V2.length) cap15 W5 h16 r15_5).mono ?_;rintro e W6 ⟨v16,rfl,o16_6,hb6⟩;rw[Hv3.out] at o16_6;have b6:=aF b5 hb6;have s6:=s5.step hb6;have z6:=Nat.le_trans z5 hb6.size;have hbb6:=hbb5.trans (hb6.mono z5);go_simp;refine hK _ _ ⟨s6,?_⟩;clear hK K;refine zH1 17 rfl (fun K hK=>?_);obtain⟨a16,k16,e16,r16⟩:=Rd.of_own o16_6;subst e16;refine gX rfl (.tmp 13) (.tmp 29) 34 rfl w.heap.size 5 (.int .u8 0) 1 1 Tlv.byT u5 _ _ rfl b6 a16 _ k16 _ rfl r16 (eP _) h17 h17b z6 ?_;intro ao17 cap17 W7 o17x hg17 hb17 _;have o17:W7.ownsRow w.heap.size 5 1 (.slice ao17 (A.length+V3.length) cap17) (aC (x.take (k+1))).length (byV (aC (x.take (k+1)))):=by rw[hN.out,List.length_append,iy];exact o17x
    have s7:=s6.below hb17 hl1;have hbb7:=hbb6.trans hb17;clear o17x hg17 hb17;refine hK _ _ ⟨s7,?_⟩;clear hK K;refine zHp 18 (.slice ao17 (A.length+V3.length) cap17) rfl s7 ?_;go_simp;refine wpAnyH_done (by kernel_rfl) ?_ _;clear h15 h15b h16 h17 h17b;go_wp2_with fail;go_roundw
    case rel=>exact⟨k+1,by omega,by go_num,o17,hbb7⟩
    case measure=>simp[intOf];omega
   refine wpOp_step rfl (fun K hK=>?_);obtain⟨k13,W1,hrun,r13_1,hb1⟩:=lU u.2 hm2 W0;go_simp;have b1:=aF b0 hb1;have s1:=s0.step hb1;have z1:=Nat.le_trans z0 hb1.size;have hbb1:=hbb0.trans (hb1.mono z0);clear hrun;refine hK _ _ ⟨s1,?_⟩;clear hK K;refine zH1 6 rfl (fun K hK=>?_);obtain⟨k6,W2,hrun,r6_2,hb2⟩:=lU u.1 hm1 W1;go_simp;have b2:=aF b1 hb2;have s2:=s1.step hb2;have r13_2:=r13_1.later hb2;have z2:=Nat.le_trans z1 hb2.size;have hbb2:=hbb1.trans (hb2.mono z1);clear hrun;refine hK _ _ ⟨s2,?_⟩;clear hK K;refine zH1 7 rfl (fun K hK=>?_);go_simp;refine (di 1 u.1.data.toList _ _ _ W2 hn1 r6_2).mono ?_;rintro e W3 ⟨v7,rfl,o7_3,hb3⟩;rw[Hv1.out] at o7_3;have b3:=aF b2 hb3;have s3:=s2.step hb3;have r13_3:=r13_2.later hb3;have z3:=Nat.le_trans z2 hb3.size;have hbb3:=hbb2.trans (hb3.mono z2);have lt7:=kW b2;have y7:=z2;have q7:=hbb2.size;generalize hZ7:W2.heap.size=Z7 at o7_3 lt7 y7;have gz3:Z7<=W3.heap.size:=by rw[<-hZ7];exact hb3.size
   go_simp;refine hK _ _ ⟨s3,?_⟩;clear hK K;refine zH1 14 rfl (fun K hK=>?_);go_simp;refine (di 2 u.2.data.toList _ _ _ W3 hn2 r13_3).mono ?_;rintro e W4 ⟨v14,rfl,o14_4,hb4⟩;rw[Hv2.out] at o14_4;have b4:=aF b3 hb4;have s4:=s3.step hb4;have o7_4:=aF o7_3 hb4;have z4:=Nat.le_trans z3 hb4.size;have gz4:=Nat.le_trans gz3 hb4.size;have hbb4:=hbb3.trans (hb4.mono z3);go_simp;refine hK _ _ ⟨s4,?_⟩;clear hK K;refine zH1 15 rfl (fun K hK=>?_);obtain⟨a14,k14,e14,r14⟩:=Rd.of_own o14_4;subst e14;refine gX rfl (.tmp 20) (.tmp 27) 34 rfl Z7 5 (.int .u8 0) 1 1 Tlv.byT v7 _ _ rfl o7_4 a14 _ k14 _ rfl r14 (eP _) h15 h15b gz4 ?_;intro ao15 cap15 W5 o15x hg15 hb15 _;have r15_5:Rd W5 1 ao15 (V1.length+V2.length) cap15 (byV (V1++V2)):=by rw[iy];exact Rd.of_own_slice o15x
   have b5:=own_below b4 hb15 lt7;have s5:=s4.below hb15 (by omega);have z5:=Nat.le_trans z4 hb15.size;have hbb5:=hbb4.trans (hb15.mono (by omega));clear o15x hg15 hb15;refine hK _ _ ⟨s5,?_⟩;clear hK K;refine zH1 16 rfl (fun K hK=>?_);go_simp;refine (di 3 (V1++V2) ao15 (V1.length+V2.length) cap15 W5 h16 r15_5).mono ?_;rintro e W6 ⟨v16,rfl,o16_6,hb6⟩;rw[Hv3.out] at o16_6;have b6:=aF b5 hb6;have s6:=s5.step hb6;have z6:=Nat.le_trans z5 hb6.size;have hbb6:=hbb5.trans (hb6.mono z5);go_simp;refine hK _ _ ⟨s6,?_⟩;clear hK K;refine zH1 17 rfl (fun K hK=>?_);obtain⟨a16,k16,e16,r16⟩:=Rd.of_own o16_6;subst e16;refine gX rfl (.tmp 13) (.tmp 29) 34 rfl w.heap.size 5 (.int .u8 0) 1 1 Tlv.byT u5 _ _ rfl b6 a16 _ k16 _ rfl r16 (eP _) h17 h17b z6 ?_;intro ao17 cap17 W7 o17x hg17 hb17 _;have o17:W7.ownsRow w.heap.size 5 1 (.slice ao17 (A.length+V3.length) cap17) (aC (x.take (k+1))).length (byV (aC (x.take (k+1)))):=by rw[hN.out,List.length_append,iy];exact o17x
   have s7:=s6.below hb17 hl1;have hbb7:=hbb6.trans hb17;clear o17x hg17 hb17;refine hK _ _ ⟨s7,?_⟩;clear hK K;refine zHp 18 (.slice ao17 (A.length+V3.length) cap17) rfl s7 ?_;go_simp;refine wpAnyH_done (by kernel_rfl) ?_ _;clear h15 h15b h16 h17 h17b;go_wp2_with fail;go_roundw
   case rel=>exact⟨k+1,by omega,by go_num,o17,hbb7⟩
   case measure=>simp[intOf];omega
  have hke:k=n:=by omega
  have hfull:x.take k=x:=List.take_of_length_le (by rw[LX.out];omega);rw[hfull] at own;obtain⟨ao',cap',e',hr'⟩:=Rd.of_own own;subst e';have z0:=hbr.size;have hlen:(aC x).length<=4194304:=Nat.le_trans HL.out (by decide);clear hke hfull;go_wp2_with fail;refine (di t (aC x) ao' _ cap' wr hlen hr').mono ?_;rintro e W1 ⟨v1,rfl,o1,hb1⟩;go_wp2_with fail;go_ret;exact⟨v1,rfl,own_base o1 z0,hbr.trans (hb1.mono z0)⟩
theorem rD {v:OV}{c:OC}(h:aB v c=true):wM v c=opL v c:=by unfold wM;rw[if_pos h]
end Go.Proofs.YtfmmandlmbcncaaGreatDoor.Msg
namespace Go.Proofs.YtfmmandlmbcncaaGreatDoor.Msg
open Go.RowKit Go.Lib Mem Tlv
structure U64R (r:RV):Prop where
 c0:0<=r.cl
 c1:r.cl<18446744073709551616
 n0:0<=r.nu
 n1:r.nu<18446744073709551616
def A7 (b:List UInt8):Prop:=∀W r c,OpAt W r.op c->aB r.op c=true->U64R r->eQ r (opL r.op c)≠b
theorem gU {W:World}{v:OV}{c:OC}(ho:OpAt W v c)(hm:aB v c=true):(opL v c).length<=4000000:=by
 have:=(jy W v c ho).len;rw[rD hm] at this;exact this
theorem pg (r:RV)(bl:List UInt8):eQ r bl=val 1 (az r.cl.toNat)++(val 2 (az r.nu.toNat)++(val 3 bl++[])):=by unfold eQ;simp
theorem Dj {W W':World}{r r':RV}{c c':OC}(ho:OpAt W r.op c)(ho':OpAt W' r'.op c')(hm:aB r.op c=true)(hm':aB r'.op c'=true)(hu:U64R r)(hu':U64R r')(h:eQ r (opL r.op c)=eQ r' (opL r'.op c')):r.cl=r'.cl/\r.nu=r'.nu/\bK r.op c r'.op c'=true:=by
 have l1:=gU ho hm;have l2:=gU ho' hm';rw[pg,pg] at h;obtain⟨h1,h⟩:=ak (by decide) (by rw[ah];omega) (by rw[ah];omega) h;obtain⟨h2,h⟩:=ak (by decide) (by rw[ah];omega) (by rw[ah];omega) h;obtain⟨h3,-⟩:=ak (by decide) (by omega) (by omega) h;have a0:=hu.c0;have a1:=hu.c1;have a2:=hu.n0;have a3:=hu.n1;have b0:=hu'.c0;have b1:=hu'.c1;have b2:=hu'.n0;have b3:=hu'.n1;have e1:=gV (by omega) (by omega) h1;have e2:=gV (by omega) (by omega) h2;exact⟨by omega,by omega,OJ ho ho' hm hm' h3⟩
section
variable {b y:List UInt8} {s1 s2 s3:RS} {n1 n2:Nat}
 (T1:Took (fun n:Nat=>val 1 (az n)) (fun n=>n<18446744073709551616) (fun n=>n<18446744073709551616) ⟨b,false⟩ n1 s1)
 (T2:Took (fun n:Nat=>val 2 (az n)) (fun n=>n<18446744073709551616) (fun n=>n<18446744073709551616) s1 n2 s2)
 (T3:Took (val 3) (fun z=>z.length<=4194304) (fun z=>z.length<=4194304) s2 y s3)
include T1 T2 T3
theorem Az (h:(s3.bad=true\/0<s3.l.length)\/yN y):A7 b:=by
 intro W r c ho hm hu e;have lo:=gU ho hm;rw[pg] at e;have a0:=hu.c0;have a1:=hu.c1;have a2:=hu.n0;have a3:=hu.n1;cases h1:s1.bad with
 | true=>
  rcases T1.no h1 with h | h
  ·cases h
  exact h r.cl.toNat _ (by omega) e.symm
 | false=>
  obtain⟨-,e1,g1⟩:=T1.yes h1;dsimp only at e1;rw[e1] at e;obtain⟨-,e⟩:=ak (by decide) (by rw[ah];omega) (by rw[ah];omega) e;cases h2:s2.bad with
  | true=>
   rcases T2.no h2 with h | h
   ·rw[h1] at h;cases h
   exact h r.nu.toNat _ (by omega) e.symm
  | false=>
   obtain⟨-,e2,g2⟩:=T2.yes h2;rw[e2] at e;obtain⟨-,e⟩:=ak (by decide) (by rw[ah];omega) (by rw[ah];omega) e;cases h3:s3.bad with
   | true=>
    rcases T3.no h3 with h | h
    ·rw[h2] at h;cases h
    exact h (opL r.op c) [] (by omega) e.symm
   | false=>
    obtain⟨-,e3,g3⟩:=T3.yes h3;rw[e3] at e;obtain⟨ey,e⟩:=ak (by decide) (by omega) g3 e;rcases h with (h | h) | h
    ·rw[h3] at h;cases h
    ·rw[<-e] at h;simp at h
    exact h W r.op c ho hm ey
theorem KR (h3:s3.bad=false)(hl:s3.l=[]):b=val 1 (az n1)++(val 2 (az n2)++(val 3 y++[]))/\n1<18446744073709551616/\n2<18446744073709551616:=by
 obtain⟨h2,e3,-⟩:=T3.yes h3;obtain⟨h1,e2,g2⟩:=T2.yes h2;obtain⟨-,e1,g1⟩:=T1.yes h1;dsimp only at e1;exact⟨by rw[e1,e2,e3,hl],g1,g2⟩
end
def Du (T:World->OV->Prop)(ok bad:Value)(b:List UInt8)(w:World)(e:Ending)(w':World):Prop:=Below w.heap.size w w' /\
 ((∃r c,e=.returned (.tuple #[RV.val r,ok])/\OpAt w' r.op c/\T w' r.op/\U64R r/\aB r.op c=true/\eQ r (opL r.op c)=b)\/(e=.returned (.tuple #[dN.val,bad])/\A7 b))
theorem Bh {W:World}{b k:Nat}{u:OV}(h:k≠b):(jP W b u).heap[k]?=W.heap[k]?:=by
 unfold jP;simp only[show ∀(X:World) (i:Nat) (x:Value),(X.setCell ⟨b,i,none⟩ x).heap[k]?=X.heap[k]? from fun X i x=>Below.heap_setCell X ⟨b,i,none⟩ x k h]
theorem DT {W W':World}{b:Nat}{r:RV}(h:W.heap[b]?=some r.box)(hs:W.heap.size<=W'.heap.size)(ho:∀k,k≠b->W'.heap[k]?=W.heap[k]?):KeepR W W':=by
 refine⟨hs,fun k c t fr ht hk=>?_⟩;have hne:k≠b:=fun e=>by
  subst e;rw[h] at hk;cases hk;rcases ht with h | h | h<;>exact absurd h (by decide)
 exact (ho k hne).trans hk
theorem Cj {W:World}{b:Nat}{u:OV}:(jP W b u).heap.size=W.heap.size:=by unfold jP;simp only[World.size_setCell]
theorem su (b:List UInt8)(ao:Option Addr)(n cap:Nat)(w:World)(hr:Rd w 1 ao n cap (byV b))(hn:n<=100000000) :
  Calls Tryz.prog 193 #[.slice ao n cap] w (Du OpTy (.int .i64 0) (.int .i64 4) b w):=by
 have hbn:b.length=n:=by have:=hr.1;rw[aS] at this;omega
 have hb0:Below w.heap.size w (w.alloc dN.box):=(Below.refl _ _).alloc (Nat.le_refl _) _;have k0:(w.alloc dN.box).heap[w.heap.size]?=some dN.box:=by show (w.heap.push _)[w.heap.size]?=some _;exact Array.getElem?_push_size
 have hz0:(w.alloc dN.box).heap.size=w.heap.size+1:=by simp
 have hr0:=hr.later hb0;unfold dN zeroV RV.box RV.cells at hb0 k0 hz0 hr0;dsimp only at hb0 k0 hz0 hr0;clear hr;go_in;go_upto_region 1 with fail;generalize hg:w.alloc _=W0 at *;have k0f:W0.heap[w.heap.size]?=some dN.box:=k0;clear hg k0;go_wp2_with fail;refine (nT ao n cap b W0 hr0 (by omega)).mono ?_;rintro e W1 ⟨g,rfl,hr1,hb1⟩;have hg0:W0.heap.size<=g:=by obtain⟨_,_,h⟩:=hr1;exact h.le
 have T1:=jH ⟨b,false⟩ 1 (by decide);have hnum1:=nK W0.heap.size g ⟨b,false⟩ 1 W1 hr1 (by dsimp only;omega);unfold iE at hnum1;generalize RS.num ⟨b,false⟩ 1=nm at *;obtain⟨n1,s1⟩:=nm;dsimp only at T1 hnum1;go_wp2_with fail;refine hnum1.mono ?_;rintro e W2 ⟨rfl,hr2,hg2⟩;have T2:=jH s1 2 (by decide);have l1:=T1.le;dsimp only at l1;have hnum2:=nK W0.heap.size g s1 2 W2 hr2 (by omega);unfold iE at hnum2;generalize RS.num s1 2=nm at *;obtain⟨n2,s2⟩:=nm;dsimp only at T2 hnum2;go_wp2_with fail;refine hnum2.mono ?_;rintro e W3 ⟨rfl,hr3,hg3⟩;have l2:=T2.le;have hb3:Below W0.heap.size W0 W3:=(hb1.trans (below_of_grown hg2 hg0 (by obtain⟨_,_,h⟩:=hr1;exact h.lt))).trans (below_of_grown hg3 hg0 (by obtain⟨_,_,h⟩:=hr2;exact h.lt));go_upto_region 3 with (refine zNr rfl ?_;go_simp);generalize hg:W3.alloc _=W4;have e4:W3.alloc (RV.box ⟨n1,n2,zeroV⟩)=W4:=hg;have hb4':Below W3.heap.size W3 W4:=by rw[<-e4];exact (Below.refl _ _).alloc (Nat.le_refl _) _
 have q4:W4.heap[W3.heap.size]?=some (RV.box ⟨n1,n2,zeroV⟩):=by rw[<-e4];show (W3.heap.push _)[W3.heap.size]?=some _;exact Array.getElem?_push_size
 have hr4:=hr3.later hb4';have hb4:=hb3.trans (hb4'.mono hb3.size);have hob:W0.heap.size<=W3.heap.size:=hb3.size;have hgo:g≠W3.heap.size:=by obtain⟨_,_,h⟩:=hr3;have:=h.lt;omega
 clear hg e4 hnum1 hnum2 hb1 hr1 hr2 hr3 hg2 hg3 hb3 hb4';generalize W3.heap.size=ob at *;have T3:=bI s2 3 (by decide);have hl3:=iM s2 3;have hby:=gK W0.heap.size g s2 3 W4 hr4 (by omega);generalize RS.bytes s2 3=y at *;obtain⟨y,s3⟩:=y;dsimp only at T3 hby hl3;go_wp2_with fail;refine hby.mono ?_;rintro e W5 ⟨a5,c5,rfl,hrd5,hty5,hr5,hg5⟩;have hb5:Below W0.heap.size W0 W5:=hb4.trans (below_of_grown hg5 hg0 (by obtain⟨_,_,h⟩:=hr4;exact h.lt));have q5:W5.heap[ob]?=some (RV.box ⟨n1,n2,zeroV⟩):=(hg5.block _ (Array.getElem?_eq_some_iff.1 q4).1 (fun e=>hgo (Option.some.inj e).symm)).trans q4;clear hby q4 hr4 hb4 hg5;go_wp2_with fail;refine (KO y a5 y.length c5 W5 hrd5 (by omega)).mono ?_;rintro e W6 ⟨hb6,hO⟩;have hr6:=hr5.later hb6;have q6:W6.heap[ob]?=some (RV.box ⟨n1,n2,zeroV⟩):=(hb6.block _ (Array.getElem?_eq_some_iff.1 q5).1).trans q5;have hb6':=hb5.trans (hb6.mono hb5.size);obtain⟨f,Y,cY,rfl,oY,tY,hans⟩:∃(f:Int) (Y:OV) (cY:OC),e=.returned (.tuple #[Y.val,.int .i64 f])/\OpAt W6 Y cY/\OpTy W6 Y/\((f=0/\aB Y cY=true/\opL Y cY=y)\/(f=4/\yN y)):=by
  rcases hO with ⟨Y,cY,rfl,oY,tY,mY,lY⟩ | ⟨rfl,n1⟩
  ·exact⟨0,Y,cY,rfl,oY,tY,.inl ⟨rfl,mY,lY⟩⟩
  exact⟨4,zeroV,⟨[],[],[]⟩,rfl,⟨Rd.nil _ _,Rd.nil _ _,Rd.nil _ _,Nat.zero_le _,Nat.zero_le _,Nat.zero_le _⟩,⟨fun h=>absurd h (Nat.lt_irrefl 0),fun h=>absurd h (Nat.lt_irrefl 0),fun h=>absurd h (Nat.lt_irrefl 0)⟩,.inr ⟨rfl,n1⟩⟩
 clear hO hr5 q5 hb5 hb6;have HA:=hid hans;clear hans;have hrz6:W6.heap[w.heap.size]?=some dN.box:=(hb6'.block _ (by omega)).trans k0f;obtain⟨d0,d1,d2,d3,d4,d5,d6,d7,d8,d9⟩:=gq q6;dsimp only at d0 d1 d2 d3 d4 d5 d6 d7 d8;unfold OV.val;go_upto_region 4 with (refine zNr rfl ?_;go_simp);generalize hg:W6.alloc _=W7;have e7:W6.alloc Y.box=W7:=hg;have hb7:Below W6.heap.size W6 W7:=by rw[<-e7];exact (Below.refl _ _).alloc (Nat.le_refl _) _
 have q7y:W7.heap[W6.heap.size]?=some Y.box:=by rw[<-e7];show (W6.heap.push _)[W6.heap.size]?=some _;exact Array.getElem?_push_size
 have q7:W7.heap[ob]?=some (RV.box ⟨n1,n2,zeroV⟩):=(hb7.block _ (Array.getElem?_eq_some_iff.1 q6).1).trans q6;have hr7:=hr6.later hb7;have hb7':=hb6'.trans (hb7.mono hb6'.size);have oY7:=oY.later hb7;have tY7:=tY.kpr (KeepR.of_below hb7);have hzy:ob≠W6.heap.size:=by have:=(Array.getElem?_eq_some_iff.1 q6).1;omega
 clear hg e7 d0 d1 d2 d3 d4 d5 d6 d7 d8 d9 q6 oY tY hr6 hrz6 hb6' hb7;generalize W6.heap.size=yb at *;obtain⟨d0,d1,d2,d3,d4,d5,d6,d7,d8,d9⟩:=gq q7;dsimp only at d0 d1 d2 d3 d4 d5 d6 d7 d8;go_upto_region 5 with (refine zLr rfl q7y ?_;go_simp);generalize hg:World.setCell _ _ _=W8;have e8:jP W7 ob Y=W8:=hg;have hk8:∀k,k≠ob->W8.heap[k]?=W7.heap[k]?:=fun k hk=>by rw[<-e8];exact Bh hk
 have hs8:W8.heap.size=W7.heap.size:=by rw[<-e8];exact Cj
 have q8:W8.heap[ob]?=some (RV.box ⟨n1,n2,Y⟩):=by rw[<-e8];exact uq q7
 have hkr8:=DT q7 (Nat.le_of_eq hs8.symm) hk8;have hb8:Below W0.heap.size W0 W8:=by rw[<-e8];exact hb7'.trans (kY (Below.refl _ _) hob)
 have oY8:=oY7.kpr tY7 hkr8;have tY8:=tY7.kpr hkr8;have hgr8:W7.grownBy W8 (some ob):=by
  have hB:Below ob W7 W8:=by rw[<-e8];exact kY (Below.refl _ _) (Nat.le_refl _)
  exact⟨hB.os,hB.tape,hB.output,hB.size,fun k _ hne=>hk8 k (fun e=>hne (by rw[e]))⟩
 have hr8:=hr7.grown hgr8 q7 (fun c fr h=>by cases h) hgo;clear hg e8 d0 d1 d2 d3 d4 d5 d6 d7 d8 d9 hk8 hs8 hkr8 oY7 tY7 hb7' hgr8 q7 q7y hr7;have hrz:W8.heap[w.heap.size]?=some dN.box:=(hb8.block _ (by omega)).trans k0f;have hbel:=hb0.trans (hb8.mono (by omega));have hfin:∀cs:Array Value,(W8.setRow w.heap.size cs).heap[w.heap.size]?=some (.cells cs 55)/\Below w.heap.size w (W8.setRow w.heap.size cs):=fun cs=>
  ⟨aT hrz,below_setRow hbel (Nat.le_refl _) cs⟩
 rcases HA.out with ⟨rfl,mY,lY⟩ | ⟨rfl,nY⟩
 ·have HM:=hid (And.intro mY lY);clear mY lY;go_wp2_with fail;refine (nJ W0.heap.size g s3 W8 hr8).mono ?_;rintro e w9 ⟨rfl,rfl⟩;by_cases he:s3.bad=true\/0<s3.l.length
  ·have e4:s3.ends=4:=if_pos he;have hno:=Az T1 T2 T3 (.inl he);rw[e4];obtain⟨f1,f2⟩:=hfin dN.cells;go_wp2_with (refine zSr rfl hrz ?_;go_simp);refine bodyPost_ret (w:=W8.setRow w.heap.size dN.cells) (aI (i:=2) (j:=3) (t:=55) rfl rfl rfl (by kernel_rfl) (by kernel_rfl) f1) rfl ⟨f2,.inr ⟨rfl,hno⟩⟩
  have e4:s3.ends=0:=if_neg he;have hs1:s3.bad=false:=by cases h:s3.bad with
   | true=>exact absurd (.inl h) he
   | false=>rfl
  have hs2:s3.l=[]:=List.eq_nil_of_length_eq_zero (by
   have:¬0<s3.l.length:=fun h=>he (.inr h);omega)
  rw[e4];obtain⟨hd,h64,u64⟩:=KR T1 T2 T3 hs1 hs2;have hout:U64R ⟨n1,n2,Y⟩/\eQ ⟨n1,n2,Y⟩ (opL Y cY)=b:=by
   refine⟨⟨by dsimp only;omega,by dsimp only;omega,by dsimp only;omega,by dsimp only;omega⟩,?_⟩;rw[hd,pg,HM.out.2];rfl
  have HO:=hid hout;obtain⟨f1,f2⟩:=hfin (RV.cells ⟨n1,n2,Y⟩);have hkr:=DT hrz (below_setRow (Below.refl w.heap.size W8) (Nat.le_refl _) (RV.cells ⟨n1,n2,Y⟩)).size (fun k hk=>setRow_other W8 w.heap.size k (RV.cells ⟨n1,n2,Y⟩) hk);have oF:=oY8.kpr tY8 hkr;have tF:=tY8.kpr hkr;clear hout hd;go_wp2_with (first | (refine zLr rfl q8 ?_;go_simp) | (refine zSr rfl hrz ?_;go_simp));exact bodyPost_ret (w:=W8.setRow w.heap.size (RV.cells ⟨n1,n2,Y⟩)) (aI (i:=2) (j:=3) (t:=55) rfl rfl rfl (by kernel_rfl) (by kernel_rfl) f1) rfl ⟨f2,.inl ⟨_,cY,rfl,oF,tF,HO.out.1,HM.out.1,HO.out.2⟩⟩
 have hno:=Az T1 T2 T3 (.inr nY);obtain⟨f1,f2⟩:=hfin dN.cells;go_wp2_with (refine zSr rfl hrz ?_;go_simp);refine bodyPost_ret (w:=W8.setRow w.heap.size dN.cells) (aI (i:=2) (j:=3) (t:=55) rfl rfl rfl (by kernel_rfl) (by kernel_rfl) f1) rfl ⟨f2,.inr ⟨rfl,hno⟩⟩
open Go.ChangeShapes Go.WideShapes Go.Deep
def bP (r:RV)(c:OC)(r':RV)(c':OC):Bool:=decide (r.cl=r'.cl)&&decide (r.nu=r'.nu)&&bK r.op c r'.op c'
theorem Bq (r r':RV)(c c':OC)(w:World)(h:OpAt w r.op c)(h':OpAt w r'.op c') :
  Calls Tryz.prog 63 #[r.val,r'.val] w (aY (bP r c r' c') w):=by
 have hb0:Below w.heap.size w ((w.alloc r.box).alloc r'.box):=bU w _ _;obtain⟨k1,k2⟩:=bY w r.box r'.box;have hsame:=Df r.op r'.op c c' _ (h.later hb0) (h'.later hb0);unfold RV.box RV.cells at hb0 k1 k2 hsame;unfold OV.val at hsame;unfold RV.val RV.cells;by_cases e1:r.cl=r'.cl
 case neg=>
  have f1:(r.cl==r'.cl)=false:=by simp[e1]
  have Hs:Hid (bP r c r' c'=false):=Lib.hid (by unfold bP;rw[decide_eq_false e1];simp);clear e1 hsame;go_in;go_wp2_with fail;go_ret;exact⟨by rw[Hs.out];rfl,hb0⟩
 have f1:(r.cl==r'.cl)=true:=by simp[e1]
 by_cases e2:r.nu=r'.nu
 case neg=>
  have f2:(r.nu==r'.nu)=false:=by simp[e2]
  have Hs:Hid (bP r c r' c'=false):=Lib.hid (by unfold bP;rw[decide_eq_false e2];simp);clear e1 e2 hsame;go_in;go_wp2_with fail;go_ret;exact⟨by rw[Hs.out];rfl,hb0⟩
 have f2:(r.nu==r'.nu)=true:=by simp[e2]
 have Hs:Hid (bP r c r' c'=bK r.op c r'.op c'):=Lib.hid (by unfold bP;rw[decide_eq_true e1,decide_eq_true e2];simp);clear e1 e2;go_in;go_wp2_with fail;refine hsame.mono ?_;rintro e w1 ⟨rfl,hb1⟩;rw[<-Hs.out];go_wp2_with fail;go_ret;exact⟨rfl,hb0.trans (hb1.mono hb0.size)⟩
theorem uf (r r':RV)(c c':OC)(w:World)(h:OpAt w r.op c)(h':OpAt w r'.op c') :
  Calls Tryz.prog 138 #[r.val,r'.val] w (aY (bP r c r' c') w):=by
 have hb0:Below w.heap.size w ((w.alloc r.box).alloc r'.box):=bU w _ _;obtain⟨k1,k2⟩:=bY w r.box r'.box;have hsame:=xh r.op r'.op c c' _ (h.later hb0) (h'.later hb0);unfold RV.box RV.cells at hb0 k1 k2 hsame;unfold OV.val at hsame;unfold RV.val RV.cells;by_cases e1:r.cl=r'.cl
 case neg=>
  have f1:(r.cl==r'.cl)=false:=by simp[e1]
  have Hs:Hid (bP r c r' c'=false):=Lib.hid (by unfold bP;rw[decide_eq_false e1];simp);clear e1 hsame;go_in;go_wp2_with fail;go_ret;exact⟨by rw[Hs.out];rfl,hb0⟩
 have f1:(r.cl==r'.cl)=true:=by simp[e1]
 by_cases e2:r.nu=r'.nu
 case neg=>
  have f2:(r.nu==r'.nu)=false:=by simp[e2]
  have Hs:Hid (bP r c r' c'=false):=Lib.hid (by unfold bP;rw[decide_eq_false e2];simp);clear e1 e2 hsame;go_in;go_wp2_with fail;go_ret;exact⟨by rw[Hs.out];rfl,hb0⟩
 have f2:(r.nu==r'.nu)=true:=by simp[e2]
 have Hs:Hid (bP r c r' c'=bK r.op c r'.op c'):=Lib.hid (by unfold bP;rw[decide_eq_true e1,decide_eq_true e2];simp);clear e1 e2;go_in;go_wp2_with fail;refine hsame.mono ?_;rintro e w1 ⟨rfl,hb1⟩;rw[<-Hs.out];go_wp2_with fail;go_ret;exact⟨rfl,hb0.trans (hb1.mono hb0.size)⟩
section
variable {H:Type} {enc:TypeId×Value->H} {W:World}
end
end Go.Proofs.YtfmmandlmbcncaaGreatDoor.Msg
