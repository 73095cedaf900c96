/-
  A part of the proof.
-/
import Derived.Test.YtfmmandlmbcncaaGreatDoorKdak
set_option maxHeartbeats 40000000
set_option maxRecDepth 100000
namespace Go.Proofs.YtfmmandlmbcncaaGreatDoor.Msg
open Go.RowKit Go.Lib Mem Utf
theorem EJ (x:ByteArray)(w:World)(hs:x.size<=1000):Calls Tryz.prog 82 #[.string x] w (aY (decide (wh x.data.toList=x.size)) w):=by
 have hd:=CW x w (by omega);go_in;go_wp2_with fail;refine hd.mono ?_;rintro e w1 ⟨ao,cap,rfl,-,hb1⟩;by_cases h:wh x.data.toList=x.size
 ·have h2:((wh x.data.toList:Int)==(x.size:Int))=true:=by simp[h]
  have h3:decide (wh x.data.toList=x.size)=true:=decide_eq_true h;have H3:=hid h3;clear h hd h3;go_wp2_with fail;go_ret;exact⟨by rw[H3.out];rfl,hb1⟩
 have h2:((wh x.data.toList:Int)==(x.size:Int))=false:=by simp;omega
 have h3:decide (wh x.data.toList=x.size)=false:=decide_eq_false h;have H3:=hid h3;clear h hd h3;go_wp2_with fail;go_ret;exact⟨by rw[H3.out];rfl,hb1⟩
theorem tC (x:ByteArray)(w:World):Calls Tryz.prog 47 #[.string x] w (aY (bg x) w):=by
 by_cases h:x.size<=1000
 ·have hv:=EJ x w h;have f1:decide ((x.size:Int)<=1000)=true:=decide_eq_true (by omega);have H:Hid (bg x=decide (wh x.data.toList=x.size)):=hid (by unfold bg;rw[decide_eq_true h,Bool.true_and]);clear h;go_in;go_wp2_with fail;refine hv.mono ?_;rintro e w1 ⟨rfl,hb1⟩;go_wp2_with fail;go_ret;exact⟨by rw[H.out];rfl,hb1⟩
 have f1:decide ((x.size:Int)<=1000)=false:=decide_eq_false (by omega);have H:Hid (bg x=false):=hid (by unfold bg;rw[decide_eq_false h,Bool.false_and]);clear h;go_in;go_wp2_with fail;go_ret;exact⟨by rw[H.out];rfl,Below.refl _ _⟩
theorem PW (x:ByteArray)(k:Nat)(h:k<x.size):∃c∈x.data.toList,(c.toNat:Int)=bt x.data.toList k:=by
 have hl:k<x.data.toList.length:=by rw[dC];exact h
 exact⟨x.data.toList[k],List.getElem_mem hl,by simp[bt,List.getD_eq_getElem?_getD,List.getElem?_eq_getElem hl]⟩
theorem Eo (x:ByteArray)(k:Nat)(h:k<x.size)(hc:fO (bt x.data.toList k)=false):dX x=false:=by
 obtain⟨c,hm,e⟩:=PW x k h;unfold dX;rw[show (x.data.toList.all fun c=>fO (c.toNat:Int))=false from by
  rw[List.all_eq_false];exact⟨c,hm,by rw[e,hc];decide⟩,Bool.and_false]
theorem kS (x:ByteArray×ByteArray)(w:World):Calls Tryz.prog 48 #[.agg #[.string x.1,.string x.2]] w (aY (aW x) w):=by
 have hb0:Below w.heap.size w (w.alloc (.cells #[.string x.1,.string x.2] 106)):=(Below.refl _ _).alloc (Nat.le_refl _) _;by_cases h1:x.1.size<1
 ·have f1:decide ((x.1.size:Int)<1)=true:=decide_eq_true (by omega);have H:Hid (aW x=false):=hid (by unfold aW dX;rw[decide_eq_false (by omega:¬1<=x.1.size)];simp);clear h1;go_in;go_wp2_with fail;go_ret;exact⟨by rw[H.out];rfl,hb0⟩
 have f1:decide ((x.1.size:Int)<1)=false:=decide_eq_false (by omega);by_cases h2:32<x.1.size
 ·have f2:decide ((32:Int)<(x.1.size:Int))=true:=decide_eq_true (by omega);have H:Hid (aW x=false):=hid (by unfold aW dX;rw[decide_eq_false (by omega:¬x.1.size<=32)];simp);clear h1 h2;go_in;go_wp2_with fail;go_ret;exact⟨by rw[H.out];rfl,hb0⟩
 have f2:decide ((32:Int)<(x.1.size:Int))=false:=decide_eq_false (by omega);have s0:0<x.1.size:=by omega
 have s1:x.1.size<=32:=by omega
 clear h1 h2;have e0:=rO x.1 0 s0;have p0:decide ((0:Int)<(x.1.size:Int))=true:=decide_eq_true (by omega);have p1:(0:Int)<(x.1.size:Int):=by omega
 obtain⟨c0,hc0⟩:∃c0,bt x.1.data.toList 0=c0:=⟨_,rfl⟩
 rw[hc0] at e0;by_cases h3:97<=c0
 ·have f3:decide (c0<97)=false:=decide_eq_false (by omega);by_cases h4:c0<=122
  ·have f4:decide (122<c0)=false:=decide_eq_false (by omega);have hm2:Hid (dX x.1=x.1.data.toList.all fun c=>fO (c.toNat:Int)):=hid (by
    unfold dX eX;rw[hc0,decide_eq_true h3,decide_eq_true h4,decide_eq_true (by omega:1<=x.1.size),decide_eq_true s1];simp)
   clear h3 h4 hc0;go_in;go_wp2_with fail;refine (tC _ _).mono ?_;rintro e w1 ⟨rfl,hb1⟩;have k1:w1.heap[w.heap.size]?=some (.cells #[.string x.1,.string x.2] 106):=(hb1.block _ (by simp)).trans (by show (w.heap.push _)[w.heap.size]?=some _;exact Array.getElem?_push_size);have c0:w1.cell? ⟨w.heap.size,0,none⟩=some (.string x.1):=by simp[World.cell?,k1]
   have hB:=hb0.trans (hb1.mono hb0.size);clear k1 hb1 hb0;by_cases hn:bg x.2=true
   ·rw[hn];have hm3:Hid (aW x=dX x.1):=hid (by unfold aW;rw[hn,Bool.and_true]);clear hn;go_wp2_with fail;go_loopw [3] (fun p wr=>∃k:Nat,k<=x.1.size/\p=.int .i64 (k:Int)/\wr=w1/\(x.1.data.toList.take k).all (fun c=>fO (c.toNat:Int))=true) (fun p _=>x.1.size-(intOf p).toNat)
    case atStart=>exact⟨0,Nat.zero_le _,rfl,rfl,rfl⟩
    case round=>
     obtain⟨k,hk,rfl,rfl,ht⟩:=hrel;by_cases hkn:k<x.1.size
     ·have ek:=rO x.1 k hkn;have q1:decide ((k:Int)<(x.1.size:Int))=true:=decide_eq_true (by omega);have hw:IntKind.wrap .i64 ((k:Int)+1)=(k:Int)+1:=by rw[IntKind.wrap_i64];omega
      obtain⟨c,hc⟩:∃c,bt x.1.data.toList k=c:=⟨_,rfl⟩
      rw[hc] at ek;have hnext:Hid (fO c=true->(x.1.data.toList.take (k+1)).all (fun c=>fO (c.toNat:Int))=true):=hid (fun hy=>by
       have hl:k<x.1.data.toList.length:=by rw[dC];exact hkn
       have e:bt x.1.data.toList k=((x.1.data.toList[k]).toNat:Int):=by simp[bt,List.getD_eq_getElem?_getD,List.getElem?_eq_getElem hl]
       rw[List.take_succ_eq_append_getElem hl,List.all_append,ht,List.all_cons,List.all_nil,Bool.and_true,Bool.true_and,<-e,hc,hy])
      have hbad:Hid (fO c=false->aW x=false):=hid (fun hy=>by rw[hm3.out];exact Eo x.1 k hkn (by rw[hc];exact hy));clear hc ht;by_cases g1:97<=c
      ·have d1:decide (97<=c)=true:=decide_eq_true g1;by_cases g2:c<=122
       ·have d2:decide (c<=122)=true:=decide_eq_true g2;have ht:=hid (hnext.out (by simp[fO,eX,d1,d2]));clear g1 g2;go_wp2_with fail;go_roundw
        case rel=>exact⟨k+1,by omega,by go_num,trivial,ht.out⟩
        case measure=>simp[intOf];omega
       have d2:decide (c<=122)=false:=decide_eq_false g2;have d3:decide (48<=c)=true:=decide_eq_true (by omega);have d4:decide (c<=57)=false:=decide_eq_false (by omega);have d5:(c==45)=false:=by simp;omega
       have ht:=hid (hbad.out (by simp[fO,eX,d1,d2,d3,d4,d5]));clear g1 g2;go_wp2_with fail;go_ret;exact⟨by rw[ht.out];rfl,hB⟩
      have d1:decide (97<=c)=false:=decide_eq_false g1;by_cases g2:48<=c
      ·have d3:decide (48<=c)=true:=decide_eq_true g2;by_cases g3:c<=57
       ·have d4:decide (c<=57)=true:=decide_eq_true g3;have ht:=hid (hnext.out (by simp[fO,eX,d1,d3,d4]));clear g1 g2 g3;go_wp2_with fail;go_roundw
        case rel=>exact⟨k+1,by omega,by go_num,trivial,ht.out⟩
        case measure=>simp[intOf];omega
       have d4:decide (c<=57)=false:=decide_eq_false g3;have d5:(c==45)=false:=by simp;omega
       have ht:=hid (hbad.out (by simp[fO,eX,d1,d3,d4,d5]));clear g1 g2 g3;go_wp2_with fail;go_ret;exact⟨by rw[ht.out];rfl,hB⟩
      have d3:decide (48<=c)=false:=decide_eq_false g2;by_cases g3:c=45
      ·have d5:(c==45)=true:=by simp[g3]
       have ht:=hid (hnext.out (by simp[fO,eX,d1,d3,d5]));clear g1 g2 g3;go_wp2_with fail;go_roundw
       case rel=>exact⟨k+1,by omega,by go_num,trivial,ht.out⟩
       case measure=>simp[intOf];omega
      have d5:(c==45)=false:=by simp[g3]
      have ht:=hid (hbad.out (by simp[fO,eX,d1,d3,d5]));clear g1 g2 g3;go_wp2_with fail;go_ret;exact⟨by rw[ht.out];rfl,hB⟩
     have hke:k=x.1.size:=by omega
     have H:Hid (aW x=true):=hid (by
      rw[hm3.out,hm2.out];rw[hke,List.take_of_length_le (Nat.le_of_eq (dC x.1))] at ht;exact ht)
     clear hke ht;go_wp2_with fail;go_ret;exact⟨by rw[H.out];rfl,hB⟩
   have hn2:bg x.2=false:=by simpa using hn
   have H:Hid (aW x=false):=hid (by unfold aW;rw[hn2,Bool.and_false]);rw[hn2];clear hn hn2;go_wp2_with fail;go_ret;exact⟨by rw[H.out];rfl,hB⟩
  have f4:decide (122<c0)=true:=decide_eq_true (by omega);have H:Hid (aW x=false):=hid (by unfold aW dX eX;rw[hc0,decide_eq_false h4];simp);clear h3 h4 hc0;go_in;go_wp2_with fail;go_ret;exact⟨by rw[H.out];rfl,hb0⟩
 have f3:decide (c0<97)=true:=decide_eq_true (by omega);have H:Hid (aW x=false):=hid (by unfold aW dX eX;rw[hc0,decide_eq_false h3];simp);clear h3 hc0;go_in;go_wp2_with fail;go_ret;exact⟨by rw[H.out];rfl,hb0⟩
theorem wL:∀x y:List UInt8,(compareBytes x y<0↔Op.bytesLess x y=true)/\(compareBytes x y=0↔x=y)
 | [],[]=>by simp[compareBytes,Op.bytesLess]
 | [],_::_=>by simp[compareBytes,Op.bytesLess]
 | _::_,[]=>by simp[compareBytes,Op.bytesLess]
 | a::x,b::y=>by
  obtain⟨h1,h2⟩:=wL x y;by_cases hab:a<b
  ·have hne:a≠b:=fun e=>by subst e;exact absurd hab (UInt8.lt_irrefl a)
   simp[compareBytes,Op.bytesLess,hab,hne]
  by_cases hba:b<a
  ·have hne:a≠b:=fun e=>by subst e;exact absurd hba (UInt8.lt_irrefl a)
   simp[compareBytes,Op.bytesLess,hab,hba,hne]
  have he:a=b:=UInt8.le_antisymm (UInt8.not_lt.1 hba) (UInt8.not_lt.1 hab);subst he;simp[compareBytes,Op.bytesLess,hab,h1,h2]
theorem Iz (a b:ByteArray×ByteArray):decide (lm a b<0)=(Op.bytesLess a.1.toList b.1.toList||(a.1.toList==b.1.toList&&Op.bytesLess a.2.toList b.2.toList)):=by
 obtain⟨h1,h2⟩:=wL a.1.data.toList b.1.data.toList;obtain⟨h3,-⟩:=wL a.2.data.toList b.2.data.toList;rw[ByteArray.toList_eq,ByteArray.toList_eq,ByteArray.toList_eq,ByteArray.toList_eq];unfold lm orI;by_cases hz:compareBytes a.1.data.toList b.1.data.toList=0
 ·rw[if_pos hz];have he:=h2.1 hz;have hl:Op.bytesLess a.1.data.toList b.1.data.toList=false:=by
   cases hq:Op.bytesLess a.1.data.toList b.1.data.toList with
   | false=>rfl
   | true=>have:=h1.2 hq;omega
  rw[hl,he,Bool.eq_iff_iff];simp[h3]
 rw[if_neg hz];have hne:(a.1.data.toList==b.1.data.toList)=false:=beq_eq_false_iff_ne.2 (fun e=>hz (h2.2 e));rw[hne,Bool.eq_iff_iff];simp[h1]
theorem BA (a b:ByteArray×ByteArray)(w:World):Calls Tryz.prog 83 #[.agg #[.string a.1,.string a.2],.agg #[.string b.1,.string b.2]] w (aY (decide (lm a b<0)) w):=by
 have hb0:=bU w (.cells #[.string a.1,.string a.2] 106) (.cells #[.string b.1,.string b.2] 106);rw[Iz];cases h1:Op.bytesLess a.1.toList b.1.toList
 ·cases h2:(a.1.toList==b.1.toList)
  ·go_in;go_wp2_with fail;go_ret;exact⟨rfl,hb0⟩
  cases h3:Op.bytesLess a.2.toList b.2.toList
  ·go_in;go_wp2_with fail;go_ret;exact⟨rfl,hb0⟩
  go_in;go_wp2_with fail;go_ret;exact⟨rfl,hb0⟩
 go_in;go_wp2_with fail;go_ret;exact⟨rfl,hb0⟩
def InTwoAt (wr:World)(u p:ByteArray×ByteArray)(b o o':Nat)(W:World):Prop:=(W.cell? ⟨b,o,none⟩=some (.string u.1)/\W.cell? ⟨b,o+1,none⟩=some (.string u.2))/\(W.cell? ⟨b,o',none⟩=some (.string p.1)/\W.cell? ⟨b,o'+1,none⟩=some (.string p.2))/\Below wr.heap.size wr W
theorem aU {W W':World}(hb:Below W.heap.size W W'){a:Addr}{x:Value}(h:W.cell? a=some x):W'.cell? a=some x:=(hb.cell (World.block_lt_of_cell? W _ h)).trans h
theorem InTwoAt.step {wr W W':World}{u p:ByteArray×ByteArray}{b o o':Nat}(h:InTwoAt wr u p b o o' W)(hb:Below W.heap.size W W'):InTwoAt wr u p b o o' W':=
 ⟨⟨aU hb h.1.1,aU hb h.1.2⟩,⟨aU hb h.2.1.1,aU hb h.2.1.2⟩,h.2.2.trans (hb.mono h.2.2.size)⟩
theorem zY (ao:Option Addr)(n cap:Nat)(x:List (ByteArray×ByteArray))(w:World)(hx:Rd w 2 ao n cap (atV x)) :
  Calls Tryz.prog 49 #[.slice ao n cap] w (aY (bH x) w):=by
 have hmo:Tryz.prog.follows .mixedOrders=true:=by kernel_rfl
 have lx:x.length=n:=by have:=hx.1;rw[fE] at this;omega
 by_cases h50:n<=50
 case neg=>
  have f1:decide ((50:Int)<(n:Int))=true:=decide_eq_true (by omega);have HR:Hid (bH x=false):=hid (by unfold bH;rw[lx,decide_eq_false h50,Bool.and_false]);clear h50 lx;go_in;go_wp2_with fail;go_ret;exact⟨by rw[HR.out];rfl,Below.refl _ _⟩
 have f1:decide ((50:Int)<(n:Int))=false:=decide_eq_false (by omega);have LX:=hid lx;have H50:=hid h50;have hn:(n:Int)<1000:=by omega
 clear lx h50;go_in;go_wp2_with fail;go_loopw [3] (fun p wr=>∃k:Nat,k<=n/\p=.int .i64 (k:Int)/\Hid ((x.take k).all aW=true)/\Hid (rise (x.take k)=true)/\Below w.heap.size w wr) (fun p _=>n-(intOf p).toNat)
 case atStart=>exact⟨0,Nat.zero_le _,rfl,hid rfl,hid rfl,Below.refl _ _⟩
 case round=>
  obtain⟨k,hk,rfl,Ha,Hr,hbr⟩:=hrel;by_cases hkn:k<n
  ·obtain⟨b1,o1,rfl,hl1,hc1⟩:=hx.some (by have:=hx.le;omega);obtain⟨u,hu⟩:∃u,x[k]?=some u:=⟨_,List.getElem?_eq_getElem (by rw[LX.out];exact hkn)⟩
   obtain⟨p,hp⟩:∃p,x[k-1]?=some p:=⟨_,List.getElem?_eq_getElem (by rw[LX.out];omega)⟩
   obtain⟨v1,v2⟩:=jE x k u hu;obtain⟨v3,v4⟩:=jE x (k-1) p hp;have c1:=(hbr.cell (p:=⟨b1,o1+k*2,none⟩) hl1).trans (hc1 (k*2) _ v1);have c2:wr.cell? ⟨b1,o1+k*2+1,none⟩=_:=(hbr.cell (p:=⟨b1,o1+(k*2+1),none⟩) hl1).trans (hc1 (k*2+1) _ v2);have c3:=(hbr.cell (p:=⟨b1,o1+(k-1)*2,none⟩) hl1).trans (hc1 ((k-1)*2) _ v3);have c4:wr.cell? ⟨b1,o1+(k-1)*2+1,none⟩=_:=(hbr.cell (p:=⟨b1,o1+((k-1)*2+1),none⟩) hl1).trans (hc1 ((k-1)*2+1) _ v4);clear v1 v2 v3 v4;have i0:(0:Int)<=(k:Int):=by omega
   have i1:(k:Int)<(n:Int):=by omega
   have s0:InTwoAt wr u p b1 (o1+k*2) (o1+(k-1)*2) wr.drew:=⟨⟨c1,c2⟩,⟨c3,c4⟩,(Below.refl _ _).drew⟩
   clear c1 c2 c3 c4;go_upto_region 6 with fail;have hbw:=hbr.size;by_cases hm:aW u=true
   ·have HM:=hid hm;have hall:Hid ((x.take (k+1)).all aW=true):=hid (by obtain⟨hl,e⟩:=List.getElem?_eq_some_iff.1 hu;rw[List.take_succ_eq_append_getElem hl,e,List.all_append,Ha.out];simp[hm]);clear hm;by_cases hk0:k=0
    ·have HR:Hid (rise (x.take (k+1))=true):=hid (oG x k u hu Hr.out (fun p h=>absurd hk0 (by omega)));have g1:decide ((0:Int)<(k:Int))=false:=decide_eq_false (by omega);clear hk0;refine wp_region_held (S:=InTwoAt wr u p b1 (o1+k*2) (o1+(k-1)*2)) hmo ?_;change wpAnyH _ _ _ _ _ _ _ _ (World.drew wr);refine zHp 0 (.slice (some ⟨b1,o1,none⟩) n cap) rfl s0 ?_;go_simp;refine zHp 1 (.int .i64 (k:Int)) rfl s0 ?_;go_simp;refine zHa 2 (.pointer (some ⟨b1,o1+k*2,none⟩)) rfl (by rintro w h;obtain⟨⟨c0,c1⟩,⟨c2,c3⟩,-⟩:=h;go_simp) s0 ?_;go_simp;refine zHa 3 (.agg #[.string u.1,.string u.2]) rfl (by rintro w h;obtain⟨⟨c0,c1⟩,⟨c2,c3⟩,-⟩:=h;go_simp) s0 ?_;go_simp;refine zH1 4 rfl (fun K hK=>?_);go_simp;refine (kS u _).mono ?_;rintro e W1 ⟨rfl,hb1⟩;rw[HM.out];have s1:=s0.step hb1;go_simp;refine hK _ _ ⟨s1,?_⟩;clear hK K;refine zHa 5 (.bool false) rfl (by rintro w h;obtain⟨⟨c0,c1⟩,⟨c2,c3⟩,-⟩:=h;go_simp) s1 ?_;go_simp;refine zHp 6 (.bool false) rfl s1 ?_;go_simp;refine zHp 7 (.int .i64 (k:Int)) rfl s1 ?_;go_simp;refine zHa 8 (.bool false) rfl (by rintro w h;obtain⟨⟨c0,c1⟩,⟨c2,c3⟩,-⟩:=h;go_simp;have:=of_decide_eq_false g1;omega) s1 ?_;go_simp;refine zHp 9 (.bool false) rfl s1 ?_;go_simp;refine zHo 10 rfl s1 ?_;go_simp;refine zHo 11 rfl s1 ?_;go_simp;refine zHo 12 rfl s1 ?_;go_simp;refine zHo 13 rfl s1 ?_;go_simp;refine zHo 14 rfl s1 ?_;go_simp;refine zHo 15 rfl s1 ?_;go_simp;refine zHo 16 rfl s1 ?_;go_simp;refine zHo 17 rfl s1 ?_;go_simp;refine zHo 18 rfl s1 ?_;go_simp;refine zHo 19 rfl s1 ?_;go_simp;refine zHo 20 rfl s1 ?_;go_simp;refine zHp 21 (.bool false) rfl s1 ?_;go_simp;refine zHp 22 (.bool false) rfl s1 ?_;go_simp;refine wpAnyH_done (by kernel_rfl) ?_ _;go_wp2_with fail;go_roundw
     case rel=>exact⟨k+1,by omega,by go_num,hall,HR,hbr.trans (s1.2.2.mono hbw)⟩
     case measure=>simp[intOf];omega
    have g1:decide ((0:Int)<(k:Int))=true:=decide_eq_true (by omega);have g2:IntKind.wrap .i64 ((k:Int)-1)=((k-1:Nat):Int):=by rw[IntKind.wrap_i64];omega
    have i2:(0:Int)<=((k-1:Nat):Int):=by omega
    have i3:((k-1:Nat):Int)<(n:Int):=by omega
    by_cases hcm:lm p u<0
    ·have HL:=hid (decide_eq_true hcm);have HR:Hid (rise (x.take (k+1))=true):=hid (oG x k u hu Hr.out (fun q _ hq=>by rw[hp] at hq;rw[<-Option.some.inj hq];exact hcm));clear hcm;refine wp_region_held (S:=InTwoAt wr u p b1 (o1+k*2) (o1+(k-1)*2)) hmo ?_;change wpAnyH _ _ _ _ _ _ _ _ (World.drew wr);refine zHp 0 (.slice (some ⟨b1,o1,none⟩) n cap) rfl s0 ?_;go_simp;refine zHp 1 (.int .i64 (k:Int)) rfl s0 ?_;go_simp;refine zHa 2 (.pointer (some ⟨b1,o1+k*2,none⟩)) rfl (by rintro w h;obtain⟨⟨c0,c1⟩,⟨c2,c3⟩,-⟩:=h;go_simp) s0 ?_;go_simp;refine zHa 3 (.agg #[.string u.1,.string u.2]) rfl (by rintro w h;obtain⟨⟨c0,c1⟩,⟨c2,c3⟩,-⟩:=h;go_simp) s0 ?_;go_simp;refine zH1 4 rfl (fun K hK=>?_);go_simp;refine (kS u _).mono ?_;rintro e W1 ⟨rfl,hb1⟩;rw[HM.out];have s1:=s0.step hb1;go_simp;refine hK _ _ ⟨s1,?_⟩;clear hK K;refine zHa 5 (.bool false) rfl (by rintro w h;obtain⟨⟨c0,c1⟩,⟨c2,c3⟩,-⟩:=h;go_simp) s1 ?_;go_simp;refine zHp 6 (.bool false) rfl s1 ?_;go_simp;refine zHp 7 (.int .i64 (k:Int)) rfl s1 ?_;go_simp;refine zHa 8 (.bool true) rfl (by rintro w h;obtain⟨⟨c0,c1⟩,⟨c2,c3⟩,-⟩:=h;go_simp;have:=of_decide_eq_true g1;omega) s1 ?_;go_simp;refine zHp 9 (.bool true) rfl s1 ?_;go_simp;refine zHp 10 (.slice (some ⟨b1,o1,none⟩) n cap) rfl s1 ?_;go_simp;refine zHp 11 (.int .i64 (k:Int)) rfl s1 ?_;go_simp;refine zHa 12 (.int .i64 ((k-1:Nat):Int)) rfl (by rintro w h;obtain⟨⟨c0,c1⟩,⟨c2,c3⟩,-⟩:=h;go_simp) s1 ?_;go_simp;refine zHa 13 (.pointer (some ⟨b1,o1+(k-1)*2,none⟩)) rfl (by rintro w h;obtain⟨⟨c0,c1⟩,⟨c2,c3⟩,-⟩:=h;go_simp) s1 ?_;go_simp;refine zHa 14 (.agg #[.string p.1,.string p.2]) rfl (by rintro w h;obtain⟨⟨c0,c1⟩,⟨c2,c3⟩,-⟩:=h;go_simp) s1 ?_;go_simp;refine zHp 15 (.slice (some ⟨b1,o1,none⟩) n cap) rfl s1 ?_;go_simp;refine zHp 16 (.int .i64 (k:Int)) rfl s1 ?_;go_simp;refine zHa 17 (.pointer (some ⟨b1,o1+k*2,none⟩)) rfl (by rintro w h;obtain⟨⟨c0,c1⟩,⟨c2,c3⟩,-⟩:=h;go_simp) s1 ?_;go_simp;refine zHa 18 (.agg #[.string u.1,.string u.2]) rfl (by rintro w h;obtain⟨⟨c0,c1⟩,⟨c2,c3⟩,-⟩:=h;go_simp) s1 ?_;go_simp;refine zH1 19 rfl (fun K hK=>?_);go_simp;refine (BA p u _).mono ?_;rintro e W2 ⟨rfl,hb2⟩;rw[HL.out];have s2:=s1.step hb2;go_simp;refine hK _ _ ⟨s2,?_⟩;clear hK K;refine zHa 20 (.bool false) rfl (by rintro w h;obtain⟨⟨c0,c1⟩,⟨c2,c3⟩,-⟩:=h;go_simp) s2 ?_;go_simp;refine zHp 21 (.bool false) rfl s2 ?_;go_simp;refine zHp 22 (.bool false) rfl s2 ?_;go_simp;refine wpAnyH_done (by kernel_rfl) ?_ _;go_wp2_with fail;go_roundw
     case rel=>exact⟨k+1,by omega,by go_num,hall,HR,hbr.trans (s2.2.2.mono hbw)⟩
     case measure=>simp[intOf];omega
    have HL:=hid (decide_eq_false hcm);have HR:Hid (bH x=false):=hid (by unfold bH;rw[yO (k-1) x p u hp (by rw[show k-1+1=k from by omega];exact hu) hcm];simp);clear hcm;refine wp_region_held (S:=InTwoAt wr u p b1 (o1+k*2) (o1+(k-1)*2)) hmo ?_;change wpAnyH _ _ _ _ _ _ _ _ (World.drew wr);refine zHp 0 (.slice (some ⟨b1,o1,none⟩) n cap) rfl s0 ?_;go_simp;refine zHp 1 (.int .i64 (k:Int)) rfl s0 ?_;go_simp;refine zHa 2 (.pointer (some ⟨b1,o1+k*2,none⟩)) rfl (by rintro w h;obtain⟨⟨c0,c1⟩,⟨c2,c3⟩,-⟩:=h;go_simp) s0 ?_;go_simp;refine zHa 3 (.agg #[.string u.1,.string u.2]) rfl (by rintro w h;obtain⟨⟨c0,c1⟩,⟨c2,c3⟩,-⟩:=h;go_simp) s0 ?_;go_simp;refine zH1 4 rfl (fun K hK=>?_);go_simp;refine (kS u _).mono ?_;rintro e W1 ⟨rfl,hb1⟩;rw[HM.out];have s1:=s0.step hb1;go_simp;refine hK _ _ ⟨s1,?_⟩;clear hK K;refine zHa 5 (.bool false) rfl (by rintro w h;obtain⟨⟨c0,c1⟩,⟨c2,c3⟩,-⟩:=h;go_simp) s1 ?_;go_simp;refine zHp 6 (.bool false) rfl s1 ?_;go_simp;refine zHp 7 (.int .i64 (k:Int)) rfl s1 ?_;go_simp;refine zHa 8 (.bool true) rfl (by rintro w h;obtain⟨⟨c0,c1⟩,⟨c2,c3⟩,-⟩:=h;go_simp;have:=of_decide_eq_true g1;omega) s1 ?_;go_simp;refine zHp 9 (.bool true) rfl s1 ?_;go_simp;refine zHp 10 (.slice (some ⟨b1,o1,none⟩) n cap) rfl s1 ?_;go_simp;refine zHp 11 (.int .i64 (k:Int)) rfl s1 ?_;go_simp;refine zHa 12 (.int .i64 ((k-1:Nat):Int)) rfl (by rintro w h;obtain⟨⟨c0,c1⟩,⟨c2,c3⟩,-⟩:=h;go_simp) s1 ?_;go_simp;refine zHa 13 (.pointer (some ⟨b1,o1+(k-1)*2,none⟩)) rfl (by rintro w h;obtain⟨⟨c0,c1⟩,⟨c2,c3⟩,-⟩:=h;go_simp) s1 ?_;go_simp;refine zHa 14 (.agg #[.string p.1,.string p.2]) rfl (by rintro w h;obtain⟨⟨c0,c1⟩,⟨c2,c3⟩,-⟩:=h;go_simp) s1 ?_;go_simp;refine zHp 15 (.slice (some ⟨b1,o1,none⟩) n cap) rfl s1 ?_;go_simp;refine zHp 16 (.int .i64 (k:Int)) rfl s1 ?_;go_simp;refine zHa 17 (.pointer (some ⟨b1,o1+k*2,none⟩)) rfl (by rintro w h;obtain⟨⟨c0,c1⟩,⟨c2,c3⟩,-⟩:=h;go_simp) s1 ?_;go_simp;refine zHa 18 (.agg #[.string u.1,.string u.2]) rfl (by rintro w h;obtain⟨⟨c0,c1⟩,⟨c2,c3⟩,-⟩:=h;go_simp) s1 ?_;go_simp;refine zH1 19 rfl (fun K hK=>?_);go_simp;refine (BA p u _).mono ?_;rintro e W2 ⟨rfl,hb2⟩;rw[HL.out];have s2:=s1.step hb2;go_simp;refine hK _ _ ⟨s2,?_⟩;clear hK K;refine zHa 20 (.bool true) rfl (by rintro w h;obtain⟨⟨c0,c1⟩,⟨c2,c3⟩,-⟩:=h;go_simp) s2 ?_;go_simp;refine zHp 21 (.bool true) rfl s2 ?_;go_simp;refine zHp 22 (.bool true) rfl s2 ?_;go_simp;refine wpAnyH_done (by kernel_rfl) ?_ _;go_wp2_with fail;go_ret;exact⟨by rw[HR.out];rfl,hbr.trans (s2.2.2.mono hbw)⟩
   have hm2:aW u=false:=by simpa using hm
   have HM:=hid hm2;have HR:Hid (bH x=false):=hid (by
    unfold bH;have:x.all aW=false:=by rw[List.all_eq_false];exact⟨u,List.mem_of_getElem? hu,by simp[hm2]⟩
    rw[this];simp)
   clear hm hm2;refine wp_region_held (S:=InTwoAt wr u p b1 (o1+k*2) (o1+(k-1)*2)) hmo ?_;change wpAnyH _ _ _ _ _ _ _ _ (World.drew wr);refine zHp 0 (.slice (some ⟨b1,o1,none⟩) n cap) rfl s0 ?_;go_simp;refine zHp 1 (.int .i64 (k:Int)) rfl s0 ?_;go_simp;refine zHa 2 (.pointer (some ⟨b1,o1+k*2,none⟩)) rfl (by rintro w h;obtain⟨⟨c0,c1⟩,⟨c2,c3⟩,-⟩:=h;go_simp) s0 ?_;go_simp;refine zHa 3 (.agg #[.string u.1,.string u.2]) rfl (by rintro w h;obtain⟨⟨c0,c1⟩,⟨c2,c3⟩,-⟩:=h;go_simp) s0 ?_;go_simp;refine zH1 4 rfl (fun K hK=>?_);go_simp;refine (kS u _).mono ?_;rintro e W1 ⟨rfl,hb1⟩;rw[HM.out];have s1:=s0.step hb1;go_simp;refine hK _ _ ⟨s1,?_⟩;clear hK K;refine zHa 5 (.bool true) rfl (by rintro w h;obtain⟨⟨c0,c1⟩,⟨c2,c3⟩,-⟩:=h;go_simp) s1 ?_;go_simp;refine zHp 6 (.bool true) rfl s1 ?_;go_simp;refine zHo 7 rfl s1 ?_;go_simp;refine zHo 8 rfl s1 ?_;go_simp;refine zHo 9 rfl s1 ?_;go_simp;refine zHo 10 rfl s1 ?_;go_simp;refine zHo 11 rfl s1 ?_;go_simp;refine zHo 12 rfl s1 ?_;go_simp;refine zHo 13 rfl s1 ?_;go_simp;refine zHo 14 rfl s1 ?_;go_simp;refine zHo 15 rfl s1 ?_;go_simp;refine zHo 16 rfl s1 ?_;go_simp;refine zHo 17 rfl s1 ?_;go_simp;refine zHo 18 rfl s1 ?_;go_simp;refine zHo 19 rfl s1 ?_;go_simp;refine zHo 20 rfl s1 ?_;go_simp;refine zHo 21 rfl s1 ?_;go_simp;refine zHp 22 (.bool true) rfl s1 ?_;go_simp;refine wpAnyH_done (by kernel_rfl) ?_ _;go_wp2_with fail;go_ret;exact⟨by rw[HR.out];rfl,hbr.trans (s1.2.2.mono hbw)⟩
  have hkn2:k=n:=by omega
  have h1:=Ha.out;have h2:=Hr.out;rw[List.take_of_length_le (by rw[LX.out];omega)] at h1 h2;have HR:Hid (bH x=true):=hid (by unfold bH;rw[h1,h2,LX.out,decide_eq_true H50.out];rfl);clear h1 h2 hkn2;go_wp2_with fail;go_ret;exact⟨by rw[HR.out];rfl,hbr⟩
theorem pR (ao bo:Option Addr)(n m cap cbp:Nat)(x y:List (ByteArray×ByteArray))(w:World)(hx:Rd w 2 ao n cap (atV x))(hy:Rd w 2 bo m cbp (atV y))(hn:n<=9223372036854775807) :
  Calls Tryz.prog 56 #[.slice ao n cap,.slice bo m cbp] w (aY (decide (x=y)) w):=by
 have lx:x.length=n:=by have:=hx.1;rw[fE] at this;omega
 have ly:y.length=m:=by have:=hy.1;rw[fE] at this;omega
 by_cases hnm:n=m
 case neg=>
  have f1:((n:Int)==(m:Int))=false:=by simp;omega
  have HR:Hid (decide (x=y)=false):=hid (tH x y (by omega));clear lx ly hnm;go_in;go_wp2_with fail;go_ret;exact⟨by rw[HR.out];rfl,Below.refl _ _⟩
 subst hnm;have LX:=hid lx;have LY:=hid ly;clear lx ly;go_in;go_wp2_with fail;go_loopw [5] (fun p wr=>∃k:Nat,k<=n/\p=.int .i64 (k:Int)/\Hid (x.take k=y.take k)/\Below w.heap.size w wr) (fun p _=>n-(intOf p).toNat)
 case atStart=>exact⟨0,Nat.zero_le _,rfl,hid rfl,Below.refl _ _⟩
 case round=>
  obtain⟨k,hk,rfl,Ht,hbr⟩:=hrel;by_cases hkn:k<n
  ·obtain⟨b1,o1,rfl,hl1,hc1⟩:=hx.some (by have:=hx.le;omega);obtain⟨b2,o2,rfl,hl2,hc2⟩:=hy.some (by have:=hy.le;omega);obtain⟨u,hu⟩:∃u,x[k]?=some u:=⟨_,List.getElem?_eq_getElem (by rw[LX.out];exact hkn)⟩
   obtain⟨v,hv⟩:∃v,y[k]?=some v:=⟨_,List.getElem?_eq_getElem (by rw[LY.out];exact hkn)⟩
   obtain⟨v1,v2⟩:=jE x k u hu;obtain⟨v3,v4⟩:=jE y k v hv;have c1:=(hbr.cell (p:=⟨b1,o1+k*2,none⟩) hl1).trans (hc1 (k*2) _ v1);have c2:wr.cell? ⟨b1,o1+k*2+1,none⟩=_:=(hbr.cell (p:=⟨b1,o1+(k*2+1),none⟩) hl1).trans (hc1 (k*2+1) _ v2);have c3:=(hbr.cell (p:=⟨b2,o2+k*2,none⟩) hl2).trans (hc2 (k*2) _ v3);have c4:wr.cell? ⟨b2,o2+k*2+1,none⟩=_:=(hbr.cell (p:=⟨b2,o2+(k*2+1),none⟩) hl2).trans (hc2 (k*2+1) _ v4);clear v1 v2 v3 v4;have i0:(0:Int)<=(k:Int):=by omega
   have i1:(k:Int)<(n:Int):=by omega
   have hne:=yB u v;by_cases huv:u=v
   ·have HT:Hid (x.take (k+1)=y.take (k+1)):=hid (nD x y k u v Ht.out hu hv huv);rw[show (!decide (u=v))=false from by simp[huv]] at hne;clear huv;go_upto_region 6 with fail
    go_quiet (fail)
    have hbn:=hbr.trans ((below_drewN (Below.refl wr.heap.size wr) nq).mono hbr.size);go_wp2_with fail;go_roundw
    case rel=>exact⟨k+1,by omega,by go_num,HT,hbn⟩
    case measure=>simp[intOf];omega
   have HR:Hid (decide (x=y)=false):=hid (uK x y k u v hu hv huv);rw[show (!decide (u=v))=true from by simp[huv]] at hne;clear huv;go_upto_region 6 with fail
   go_quiet (fail)
   have hbn:=hbr.trans ((below_drewN (Below.refl wr.heap.size wr) nq).mono hbr.size);go_wp2_with fail;go_ret;exact⟨by rw[HR.out];rfl,hbn⟩
  have hkn2:k=n:=by omega
  have h1:=Ht.out;rw[List.take_of_length_le (by rw[LX.out];omega),List.take_of_length_le (by rw[LY.out];omega)] at h1;have HR:Hid (decide (x=y)=true):=hid (decide_eq_true h1);clear h1 hkn2;go_wp2_with fail;go_ret;exact⟨by rw[HR.out];rfl,hbr⟩
theorem Ah (w:World)(ao:Option Addr)(n cap:Nat)(l:List UInt8)(hr:Rd w 1 ao n cap (byV l)):(convert 34 9 (.slice ao n cap)).run Tryz.prog w=.ok (.string ⟨l.toArray⟩) w:=
 yJ (P:=Tryz.prog) w 34 9 5 Tryz.underlying34 Tryz.underlying5 Tryz.underlying9 ao _ cap _ hr
theorem Pv {l l':List UInt8}(h:l≠l'):((⟨l.toArray⟩:ByteArray).toList==(⟨l'.toArray⟩:ByteArray).toList)=false:=
 lw (fun e=>h (by have:=congrArg (fun b:ByteArray=>b.data.toList) e;simpa using this))
theorem Df (v v':OV)(c c':OC)(w:World)(h:OpAt w v c)(h':OpAt w v' c') :
  Calls Tryz.prog 19 #[v.val,v'.val] w (aY (bK v c v' c') w):=by
 have hb0:Below w.heap.size w ((w.alloc v.box).alloc v'.box):=bU w _ _;obtain⟨hx,hx'⟩:=bY w v.box v'.box;have ho:=h.later hb0;have ho':=h'.later hb0;have hz:((w.alloc v.box).alloc v'.box).heap.size=w.heap.size+1+1:=by simp
 have lx:c.parts.length=v.bn:=by have:=h.b.1;rw[iZ] at this;omega
 have ly:c'.parts.length=v'.bn:=by have:=h'.b.1;rw[iZ] at this;omega
 have key:∀e1:v.k=v'.k,∀e2:v.name=v'.name,∀e3:v.to=v'.to,Hid (bK v c v' c'=decide (c.attrs=c'.attrs/\c.parts=c'.parts/\c.cursor=c'.cursor/\v.n=v'.n)):=fun e1 e2 e3=>hid (by simp[bK,e1,e2,e3]);have LX:=hid lx;have LY:=hid ly;clear lx ly;unfold OV.box at hb0 hx hx' ho ho' hz;by_cases e1:v.k=v'.k
 ·have f1:(v.k != v'.k)=false:=by simp[e1]
  by_cases e2:v.name=v'.name
  ·have f2:(v.name.toList==v'.name.toList)=true:=by simp[e2]
   by_cases e3:v.to=v'.to
   ·have f3:(v.to.toList==v'.to.toList)=true:=by simp[e3]
    have Hk:=key e1 e2 e3;unfold OV.val;clear e1 e2 e3 key;go_in;go_wp2_with fail;refine (pR _ _ _ _ _ _ c.attrs c'.attrs _ ho.a ho'.a (Nat.le_trans ho.la (by decide))).mono ?_;rintro e w1 ⟨rfl,hb1⟩;have hb2:=hb0.trans (hb1.mono hb0.size);have k1:=(hb1.block w.heap.size (by rw[hz];omega)).trans hx;have k2:=(hb1.block (w.heap.size+1) (by rw[hz];omega)).trans hx';have q1:=ho.later hb1;have q1':=ho'.later hb1;have z1:=Ah w1 _ _ _ _ q1.c;have z2:=Ah w1 _ _ _ _ q1'.c;obtain⟨-,c1,c2,c3⟩:=gQ (v:=v) k1;obtain⟨-,c4,c5,c6⟩:=gQ (v:=v') k2;by_cases e4:c.attrs=c'.attrs
    case neg=>
     rw[decide_eq_false e4];have Hs:Hid (bK v c v' c'=false):=hid (by rw[Hk.out];simp[e4]);go_wp2_with fail;go_ret;exact⟨by rw[Hs.out];rfl,hb2⟩
    rw[decide_eq_true e4];by_cases e5:v.bn=v'.bn
    case neg=>
     have g5:((v.bn:Int) != (v'.bn:Int))=true:=by simp;omega
     have Hs:Hid (bK v c v' c'=false):=hid (by rw[Hk.out];apply decide_eq_false;rintro⟨-,h,-⟩;rw[<-LX.out,<-LY.out,h] at e5;exact e5 rfl);clear e5;go_wp2_with fail;go_ret;exact⟨by rw[Hs.out];rfl,hb2⟩
    have g5:((v.bn:Int) != (v'.bn:Int))=false:=by simp;omega
    by_cases e6:c.cursor=c'.cursor
    case neg=>
     have Hs:Hid (bK v c v' c'=false):=hid (by rw[Hk.out];simp[e6]);clear e5;go_wp2_with fail;go_ret;exact⟨by rw[Hs.out];rfl,hb2⟩
    by_cases e7:v.n=v'.n
    case neg=>
     have f7:(v.n != v'.n)=true:=by simp[e7]
     have Hs:Hid (bK v c v' c'=false):=hid (by rw[Hk.out];simp[e7]);clear e7 e5;go_wp2_with fail;go_ret;exact⟨by rw[Hs.out];rfl,hb2⟩
    have f7:(v.n != v'.n)=false:=by simp[e7]
    have HK:Hid (bK v c v' c'=decide (c.parts=c'.parts)):=hid (by rw[Hk.out];simp[e4,e6,e7]);have H5:=hid e5;clear e7 e5 e4 Hk;go_wp2_with fail;clear z1 z2 c1 c2 c3 c4 c5 c6 g5 f7 f1 f2 f3 e6;go_loopw [5] (fun p wr=>∃k:Nat,k<=v.bn/\p=.int .i64 (k:Int)/\Hid (c.parts.take k=c'.parts.take k)/\Below w1.heap.size w1 wr) (fun p _=>v.bn-(intOf p).toNat)
    case atStart=>exact⟨0,Nat.zero_le _,rfl,hid rfl,Below.refl _ _⟩
    case round=>
     obtain⟨k,hk,rfl,Ht,hbr⟩:=hrel;obtain⟨-,c1,-,-⟩:=gQ (v:=v) ((hbr.block _ (Array.getElem?_eq_some_iff.1 k1).1).trans k1);obtain⟨-,c4,-,-⟩:=gQ (v:=v') ((hbr.block _ (Array.getElem?_eq_some_iff.1 k2).1).trans k2);have hB:=hb2.trans (hbr.mono hb2.size);by_cases hkn:k<v.bn
     ·have hkm:k<v'.bn:=by have:=H5.out;omega
      have hkb:=ho.lb;obtain⟨b1,o1,ea,hl1,hc1⟩:=(q1.b.later hbr).some (by have:=q1.b.le;omega);obtain⟨b2,o2,eb,hl2,hc2⟩:=(q1'.b.later hbr).some (by have:=q1'.b.le;omega);rw[ea] at c1;rw[eb] at c4;obtain⟨u,hu⟩:∃u,c.parts[k]?=some u:=⟨_,List.getElem?_eq_getElem (by rw[LX.out];exact hkn)⟩
      obtain⟨t,ht⟩:∃t,c'.parts[k]?=some t:=⟨_,List.getElem?_eq_getElem (by rw[LY.out];exact hkm)⟩
      have d1:=hc1 k _ (pW c.parts k u hu);have d2:=hc2 k _ (pW c'.parts k t ht);have d1':wr.cell? ⟨b1,o1+k*1,none⟩=some (.string u):=by rw[Nat.mul_one];exact d1
      have d2':wr.cell? ⟨b2,o2+k*1,none⟩=some (.string t):=by rw[Nat.mul_one];exact d2
      have i0:(0:Int)<=(k:Int):=by omega
      have i1:(k:Int)<(v.bn:Int):=by omega
      have i2:(k:Int)<(v'.bn:Int):=by omega
      clear hc1 hc2 hkm;by_cases hut:u=t
      ·have f:=uQ t;have HT:Hid (c.parts.take (k+1)=c'.parts.take (k+1)):=hid (nD c.parts c'.parts k u t Ht.out hu ht hut);rw[hut] at d1 d1';clear hut;go_upto_region 6 with fail
       go_quiet (fail)
       have hbn:=hbr.trans ((below_drewN (Below.refl wr.heap.size wr) nq).mono hbr.size);go_wp2_with fail;go_roundw
       case rel=>exact⟨k+1,by omega,by go_num,HT,hbn⟩
       case measure=>simp[intOf];omega
      have f:=lw hut;have Hs:Hid (bK v c v' c'=false):=hid (by rw[HK.out];exact uK c.parts c'.parts k u t hu ht hut);clear hut;go_upto_region 6 with fail
      go_quiet (fail)
      have hbn:=hbr.trans ((below_drewN (Below.refl wr.heap.size wr) nq).mono hbr.size);go_wp2_with fail;go_ret;exact⟨by rw[Hs.out];rfl,hb2.trans (hbn.mono hb2.size)⟩
     have hkn2:k=v.bn:=by omega
     have h1:=Ht.out;rw[List.take_of_length_le (by rw[LX.out];omega),List.take_of_length_le (by rw[LY.out,<-H5.out];omega)] at h1;have Hs:Hid (bK v c v' c'=true):=hid (by rw[HK.out];exact decide_eq_true h1);clear h1 hkn2;go_wp2_with fail;go_ret;exact⟨by rw[Hs.out];rfl,hB⟩
   have f3:=lw e3;have Hs:=hid (nH (v:=v) (v':=v') (c:=c) (c':=c') (fun h=>e3 h.2.2.1));unfold OV.val;clear e1 e2 e3 key;go_in;go_wp2_with fail;go_ret;exact⟨by rw[Hs.out];rfl,hb0⟩
  have f2:=lw e2;have Hs:=hid (nH (v:=v) (v':=v') (c:=c) (c':=c') (fun h=>e2 h.2.1));unfold OV.val;clear e1 e2 key;go_in;go_wp2_with fail;go_ret;exact⟨by rw[Hs.out];rfl,hb0⟩
 have f1:(v.k != v'.k)=true:=by simp[e1]
 have Hs:=hid (nH (v:=v) (v':=v') (c:=c) (c':=c') (fun h=>e1 h.1));unfold OV.val;clear e1 key;go_in;go_wp2_with fail;go_ret;exact⟨by rw[Hs.out];rfl,hb0⟩
end Go.Proofs.YtfmmandlmbcncaaGreatDoor.Msg
