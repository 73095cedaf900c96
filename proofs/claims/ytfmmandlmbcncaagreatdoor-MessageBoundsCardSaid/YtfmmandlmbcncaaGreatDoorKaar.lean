/-
  A part of the proof.
-/
import Derived.Test.YtfmmandlmbcncaaGreatDoorKaap
import Derived.Test.YtfmmandlmbcncaaGreatDoorKaaq
import Derived.Test.YtfmmandlmbcncaaGreatDoorKaan
set_option maxHeartbeats 40000000
namespace Go.Proofs.YtfmmandlmbcncaaGreatDoor.Msg
open Go.RowKit Go.Lib Go.Proofs.YtfmmandlmbcncaaGreatDoor.Mem Go.Proofs.YtfmmandlmbcncaaGreatDoor.Tlv
structure FitsA (v:OV)(c:OC):Prop where
 an:v.an≤50
 attrs:∀u∈c.attrs,u.1.size≤1000∧u.2.size≤1000
 bn:v.bn≤8
 parts:∀u∈c.parts,u.size≤1000
set_option maxRecDepth 100000 in
theorem opBytes_all (v:OV)(c:OC)(w:World)(ho:OpAt w v c)(hf:Fits v c)(hg:FitsA v c):Calls Tryz.prog 228 #[v.val] w (GivesL w (opL v c)):=by
 obtain⟨kn,hkn⟩:∃kn:Nat,v.k=(kn:Int):=⟨v.k.toNat,by have:=hf.k0;omega⟩
 obtain⟨nn,hnn⟩:∃nn:Nat,v.n=(nn:Int):=⟨v.n.toNat,by have:=hf.n0;omega⟩
 have Hkn:=hid hkn
 have Hnn:=hid hnn
 have hw1:IntKind.wrap .u64 v.k=(kn:Int):=by rw[hkn];have h8:=hf.k8;rw[hkn] at h8;show ((kn:Int) % 18446744073709551616)=kn;omega
 have hw2:IntKind.wrap .u64 v.n=(nn:Int):=by rw[hnn];have h8:=hf.n1;rw[hnn] at h8;show ((nn:Int) % 18446744073709551616)=nn;omega
 clear hkn hnn
 have hff:=fun W=>fields_any v.k W
 have hus:Tryz.prog.underlying 9=some .string:=Tryz.underlying9
 have hl3:=fields_len v.k
 have hb0:Below w.heap.size w ((w.alloc v.box).alloc (.cells #[.slice none 0 0,.int .i64 0] 177)):=below_two w _ _
 obtain⟨k1,k2⟩:=two_boxes w v.box (.cells #[.slice none 0 0,.int .i64 0] 177)
 have hz:((w.alloc v.box).alloc (.cells #[.slice none 0 0,.int .i64 0] 177)).heap.size=w.heap.size+1+1:=by simp
 have hs0:WrS (w.heap.size+1) (w.heap.size+1) ⟨[],0⟩ ((w.alloc v.box).alloc (.cells #[.slice none 0 0,.int .i64 0] 177)):=⟨_,k2,Nat.le_refl _,World.ownsRow_nil _ _ _ _⟩
 unfold OV.val
 go_enter Tryz.func228,Tryz.ntmps228
 go_wp2_with fail
 refine (wnum_any (w.heap.size+1) (w.heap.size+1) ⟨[],0⟩ 1 kn _ hs0 (by decide)).mono ?_
 rintro e w1 ⟨rfl,hs1,hb1,-⟩
 have hb2:Below w.heap.size w w1:=hb0.trans (hb1.mono (by omega))
 have q1:=(hb1.block w.heap.size (by omega)).trans k1
 obtain⟨c0,-,-,-,-,-,-,-⟩:=box_all q1
 go_wp2_with fail
 refine (hff _).mono ?_
 rintro e w2 ⟨rfl,hb3⟩
 have hb4:=hb2.trans (hb3.mono hb2.size)
 have hs2:=hs1.later hb3
 have q2:=(hb3.block w.heap.size (Array.getElem?_eq_some_iff.1 q1).1).trans q1
 have hit:w.heap.size+1<w2.heap.size:=by obtain⟨y,hy⟩:=hs2;exact hy.lt
 have hr:=run_range_string (P:=Tryz.prog) w2 9 ⟨(fieldsOf v.k).toArray⟩ hus
 clear c0
 go_wp2_with fail
 go_loopw [] (fun wr=>∃j,PutAt w w2.heap.size v c j wr) (fun wr=>(fieldsOf v.k).length-wr.iterPos w2.heap.size)
 case atStart=>
  have hbi:Below w2.heap.size w2 (w2.iter ⟨(fieldsOf v.k).toArray⟩ 0):=(Below.refl _ _).alloc (Nat.le_refl _) _
  refine⟨0,hb4.trans (hbi.mono hb4.size),(hbi.block _ (by omega)).trans q2,?_,by show (w2.heap.push _)[w2.heap.size]?=some _;exact Array.getElem?_push_size⟩
  have:=hs2.later hbi
  simpa [WS.put,opTo,Hkn.out] using this
 case round=>
  obtain⟨j,hB⟩:=hrel
  have hlen:(opTo v c ((fieldsOf v.k).take j)).length≤100000000:=opTo_len hf _ (by rw[List.length_take];omega)
  by_cases hj:j<(fieldsOf v.k).length
  ·obtain⟨x,hc⟩:∃x,(fieldsOf v.k)[j]?=some x:=⟨_,List.getElem?_eq_getElem hj⟩
   have hcl:=letters v.k j x hc
   have hm:wr.iterPos w2.heap.size=j:=by simp[World.iterPos,hB.hi]
   obtain⟨hbi,g1,gw,gi⟩:=hB.skip hit
   have goi:=ho.later hbi
   obtain⟨-,c1,c2,c3,c4,c5,c6,-⟩:=box_all g1
   rcases hcl with rfl|rfl|rfl|rfl|rfl|rfl
   ·have hn:∀ty,(Instr.next (.pointer (some ⟨w2.heap.size,0,none⟩)) true ty).run Tryz.prog wr=.ok (.tuple #[.bool true,.int .i64 j,.int .i32 110]) (wr.iterAt w2.heap.size ⟨(fieldsOf v.k).toArray⟩ (j+1)):=fun ty=>next_letter wr w2.heap.size (fieldsOf v.k) j 110 ty hB.hi hc (by decide)
    go_wp2_with fail
    refine (wtext_any (w.heap.size+1) (w.heap.size+1) ⟨opTo v c ((fieldsOf v.k).take j),0⟩ 2 v.name _ gw hlen (by have:=hf.name;omega)).mono ?_
    rintro e w3 hT
    have hN:=PutAt.put hbi g1 gi (by omega) hc (by decide) (by simp[letV]) hT
    obtain⟨rfl,-⟩:=hT
    go_wp2_with fail
    go_roundw
    case rel=>exact⟨j+1,hN⟩
    case measure=>rw[hm];simp[World.iterPos,hN.hi];omega
   ·have hn:∀ty,(Instr.next (.pointer (some ⟨w2.heap.size,0,none⟩)) true ty).run Tryz.prog wr=.ok (.tuple #[.bool true,.int .i64 j,.int .i32 116]) (wr.iterAt w2.heap.size ⟨(fieldsOf v.k).toArray⟩ (j+1)):=fun ty=>next_letter wr w2.heap.size (fieldsOf v.k) j 116 ty hB.hi hc (by decide)
    go_wp2_with fail
    refine (wtext_any (w.heap.size+1) (w.heap.size+1) ⟨opTo v c ((fieldsOf v.k).take j),0⟩ 3 v.to _ gw hlen (by have:=hf.to_;omega)).mono ?_
    rintro e w3 hT
    have hN:=PutAt.put hbi g1 gi (by omega) hc (by decide) (by simp[letV]) hT
    obtain⟨rfl,-⟩:=hT
    go_wp2_with fail
    go_roundw
    case rel=>exact⟨j+1,hN⟩
    case measure=>rw[hm];simp[World.iterPos,hN.hi];omega
   ·have hn:∀ty,(Instr.next (.pointer (some ⟨w2.heap.size,0,none⟩)) true ty).run Tryz.prog wr=.ok (.tuple #[.bool true,.int .i64 j,.int .i32 97]) (wr.iterAt w2.heap.size ⟨(fieldsOf v.k).toArray⟩ (j+1)):=fun ty=>next_letter wr w2.heap.size (fieldsOf v.k) j 97 ty hB.hi hc (by decide)
    go_wp2_with fail
    refine (attrs_any (w.heap.size+1) (w.heap.size+1) ⟨opTo v c ((fieldsOf v.k).take j),0⟩ 4 v.ao v.an v.ac c.attrs _ gw rfl hlen goi.a hg.an hg.attrs).mono ?_
    rintro e w3 ⟨⟨r,rfl⟩,q1,q2,q3⟩
    have hN:=PutAt.put hbi g1 gi (by omega) hc (by decide) (by simp[letV]) (e:=.returned (.pointer (some ⟨w.heap.size+1,0,none⟩))) ⟨rfl,q1,q2,q3⟩
    go_wp2_with fail
    go_roundw
    case rel=>exact⟨j+1,hN⟩
    case measure=>rw[hm];simp[World.iterPos,hN.hi];omega
   ·have hn:∀ty,(Instr.next (.pointer (some ⟨w2.heap.size,0,none⟩)) true ty).run Tryz.prog wr=.ok (.tuple #[.bool true,.int .i64 j,.int .i32 112]) (wr.iterAt w2.heap.size ⟨(fieldsOf v.k).toArray⟩ (j+1)):=fun ty=>next_letter wr w2.heap.size (fieldsOf v.k) j 112 ty hB.hi hc (by decide)
    go_wp2_with fail
    refine (parts_any (w.heap.size+1) (w.heap.size+1) ⟨opTo v c ((fieldsOf v.k).take j),0⟩ 5 v c w.heap.size _ gw rfl hlen g1 goi hg.bn hg.parts).mono ?_
    rintro e w3 hT
    have hN:=PutAt.put hbi g1 gi (by omega) hc (by decide) (by simp[letV]) hT
    obtain⟨rfl,-⟩:=hT
    go_wp2_with fail
    go_roundw
    case rel=>exact⟨j+1,hN⟩
    case measure=>rw[hm];simp[World.iterPos,hN.hi];omega
   ·have hn:∀ty,(Instr.next (.pointer (some ⟨w2.heap.size,0,none⟩)) true ty).run Tryz.prog wr=.ok (.tuple #[.bool true,.int .i64 j,.int .i32 99]) (wr.iterAt w2.heap.size ⟨(fieldsOf v.k).toArray⟩ (j+1)):=fun ty=>next_letter wr w2.heap.size (fieldsOf v.k) j 99 ty hB.hi hc (by decide)
    go_wp2_with fail
    refine (wput_any (w.heap.size+1) (w.heap.size+1) ⟨opTo v c ((fieldsOf v.k).take j),0⟩ 6 c.cursor v.co v.cn v.cc _ gw hlen (by have:=hf.cur;have:=goi.c.1;rw[byV_len] at this;omega) goi.c (fun h0 a ha y hy=>low_dis ho.c ha h0 hy)).mono ?_
    rintro e w3 hT
    have hN:=PutAt.put hbi g1 gi (by omega) hc (by decide) (by simp[letV]) hT
    obtain⟨rfl,-⟩:=hT
    go_wp2_with fail
    go_roundw
    case rel=>exact⟨j+1,hN⟩
    case measure=>rw[hm];simp[World.iterPos,hN.hi];omega
   have hn:∀ty,(Instr.next (.pointer (some ⟨w2.heap.size,0,none⟩)) true ty).run Tryz.prog wr=.ok (.tuple #[.bool true,.int .i64 j,.int .i32 107]) (wr.iterAt w2.heap.size ⟨(fieldsOf v.k).toArray⟩ (j+1)):=fun ty=>next_letter wr w2.heap.size (fieldsOf v.k) j 107 ty hB.hi hc (by decide)
   go_wp2_with fail
   refine (wnum_any (w.heap.size+1) (w.heap.size+1) ⟨opTo v c ((fieldsOf v.k).take j),0⟩ 7 nn _ gw hlen).mono ?_
   rintro e w3 hT
   have hN:=PutAt.put hbi g1 gi (by omega) hc (by decide) (by simp[letV,Hnn.out]) hT
   obtain⟨rfl,-⟩:=hT
   go_wp2_with fail
   go_roundw
   case rel=>exact⟨j+1,hN⟩
   case measure=>rw[hm];simp[World.iterPos,hN.hi];omega
  have hn:=fun ty=>run_next_end_at (P:=Tryz.prog) wr w2.heap.size ⟨(fieldsOf v.k).toArray⟩ j ty hB.hi hj
  have hw:=hB.wr_
  rw[List.take_of_length_le (by omega)] at hw hlen
  obtain⟨y,hy⟩:=hw
  go_wp2_with fail
  refine (wend_ok _ _ _ _ _ hy hlen).mono ?_
  rintro e w3 ⟨z,rfl,hz3,hb3'⟩
  obtain⟨ao,cap,rfl,hr3⟩:=Rd.of_own hz3
  go_wp2_with fail
  go_ret
  refine⟨ao,cap,rfl,hr3,hB.bel.trans (hb3'.mono hB.bel.size),fun a ha=>?_⟩
  rcases hz3.2 with ⟨h,_⟩ | ⟨g,cc,cur,h,hg,_⟩
  ·have:=(Value.slice.inj h).1;rw[ha] at this;cases this
  have:=(Value.slice.inj h).1;rw[ha] at this;cases this;exact Nat.le_trans hB.bel.size hg
def mayOp (v:OV)(c:OC):Bool:=mayOpA v c (mayAttrs c.attrs)
def opBy (v:OV)(c:OC):List UInt8:=if mayOp v c then opL v c else []
theorem mayName_le {x:ByteArray}(h:mayName x=true):x.size≤1000:=by
 unfold mayName at h
 simp only[Bool.and_eq_true,decide_eq_true_eq] at h
 exact h.1
theorem mayAttr_le {u:ByteArray×ByteArray}(h:mayAttr u=true):u.1.size≤1000∧u.2.size≤1000:=by
 unfold mayAttr mayType at h
 simp only[Bool.and_eq_true,decide_eq_true_eq] at h
 exact⟨by have:=h.1.1.1.2;omega,mayName_le h.2⟩
theorem may_parts {v:OV}{c:OC}(W:World)(ho:OpAt W v c)(h:mayOp v c=true):Fits v c∧FitsA v c∧∀x,(letV v c x).length≤200000:=by
 have la:c.attrs.length=v.an:=by have:=ho.a.1;rw[atV_len] at this;omega
 have lb:c.parts.length=v.bn:=by have:=ho.b.1;rw[txV_len] at this;omega
 have lc:c.cursor.length=v.cn:=by have:=ho.c.1;rw[byV_len] at this;omega
 unfold mayOp mayOpA at h
 simp only[Bool.and_eq_true,decide_eq_true_eq,Bool.not_eq_true'] at h
 obtain⟨⟨⟨⟨⟨⟨h1,h2⟩,h3⟩,h4⟩,h5⟩,h6⟩,h7⟩:=h
 have hname:=mayName_le h3
 have hto:=mayName_le h4
 have hattr:∀u∈c.attrs,u.1.size≤1000∧u.2.size≤1000:=fun u hu=>by
  refine mayAttr_le ?_
  have:=List.any_eq_false.1 h6 u hu
  simpa using this
 have hk:v.k=1∨v.k=2∨v.k=3∨v.k=4∨v.k=5∨v.k=6∨v.k=7∨v.k=8:=by
  rcases Classical.em (v.k=1∨v.k=2∨v.k=3∨v.k=4∨v.k=5∨v.k=6∨v.k=7∨v.k=8) with h | h
  ·exact h
  refine absurd ?_ h1
  simp only[not_or] at h
  obtain⟨a1,a2,a3,a4,a5,a6,a7,a8⟩:=h
  simp only[fieldsOf,a1,a2,a3,a4,a5,a6,a7,a8,if_false]
 unfold sameOp at h2
 simp only[decide_eq_true_eq] at h2
 obtain⟨-,-,-,e4,e5,e6,e7⟩:=h2
 have hrest:v.bn≤8∧(∀u∈c.parts,u.size≤1000)∧c.cursor.length≤4000∧0≤v.n∧v.n≤1000:=by
  by_cases h78:v.k=7∨v.k=8
  ·have k1:¬v.k=1:=by omega
   have k5:¬v.k=5:=by omega
   unfold restOp at h7
   rw[if_neg k1,if_neg k5] at h7
   simp only[Bool.and_eq_true,decide_eq_true_eq,Bool.not_eq_true'] at h7
   obtain⟨⟨⟨⟨r1,r2⟩,r3⟩,r4⟩,r5⟩:=h7
   refine⟨r1,fun u hu=>mayName_le ?_,by omega,r4,r5⟩
   have:=List.any_eq_false.1 r2 u hu
   simpa using this
  have hl:(112:UInt8)∉fieldsOf v.k∧(99:UInt8)∉fieldsOf v.k∧(107:UInt8)∉fieldsOf v.k:=by
   rcases hk with h | h | h | h | h | h | h | h<;>rw[h]<;>first | omega | decide
  have f1:c.parts=[]:=by rw[e5];unfold keepC;rw[if_neg hl.1]
  have f2:c.cursor=[]:=by rw[e6];unfold keepC;rw[if_neg hl.2.1]
  have f3:v.n=0:=by rw[e7];unfold keepL;rw[if_neg hl.2.2]
  rw[f1] at lb
  rw[f1,f2,f3]
  exact⟨by simp at lb;omega,fun u hu=>by simp at hu,by simp,by omega,by omega⟩
 obtain⟨r1,r2,r3,r4,r5⟩:=hrest
 have hL:∀x,(letV v c x).length≤200000:=?_
 ·exact⟨⟨by omega,by omega,hname,hto,r3,r4,r5,fun x=>Nat.le_trans (hL x) (by decide)⟩,⟨h5,hattr,r1,r2⟩,hL⟩
 intro x
 have ha:(attB c.attrs).length≤50*2015:=by
  have:=atE_all c.attrs c.attrs.length (Nat.le_refl _)
  rw[List.take_length] at this
  rw[←this]
  have h9:=allIt_le (atE c.attrs) 2015 c.attrs.length (fun i hi=>by
   have:=hattr c.attrs[i] (List.getElem_mem hi)
   simp only[atE,List.getElem?_eq_getElem hi,Option.getD_some,val_len,List.length_append,sz_len]
   omega)
  exact Nat.le_trans h9 (Nat.mul_le_mul_right 2015 (show c.attrs.length≤50 by omega))
 have hp:(parB c.parts).length≤8*1005:=by
  have:=paE_all c.parts c.parts.length (Nat.le_refl _)
  rw[List.take_length] at this
  rw[←this]
  have h9:=allIt_le (paE c.parts) 1005 c.parts.length (fun i hi=>by
   have:=r2 c.parts[i] (List.getElem_mem hi)
   simp only[paE,List.getElem?_eq_getElem hi,Option.getD_some,val_len,sz_len]
   omega)
  exact Nat.le_trans h9 (Nat.mul_le_mul_right 1005 (show c.parts.length≤8 by omega))
 unfold letV
 repeat' split
 all_goals simp only[val_len,sz_len,num8_len]
 all_goals omega
theorem opC_all (W:World)(v:OV)(c:OC)(ho:OpAt W v c):OpC v c (mayOp v c) (opBy v c):=by
 refine⟨fun W' ho'=>mayOp_any v c _ W' ho' (fun _ W2 h2=>mayAttrs_any _ _ _ _ _ h2.a h2.la),fun hm W' ho'=>?_,?_⟩
 ·obtain⟨f1,f2,-⟩:=may_parts W ho hm
  unfold opBy
  rw[if_pos hm]
  exact opBytes_all v c W' ho' f1 f2
 unfold opBy
 split
 ·rename_i hm
  obtain⟨-,-,f3⟩:=may_parts W ho hm
  have h1:=flat_le (letV v c) 200000 f3 (fieldsOf v.k)
  have h2:=Nat.mul_le_mul_right 200000 (fields_len v.k)
  unfold opL opTo
  rw[List.length_append,val_len,num8_len]
  omega
 simp
end Go.Proofs.YtfmmandlmbcncaaGreatDoor.Msg
