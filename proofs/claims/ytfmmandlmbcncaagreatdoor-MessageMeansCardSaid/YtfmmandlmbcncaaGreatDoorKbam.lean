/-
  A part of the proof.
-/
import Derived.Test.YtfmmandlmbcncaaGreatDoorKbak
import Derived.Test.YtfmmandlmbcncaaGreatDoorKbal
import Derived.Test.YtfmmandlmbcncaaGreatDoorKbai
set_option maxHeartbeats 40000000
namespace Go.Proofs.YtfmmandlmbcncaaGreatDoor.Msg
open Go.RowKit Go.Lib Go.Proofs.YtfmmandlmbcncaaGreatDoor.Mem Go.Proofs.YtfmmandlmbcncaaGreatDoor.Tlv
structure FitsA (v:OV)(c:OC):Prop where
 an:v.an≤50
 attrs:∀u∈c.attrs,u.1.size≤1000∧u.2.size≤1000
 bn:v.bn≤8
 parts:∀u∈c.parts,u.size≤1000
set_option maxRecDepth 100000 in
theorem opBytes_all (v:OV)(c:OC)(w:World)(ho:OpAt w v c)(hf:Fits v c)(hg:FitsA v c):Calls Tryz.prog 228 #[v.val] w (GivesL w (opL v c)):=by
 obtain⟨kn,hkn⟩:∃kn:Nat,v.k=(kn:Int):=⟨v.k.toNat,by have:=hf.k0;omega⟩
 obtain⟨nn,hnn⟩:∃nn:Nat,v.n=(nn:Int):=⟨v.n.toNat,by have:=hf.n0;omega⟩
 have Hkn:=hid hkn
 have Hnn:=hid hnn
 have hw1:IntKind.wrap .u64 v.k=(kn:Int):=by rw[hkn];have h8:=hf.k8;rw[hkn] at h8;show ((kn:Int) % 18446744073709551616)=kn;omega
 have hw2:IntKind.wrap .u64 v.n=(nn:Int):=by rw[hnn];have h8:=hf.n1;rw[hnn] at h8;show ((nn:Int) % 18446744073709551616)=nn;omega
 clear hkn hnn
 have hff:=fun W=>fields_any v.k W
 have hus:Tryz.prog.underlying 9=some .string:=Tryz.underlying9
 have hl3:=fields_len v.k
 have hb0:Below w.heap.size w ((w.alloc v.box).alloc (.cells #[.slice none 0 0,.int .i64 0] 177)):=below_two w _ _
 obtain⟨k1,k2⟩:=two_boxes w v.box (.cells #[.slice none 0 0,.int .i64 0] 177)
 have hz:((w.alloc v.box).alloc (.cells #[.slice none 0 0,.int .i64 0] 177)).heap.size=w.heap.size+1+1:=by simp
 have hs0:WrS (w.heap.size+1) (w.heap.size+1) ⟨[],0⟩ ((w.alloc v.box).alloc (.cells #[.slice none 0 0,.int .i64 0] 177)):=⟨_,k2,Nat.le_refl _,World.ownsRow_nil _ _ _ _⟩
 unfold OV.val
 go_enter Tryz.func228,Tryz.ntmps228
 go_wp2_with fail
 refine (wnum_any (w.heap.size+1) (w.heap.size+1) ⟨[],0⟩ 1 kn _ hs0 (by decide)).mono ?_
 rintro e w1 ⟨rfl,hs1,hb1,-⟩
 have hb2:Below w.heap.size w w1:=hb0.trans (hb1.mono (by omega))
 have q1:=(hb1.block w.heap.size (by omega)).trans k1
 obtain⟨c0,-,-,-,-,-,-,-⟩:=box_all q1
 go_wp2_with fail
 refine (hff _).mono ?_
 rintro e w2 ⟨rfl,hb3⟩
 have hb4:=hb2.trans (hb3.mono hb2.size)
 have hs2:=hs1.later hb3
 have q2:=(hb3.block w.heap.size (Array.getElem?_eq_some_iff.1 q1).1).trans q1
 have hit:w.heap.size+1<w2.heap.size:=by obtain⟨y,hy⟩:=hs2;exact hy.lt
 have hr:=run_range_string (P:=Tryz.prog) w2 9 ⟨(fieldsOf v.k).toArray⟩ hus
 clear c0
 go_wp2_with fail
 go_loopw [] (fun wr=>∃j,PutAt w w2.heap.size v c j wr) (fun wr=>(fieldsOf v.k).length-wr.iterPos w2.heap.size)
 case atStart=>
  have hbi:Below w2.heap.size w2 (w2.iter ⟨(fieldsOf v.k).toArray⟩ 0):=(Below.refl _ _).alloc (Nat.le_refl _) _
  refine⟨0,hb4.trans (hbi.mono hb4.size),(hbi.block _ (by omega)).trans q2,?_,by show (w2.heap.push _)[w2.heap.size]?=some _;exact Array.getElem?_push_size⟩
  have:=hs2.later hbi
  simpa [WS.put,opTo,Hkn.out] using this
 case round=>
  obtain⟨j,hB⟩:=hrel
  have hlen:(opTo v c ((fieldsOf v.k).take j)).length≤100000000:=opTo_len hf _ (by rw[List.length_take];omega)
  by_cases hj:j<(fieldsOf v.k).length
  ·obtain⟨x,hc⟩:∃x,(fieldsOf v.k)[j]?=some x:=⟨_,List.getElem?_eq_getElem hj⟩
   have hcl:=letters v.k j x hc
   have hm:wr.iterPos w2.heap.size=j:=by simp[World.iterPos,hB.hi]
   obtain⟨hbi,g1,gw,gi⟩:=hB.skip hit
   have goi:=ho.later hbi
   obtain⟨-,c1,c2,c3,c4,c5,c6,-⟩:=box_all g1
   rcases hcl with rfl|rfl|rfl|rfl|rfl|rfl
   ·have hn:∀ty,(Instr.next (.pointer (some ⟨w2.heap.size,0,none⟩)) true ty).run Tryz.prog wr=.ok (.tuple #[.bool true,.int .i64 j,.int .i32 110]) (wr.iterAt w2.heap.size ⟨(fieldsOf v.k).toArray⟩ (j+1)):=fun ty=>next_letter wr w2.heap.size (fieldsOf v.k) j 110 ty hB.hi hc (by decide)
    go_wp2_with fail
    refine (wtext_any (w.heap.size+1) (w.heap.size+1) ⟨opTo v c ((fieldsOf v.k).take j),0⟩ 2 v.name _ gw hlen (by have:=hf.name;omega)).mono ?_
    rintro e w3 hT
    have hN:=PutAt.put hbi g1 gi (by omega) hc (by decide) (by simp[letV]) hT
    obtain⟨rfl,-⟩:=hT
    go_wp2_with fail
    go_roundw
    case rel=>exact⟨j+1,hN⟩
    case measure=>rw[hm];simp[World.iterPos,hN.hi];omega
   ·have hn:∀ty,(Instr.next (.pointer (some ⟨w2.heap.size,0,none⟩)) true ty).run Tryz.prog wr=.ok (.tuple #[.bool true,.int .i64 j,.int .i32 116]) (wr.iterAt w2.heap.size ⟨(fieldsOf v.k).toArray⟩ (j+1)):=fun ty=>next_letter wr w2.heap.size (fieldsOf v.k) j 116 ty hB.hi hc (by decide)
    go_wp2_with fail
    refine (wtext_any (w.heap.size+1) (w.heap.size+1) ⟨opTo v c ((fieldsOf v.k).take j),0⟩ 3 v.to _ gw hlen (by have:=hf.to_;omega)).mono ?_
    rintro e w3 hT
    have hN:=PutAt.put hbi g1 gi (by omega) hc (by decide) (by simp[letV]) hT
    obtain⟨rfl,-⟩:=hT
    go_wp2_with fail
    go_roundw
    case rel=>exact⟨j+1,hN⟩
    case measure=>rw[hm];simp[World.iterPos,hN.hi];omega
   ·have hn:∀ty,(Instr.next (.pointer (some ⟨w2.heap.size,0,none⟩)) true ty).run Tryz.prog wr=.ok (.tuple #[.bool true,.int .i64 j,.int .i32 97]) (wr.iterAt w2.heap.size ⟨(fieldsOf v.k).toArray⟩ (j+1)):=fun ty=>next_letter wr w2.heap.size (fieldsOf v.k) j 97 ty hB.hi hc (by decide)
    go_wp2_with fail
    refine (attrs_any (w.heap.size+1) (w.heap.size+1) ⟨opTo v c ((fieldsOf v.k).take j),0⟩ 4 v.ao v.an v.ac c.attrs _ gw rfl hlen goi.a hg.an hg.attrs).mono ?_
    rintro e w3 ⟨⟨r,rfl⟩,q1,q2,q3⟩
    have hN:=PutAt.put hbi g1 gi (by omega) hc (by decide) (by simp[letV]) (e:=.returned (.pointer (some ⟨w.heap.size+1,0,none⟩))) ⟨rfl,q1,q2,q3⟩
    go_wp2_with fail
    go_roundw
    case rel=>exact⟨j+1,hN⟩
    case measure=>rw[hm];simp[World.iterPos,hN.hi];omega
   ·have hn:∀ty,(Instr.next (.pointer (some ⟨w2.heap.size,0,none⟩)) true ty).run Tryz.prog wr=.ok (.tuple #[.bool true,.int .i64 j,.int .i32 112]) (wr.iterAt w2.heap.size ⟨(fieldsOf v.k).toArray⟩ (j+1)):=fun ty=>next_letter wr w2.heap.size (fieldsOf v.k) j 112 ty hB.hi hc (by decide)
    go_wp2_with fail
    refine (parts_any (w.heap.size+1) (w.heap.size+1) ⟨opTo v c ((fieldsOf v.k).take j),0⟩ 5 v c w.heap.size _ gw rfl hlen g1 goi hg.bn hg.parts).mono ?_
    rintro e w3 hT
    have hN:=PutAt.put hbi g1 gi (by omega) hc (by decide) (by simp[letV]) hT
    obtain⟨rfl,-⟩:=hT
    go_wp2_with fail
    go_roundw
    case rel=>exact⟨j+1,hN⟩
    case measure=>rw[hm];simp[World.iterPos,hN.hi];omega
   ·have hn:∀ty,(Instr.next (.pointer (some ⟨w2.heap.size,0,none⟩)) true ty).run Tryz.prog wr=.ok (.tuple #[.bool true,.int .i64 j,.int .i32 99]) (wr.iterAt w2.heap.size ⟨(fieldsOf v.k).toArray⟩ (j+1)):=fun ty=>next_letter wr w2.heap.size (fieldsOf v.k) j 99 ty hB.hi hc (by decide)
    go_wp2_with fail
    refine (wput_any (w.heap.size+1) (w.heap.size+1) ⟨opTo v c ((fieldsOf v.k).take j),0⟩ 6 c.cursor v.co v.cn v.cc _ gw hlen (by have:=hf.cur;have:=goi.c.1;rw[byV_len] at this;omega) goi.c (fun h0 a ha y hy=>low_dis ho.c ha h0 hy)).mono ?_
    rintro e w3 hT
    have hN:=PutAt.put hbi g1 gi (by omega) hc (by decide) (by simp[letV]) hT
    obtain⟨rfl,-⟩:=hT
    go_wp2_with fail
    go_roundw
    case rel=>exact⟨j+1,hN⟩
    case measure=>rw[hm];simp[World.iterPos,hN.hi];omega
   have hn:∀ty,(Instr.next (.pointer (some ⟨w2.heap.size,0,none⟩)) true ty).run Tryz.prog wr=.ok (.tuple #[.bool true,.int .i64 j,.int .i32 107]) (wr.iterAt w2.heap.size ⟨(fieldsOf v.k).toArray⟩ (j+1)):=fun ty=>next_letter wr w2.heap.size (fieldsOf v.k) j 107 ty hB.hi hc (by decide)
   go_wp2_with fail
   refine (wnum_any (w.heap.size+1) (w.heap.size+1) ⟨opTo v c ((fieldsOf v.k).take j),0⟩ 7 nn _ gw hlen).mono ?_
   rintro e w3 hT
   have hN:=PutAt.put hbi g1 gi (by omega) hc (by decide) (by simp[letV,Hnn.out]) hT
   obtain⟨rfl,-⟩:=hT
   go_wp2_with fail
   go_roundw
   case rel=>exact⟨j+1,hN⟩
   case measure=>rw[hm];simp[World.iterPos,hN.hi];omega
  have hn:=fun ty=>run_next_end_at (P:=Tryz.prog) wr w2.heap.size ⟨(fieldsOf v.k).toArray⟩ j ty hB.hi hj
  have hw:=hB.wr_
  rw[List.take_of_length_le (by omega)] at hw hlen
  obtain⟨y,hy⟩:=hw
  go_wp2_with fail
  refine (wend_ok _ _ _ _ _ hy hlen).mono ?_
  rintro e w3 ⟨z,rfl,hz3,hb3'⟩
  obtain⟨ao,cap,rfl,hr3⟩:=Rd.of_own hz3
  go_wp2_with fail
  go_ret
  refine⟨ao,cap,rfl,hr3,hB.bel.trans (hb3'.mono hB.bel.size),fun a ha=>?_⟩
  rcases hz3.2 with ⟨h,_⟩ | ⟨g,cc,cur,h,hg,_⟩
  ·have:=(Value.slice.inj h).1;rw[ha] at this;cases this
  have:=(Value.slice.inj h).1;rw[ha] at this;cases this;exact Nat.le_trans hB.bel.size hg
def mayOp (v:OV)(c:OC):Bool:=mayOpA v c (mayAttrs c.attrs)
def opBy (v:OV)(c:OC):List UInt8:=if mayOp v c then opL v c else []
theorem mayName_le {x:ByteArray}(h:mayName x=true):x.size≤1000:=by
 unfold mayName at h
 simp only[Bool.and_eq_true,decide_eq_true_eq] at h
 exact h.1
theorem mayAttr_le {u:ByteArray×ByteArray}(h:mayAttr u=true):u.1.size≤1000∧u.2.size≤1000:=by
 unfold mayAttr mayType at h
 simp only[Bool.and_eq_true,decide_eq_true_eq] at h
 exact⟨by have:=h.1.1.1.2;omega,mayName_le h.2⟩
theorem may_parts {v:OV}{c:OC}(W:World)(ho:OpAt W v c)(h:mayOp v c=true):Fits v c∧FitsA v c∧∀x,(letV v c x).length≤200000:=by
 have la:c.attrs.length=v.an:=by have:=ho.a.1;rw[atV_len] at this;omega
 have lb:c.parts.length=v.bn:=by have:=ho.b.1;rw[txV_len] at this;omega
 have lc:c.cursor.length=v.cn:=by have:=ho.c.1;rw[byV_len] at this;omega
 unfold mayOp mayOpA at h
 simp only[Bool.and_eq_true,decide_eq_true_eq,Bool.not_eq_true'] at h
 obtain⟨⟨⟨⟨⟨⟨h1,h2⟩,h3⟩,h4⟩,h5⟩,h6⟩,h7⟩:=h
 have hname:=mayName_le h3
 have hto:=mayName_le h4
 have hattr:∀u∈c.attrs,u.1.size≤1000∧u.2.size≤1000:=fun u hu=>by
  refine mayAttr_le ?_
  have:=List.any_eq_false.1 h6 u hu
  simpa using this
 have hk:v.k=1∨v.k=2∨v.k=3∨v.k=4∨v.k=5∨v.k=6∨v.k=7∨v.k=8:=by
  rcases Classical.em (v.k=1∨v.k=2∨v.k=3∨v.k=4∨v.k=5∨v.k=6∨v.k=7∨v.k=8) with h | h
  ·exact h
  refine absurd ?_ h1
  simp only[not_or] at h
  obtain⟨a1,a2,a3,a4,a5,a6,a7,a8⟩:=h
  simp only[fieldsOf,a1,a2,a3,a4,a5,a6,a7,a8,if_false]
 unfold sameOp at h2
 simp only[decide_eq_true_eq] at h2
 obtain⟨-,-,-,e4,e5,e6,e7⟩:=h2
 have hrest:v.bn≤8∧(∀u∈c.parts,u.size≤1000)∧c.cursor.length≤4000∧0≤v.n∧v.n≤1000:=by
  by_cases h78:v.k=7∨v.k=8
  ·have k1:¬v.k=1:=by omega
   have k5:¬v.k=5:=by omega
   unfold restOp at h7
   rw[if_neg k1,if_neg k5] at h7
   simp only[Bool.and_eq_true,decide_eq_true_eq,Bool.not_eq_true'] at h7
   obtain⟨⟨⟨⟨r1,r2⟩,r3⟩,r4⟩,r5⟩:=h7
   refine⟨r1,fun u hu=>mayName_le ?_,by omega,r4,r5⟩
   have:=List.any_eq_false.1 r2 u hu
   simpa using this
  have hl:(112:UInt8)∉fieldsOf v.k∧(99:UInt8)∉fieldsOf v.k∧(107:UInt8)∉fieldsOf v.k:=by
   rcases hk with h | h | h | h | h | h | h | h<;>rw[h]<;>first | omega | decide
  have f1:c.parts=[]:=by rw[e5];unfold keepC;rw[if_neg hl.1]
  have f2:c.cursor=[]:=by rw[e6];unfold keepC;rw[if_neg hl.2.1]
  have f3:v.n=0:=by rw[e7];unfold keepL;rw[if_neg hl.2.2]
  rw[f1] at lb
  rw[f1,f2,f3]
  exact⟨by simp at lb;omega,fun u hu=>by simp at hu,by simp,by omega,by omega⟩
 obtain⟨r1,r2,r3,r4,r5⟩:=hrest
 have hL:∀x,(letV v c x).length≤200000:=?_
 ·exact⟨⟨by omega,by omega,hname,hto,r3,r4,r5,fun x=>Nat.le_trans (hL x) (by decide)⟩,⟨h5,hattr,r1,r2⟩,hL⟩
 intro x
 have ha:(attB c.attrs).length≤50*2015:=by
  have:=atE_all c.attrs c.attrs.length (Nat.le_refl _)
  rw[List.take_length] at this
  rw[←this]
  have h9:=allIt_le (atE c.attrs) 2015 c.attrs.length (fun i hi=>by
   have:=hattr c.attrs[i] (List.getElem_mem hi)
   simp only[atE,List.getElem?_eq_getElem hi,Option.getD_some,val_len,List.length_append,sz_len]
   omega)
  exact Nat.le_trans h9 (Nat.mul_le_mul_right 2015 (show c.attrs.length≤50 by omega))
 have hp:(parB c.parts).length≤8*1005:=by
  have:=paE_all c.parts c.parts.length (Nat.le_refl _)
  rw[List.take_length] at this
  rw[←this]
  have h9:=allIt_le (paE c.parts) 1005 c.parts.length (fun i hi=>by
   have:=r2 c.parts[i] (List.getElem_mem hi)
   simp only[paE,List.getElem?_eq_getElem hi,Option.getD_some,val_len,sz_len]
   omega)
  exact Nat.le_trans h9 (Nat.mul_le_mul_right 1005 (show c.parts.length≤8 by omega))
 unfold letV
 repeat' split
 all_goals simp only[val_len,sz_len,num8_len]
 all_goals omega
theorem opC_all (W:World)(v:OV)(c:OC)(ho:OpAt W v c):OpC v c (mayOp v c) (opBy v c):=by
 refine⟨fun W' ho'=>mayOp_any v c _ W' ho' (fun _ W2 h2=>mayAttrs_any _ _ _ _ _ h2.a h2.la),fun hm W' ho'=>?_,?_⟩
 ·obtain⟨f1,f2,-⟩:=may_parts W ho hm
  unfold opBy
  rw[if_pos hm]
  exact opBytes_all v c W' ho' f1 f2
 unfold opBy
 split
 ·rename_i hm
  obtain⟨-,-,f3⟩:=may_parts W ho hm
  have h1:=flat_le (letV v c) 200000 f3 (fieldsOf v.k)
  have h2:=Nat.mul_le_mul_right 200000 (fields_len v.k)
  unfold opL opTo
  rw[List.length_append,val_len,num8_len]
  omega
 simp
end Go.Proofs.YtfmmandlmbcncaaGreatDoor.Msg
namespace Go.Proofs.YtfmmandlmbcncaaGreatDoor.Msg
open Go.RowKit Go.Lib Go.Proofs.YtfmmandlmbcncaaGreatDoor.Mem
set_option maxRecDepth 100000 in
theorem eqfReq_nil (f:Value)(w:World):Calls Tryz.prog 140 #[.slice none 0 0,.slice none 0 0,f] w (GivesB true w):=by
 go_enter Tryz.func140,Tryz.ntmps140
 go_wp2_with fail
 go_loopw [17] (fun p wr=>p=.int .i64 0∧wr=w) (fun _ _=>0)
 case atStart=>exact⟨rfl,rfl⟩
 case round=>
  obtain⟨rfl,rfl⟩:=hrel
  go_wp2_with fail
  go_ret
  exact⟨rfl,Below.refl _ _⟩
set_option maxRecDepth 100000 in
theorem eqfEnt_nil (f:Value)(w:World):Calls Tryz.prog 172 #[.slice none 0 0,.slice none 0 0,f] w (GivesB true w):=by
 go_enter Tryz.func172,Tryz.ntmps172
 go_wp2_with fail
 go_loopw [17] (fun p wr=>p=.int .i64 0∧wr=w) (fun _ _=>0)
 case atStart=>exact⟨rfl,rfl⟩
 case round=>
  obtain⟨rfl,rfl⟩:=hrel
  go_wp2_with fail
  go_ret
  exact⟨rfl,Below.refl _ _⟩
set_option maxRecDepth 100000 in
theorem equalU_nil (w:World):Calls Tryz.prog 141 #[.slice none 0 0,.slice none 0 0] w (GivesB true w):=by
 go_enter Tryz.func141,Tryz.ntmps141
 go_wp2_with fail
 go_loopw [13] (fun p wr=>p=.int .i64 0∧wr=w) (fun _ _=>0)
 case atStart=>exact⟨rfl,rfl⟩
 case round=>
  obtain⟨rfl,rfl⟩:=hrel
  go_wp2_with fail
  go_ret
  exact⟨rfl,Below.refl _ _⟩
theorem equalB_nil (w:World):Calls Tryz.prog 121 #[.slice none 0 0,.slice none 0 0] w (GivesB true w):=
 (equal_byt none none 0 0 0 0 [] [] w (Rd.nil _ _) (Rd.nil _ _) (by decide)).mono fun _ _ h=>h
set_option maxRecDepth 100000 in
theorem sameReq_self (r:RV)(c:OC)(w:World)(h:OpAt w r.op c):Calls Tryz.prog 138 #[r.val,r.val] w (GivesB true w):=by
 have hb0:Below w.heap.size w ((w.alloc r.box).alloc r.box):=below_two w _ _
 obtain⟨hx,hx'⟩:=two_boxes w r.box r.box
 have ho:=h.later hb0
 have hcall:=sameOp_any r.op r.op c c ((w.alloc r.box).alloc r.box) ho ho
 rw[show sameOp r.op c r.op c=true from same_yes ⟨rfl,rfl,rfl,rfl,rfl,rfl,rfl⟩] at hcall
 have hz:((w.alloc r.box).alloc r.box).heap.size=w.heap.size+1+1:=by simp
 clear ho
 unfold RV.box at hx hx' hb0 hcall
 unfold RV.cells at hx hx' hb0 hcall
 unfold OV.val at hcall
 unfold RV.val RV.cells
 have g1:(r.cl==r.cl)=true:=by simp
 have g2:(r.nu==r.nu)=true:=by simp
 go_enter Tryz.func138,Tryz.ntmps138
 go_wp2_with fail
 refine hcall.mono ?_
 rintro e w1 ⟨rfl,hb1⟩
 go_wp2_with fail
 go_ret
 exact⟨rfl,hb0.trans (hb1.mono hb0.size)⟩
set_option maxRecDepth 100000 in
theorem sameRes_self (code:Int)(yes:Bool)(w:World):Calls Tryz.prog 139 #[.agg #[.int .i64 code,.bool yes,.slice none 0 0,.slice none 0 0],.agg #[.int .i64 code,.bool yes,.slice none 0 0,.slice none 0 0]] w (GivesB true w):=by
 have g1:(code==code)=true:=by simp
 have g2:(yes==yes)=true:=by simp
 obtain⟨hx,hx'⟩:=two_boxes w (.cells #[.int .i64 code,.bool yes,.slice none 0 0,.slice none 0 0] 39) (.cells #[.int .i64 code,.bool yes,.slice none 0 0,.slice none 0 0] 39)
 have hb0:=below_two w (.cells #[.int .i64 code,.bool yes,.slice none 0 0,.slice none 0 0] 39) (.cells #[.int .i64 code,.bool yes,.slice none 0 0,.slice none 0 0] 39)
 go_enter Tryz.func139,Tryz.ntmps139
 go_wp2_with fail
 refine (eqfEnt_nil _ _).mono ?_
 rintro e w1 ⟨rfl,hb1⟩
 have k1:=(hb1.block _ (by simp only[World.size_alloc];omega)).trans hx
 have k2:=(hb1.block _ (by simp only[World.size_alloc];omega)).trans hx'
 have hb2:=hb0.trans (hb1.mono hb0.size)
 have c1:w1.cell? ⟨w.heap.size,3,none⟩=some (.slice none 0 0):=by simp[World.cell?,k1]
 have c2:w1.cell? ⟨w.heap.size+1,3,none⟩=some (.slice none 0 0):=by simp[World.cell?,k2]
 go_wp2_with fail
 refine (equalB_nil _).mono ?_
 rintro e w2 ⟨rfl,hb3⟩
 go_wp2_with fail
 go_ret
 exact⟨rfl,hb2.trans (hb3.mono hb2.size)⟩
structure FM where
 k:Int
 vi:Int
 no:Int
 fr:Int
 cl:Int
 nu:Int
 rq:RV
 co:Int
 ye:Bool
 at_:Int
 cm:Int
 ba:Int
 on:Int
 wh:Bool
def FM.cells (m:FM):Array Value:=#[.int .i64 m.k,.int .u64 m.vi,.int .u64 m.no,.int .i64 m.fr,.int .u64 m.cl,.int .u64 m.nu,
 .int .u64 m.rq.cl,.int .u64 m.rq.nu,.int .i64 m.rq.op.k,.string m.rq.op.name,.string m.rq.op.to,.slice m.rq.op.ao m.rq.op.an m.rq.op.ac,.slice m.rq.op.bo m.rq.op.bn m.rq.op.bc,.slice m.rq.op.co m.rq.op.cn m.rq.op.cc,.int .i64 m.rq.op.n,
 .int .i64 m.co,.bool m.ye,.slice none 0 0,.slice none 0 0,.int .u64 m.at_,.int .u64 m.cm,.int .u64 m.ba,.slice none 0 0,.slice none 0 0,.int .u64 m.on,.bool m.wh,.slice none 0 0]
def FM.val (m:FM):Value:=.agg m.cells
def FM.box (m:FM):Obj:=.cells m.cells 59
theorem mbox_cells {W:World}{B:Nat}{m:FM}(h:W.heap[B]?=some m.box)(i:Nat)(v:Value)(hv:m.cells[i]?=some v):W.cell? ⟨B,i,none⟩=some v:=by
 unfold FM.box at h
 simp[World.cell?,h,hv]
set_option maxRecDepth 100000 in
theorem same_self (m:FM)(c:OC)(w:World)(h:OpAt w m.rq.op c):Calls Tryz.prog 102 #[m.val,m.val] w (GivesB true w):=by
 have hb0:Below w.heap.size w ((w.alloc m.box).alloc m.box):=below_two w _ _
 obtain⟨hx,hx'⟩:=two_boxes w m.box m.box
 have hz:((w.alloc m.box).alloc m.box).heap.size=w.heap.size+1+1:=by simp
 have hcall:=sameReq_self m.rq c ((w.alloc m.box).alloc m.box) (h.later hb0)
 have g1:(m.k==m.k)=true:=by simp
 have g2:(m.vi==m.vi)=true:=by simp
 have g3:(m.no==m.no)=true:=by simp
 have g4:(m.fr==m.fr)=true:=by simp
 have g5:(m.cl==m.cl)=true:=by simp
 have g6:(m.nu==m.nu)=true:=by simp
 have g7:(m.at_==m.at_)=true:=by simp
 have g8:(m.cm==m.cm)=true:=by simp
 have g9:(m.ba==m.ba)=true:=by simp
 have g10:(m.on==m.on)=true:=by simp
 have g11:(m.wh==m.wh)=true:=by simp
 unfold FM.box at hb0 hcall hz
 unfold RV.val at hcall
 unfold RV.cells at hcall
 unfold FM.cells at hb0 hcall hz
 unfold FM.val FM.cells
 go_enter Tryz.func102,Tryz.ntmps102
 go_wp2_with fail
 refine hcall.mono ?_
 rintro e w1 ⟨rfl,hb1x⟩
 have hz1:w.heap.size+1+1≤w1.heap.size:=by have:=hb1x.size;rw[hz] at this;exact this
 have k1_1:w1.heap[w.heap.size]?=some m.box:=(hb1x.block _ (by rw[hz];omega)).trans hx
 have k2_1:w1.heap[w.heap.size+1]?=some m.box:=(hb1x.block _ (by rw[hz];omega)).trans hx'
 have hb1:=hb0.trans (hb1x.mono hb0.size)
 clear hx hx' hcall hz
 have a15:w1.cell? ⟨w.heap.size,15,none⟩=some (.int .i64 m.co):=mbox_cells k1_1 15 _ rfl
 have b15:w1.cell? ⟨w.heap.size+1,15,none⟩=some (.int .i64 m.co):=mbox_cells k2_1 15 _ rfl
 have a16:w1.cell? ⟨w.heap.size,16,none⟩=some (.bool m.ye):=mbox_cells k1_1 16 _ rfl
 have b16:w1.cell? ⟨w.heap.size+1,16,none⟩=some (.bool m.ye):=mbox_cells k2_1 16 _ rfl
 have a17:w1.cell? ⟨w.heap.size,17,none⟩=some (.slice none 0 0):=mbox_cells k1_1 17 _ rfl
 have b17:w1.cell? ⟨w.heap.size+1,17,none⟩=some (.slice none 0 0):=mbox_cells k2_1 17 _ rfl
 have a18:w1.cell? ⟨w.heap.size,18,none⟩=some (.slice none 0 0):=mbox_cells k1_1 18 _ rfl
 have b18:w1.cell? ⟨w.heap.size+1,18,none⟩=some (.slice none 0 0):=mbox_cells k2_1 18 _ rfl
 go_wp2_with fail
 clear a15 b15 a16 b16 a17 b17 a18 b18
 refine (sameRes_self m.co m.ye _).mono ?_
 rintro e w2 ⟨rfl,hb2x⟩
 have hz2:w.heap.size+1+1≤w2.heap.size:=Nat.le_trans hz1 hb2x.size
 have k1_2:=(hb2x.block w.heap.size (by omega)).trans k1_1
 have k2_2:=(hb2x.block (w.heap.size+1) (by omega)).trans k2_1
 have hb2:=hb1.trans (hb2x.mono hb1.size)
 have a19:w2.cell? ⟨w.heap.size,19,none⟩=some (.int .u64 m.at_):=mbox_cells k1_2 19 _ rfl
 have b19:w2.cell? ⟨w.heap.size+1,19,none⟩=some (.int .u64 m.at_):=mbox_cells k2_2 19 _ rfl
 have a20:w2.cell? ⟨w.heap.size,20,none⟩=some (.int .u64 m.cm):=mbox_cells k1_2 20 _ rfl
 have b20:w2.cell? ⟨w.heap.size+1,20,none⟩=some (.int .u64 m.cm):=mbox_cells k2_2 20 _ rfl
 have a21:w2.cell? ⟨w.heap.size,21,none⟩=some (.int .u64 m.ba):=mbox_cells k1_2 21 _ rfl
 have b21:w2.cell? ⟨w.heap.size+1,21,none⟩=some (.int .u64 m.ba):=mbox_cells k2_2 21 _ rfl
 have a22:w2.cell? ⟨w.heap.size,22,none⟩=some (.slice none 0 0):=mbox_cells k1_2 22 _ rfl
 have b22:w2.cell? ⟨w.heap.size+1,22,none⟩=some (.slice none 0 0):=mbox_cells k2_2 22 _ rfl
 go_wp2_with fail
 clear a19 b19 a20 b20 a21 b21 a22 b22
 refine (equalB_nil _).mono ?_
 rintro e w3 ⟨rfl,hb3x⟩
 have hz3:w.heap.size+1+1≤w3.heap.size:=Nat.le_trans hz2 hb3x.size
 have k1_3:=(hb3x.block w.heap.size (by omega)).trans k1_2
 have k2_3:=(hb3x.block (w.heap.size+1) (by omega)).trans k2_2
 have hb3:=hb2.trans (hb3x.mono hb2.size)
 have a23:w3.cell? ⟨w.heap.size,23,none⟩=some (.slice none 0 0):=mbox_cells k1_3 23 _ rfl
 have b23:w3.cell? ⟨w.heap.size+1,23,none⟩=some (.slice none 0 0):=mbox_cells k2_3 23 _ rfl
 go_wp2_with fail
 clear a23 b23
 refine (eqfReq_nil _ _).mono ?_
 rintro e w4 ⟨rfl,hb4x⟩
 have hz4:w.heap.size+1+1≤w4.heap.size:=Nat.le_trans hz3 hb4x.size
 have k1_4:=(hb4x.block w.heap.size (by omega)).trans k1_3
 have k2_4:=(hb4x.block (w.heap.size+1) (by omega)).trans k2_3
 have hb4:=hb3.trans (hb4x.mono hb3.size)
 have a24:w4.cell? ⟨w.heap.size,24,none⟩=some (.int .u64 m.on):=mbox_cells k1_4 24 _ rfl
 have b24:w4.cell? ⟨w.heap.size+1,24,none⟩=some (.int .u64 m.on):=mbox_cells k2_4 24 _ rfl
 have a25:w4.cell? ⟨w.heap.size,25,none⟩=some (.bool m.wh):=mbox_cells k1_4 25 _ rfl
 have b25:w4.cell? ⟨w.heap.size+1,25,none⟩=some (.bool m.wh):=mbox_cells k2_4 25 _ rfl
 have a26:w4.cell? ⟨w.heap.size,26,none⟩=some (.slice none 0 0):=mbox_cells k1_4 26 _ rfl
 have b26:w4.cell? ⟨w.heap.size+1,26,none⟩=some (.slice none 0 0):=mbox_cells k2_4 26 _ rfl
 go_wp2_with fail
 clear a24 b24 a25 b25 a26 b26
 refine (equalU_nil _).mono ?_
 rintro e w5 ⟨rfl,hb5x⟩
 have hz5:w.heap.size+1+1≤w5.heap.size:=Nat.le_trans hz4 hb5x.size
 have k1_5:=(hb5x.block w.heap.size (by omega)).trans k1_4
 have k2_5:=(hb5x.block (w.heap.size+1) (by omega)).trans k2_4
 have hb5:=hb4.trans (hb5x.mono hb4.size)
 go_wp2_with fail
 go_ret
 exact⟨rfl,hb5⟩
end Go.Proofs.YtfmmandlmbcncaaGreatDoor.Msg
namespace Go.Proofs.YtfmmandlmbcncaaGreatDoor.Msg
open Go.RowKit Go.Lib Go.Proofs.YtfmmandlmbcncaaGreatDoor.Mem Go.Proofs.YtfmmandlmbcncaaGreatDoor.Tlv
set_option maxRecDepth 100000 in
theorem indexReq_nil (f:Value)(w:World):Calls Tryz.prog 142 #[.slice none 0 0,f] w fun e w'=>e=.returned (.int .i64 (-1))∧Below w.heap.size w w':=by
 go_enter Tryz.func142,Tryz.ntmps142
 go_wp2_with fail
 go_loopw [8] (fun p wr=>p=.int .i64 0∧wr=w) (fun _ _=>0)
 case atStart=>exact⟨rfl,rfl⟩
 case round=>
  obtain⟨rfl,rfl⟩:=hrel
  go_wp2_with fail
  go_ret
  exact⟨rfl,Below.refl _ _⟩
set_option maxRecDepth 100000 in
theorem containsReq_nil (f:Value)(w:World):Calls Tryz.prog 103 #[.slice none 0 0,f] w (GivesB false w):=by
 go_enter Tryz.func103,Tryz.ntmps103
 go_wp2_with fail
 refine (indexReq_nil f w).mono ?_
 rintro e w1 ⟨rfl,hb1⟩
 go_wp2_with fail
 go_ret
 exact⟨rfl,hb1⟩
end Go.Proofs.YtfmmandlmbcncaaGreatDoor.Msg
