/-
  A part of the proof.
-/
import Derived.BigQuiet
import Derived.Laws.CopyOwn
import Derived.Deep.Cut
import Derived.Test.YtfmmandlmbcncaaGreatDoorKbaa
import Derived.Test.YtfmmandlmbcncaaGreatDoorKbag
import Derived.Test.YtfmmandlmbcncaaGreatDoorKbal
import Derived.Test.YtfmmandlmbcncaaGreatDoorKbad
import Derived.Test.YtfmmandlmbcncaaGreatDoorKbae
import Derived.Test.YtfmmandlmbcncaaGreatDoorKbab
import Derived.Test.YtfmmandlmbcncaaGreatDoorKbao
import Derived.Test.YtfmmandlmbcncaaGreatDoorKbam
set_option maxHeartbeats 40000000
namespace Go.Proofs.YtfmmandlmbcncaaGreatDoor.Msg
open Go.RowKit Go.Lib Go.Proofs.YtfmmandlmbcncaaGreatDoor.Mem Go.Proofs.YtfmmandlmbcncaaGreatDoor.Utf
theorem cell_after {W W':World}(hb:Below W.heap.size W W'){a:Addr}{x:Value}(h:W.cell? a=some x):W'.cell? a=some x:=(hb.cell (World.block_lt_of_cell? W _ h)).trans h
set_option maxRecDepth 100000 in
theorem rSameAttrs_any (ao bo:Option Addr)(n m cap cbp:Nat)(x y:List (ByteArray×ByteArray))(w:World)(hx:Rd w 2 ao n cap (atV x))(hy:Rd w 2 bo m cbp (atV y))(hn:n≤1000000000) :
  Calls Tryz.prog 56 #[.slice ao n cap,.slice bo m cbp] w (GivesB (decide (x=y)) w):=by
 have lx:x.length=n:=by have:=hx.1;rw[atV_len] at this;omega
 have ly:y.length=m:=by have:=hy.1;rw[atV_len] at this;omega
 by_cases hnm:n=m
 case neg=>
  have f1:((n:Int)==(m:Int))=false:=by simp;omega
  have HR:Hid (decide (x=y)=false):=hid (eq_len x y (by omega))
  clear lx ly hnm
  go_enter Tryz.func56,Tryz.ntmps56
  go_wp2_with fail
  go_ret
  exact⟨by rw[HR.out];rfl,Below.refl _ _⟩
 subst hnm
 have LX:=hid lx
 have LY:=hid ly
 clear lx ly
 go_enter Tryz.func56,Tryz.ntmps56
 go_wp2_with fail
 go_loopw [5] (fun p wr=>∃k:Nat,k≤n∧p=.int .i64 (k:Int)∧Hid (x.take k=y.take k)∧Below w.heap.size w wr) (fun p _=>n-(intOf p).toNat)
 case atStart=>exact⟨0,Nat.zero_le _,rfl,hid rfl,Below.refl _ _⟩
 case round=>
  obtain⟨k,hk,rfl,Ht,hbr⟩:=hrel
  by_cases hkn:k<n
  ·obtain⟨b1,o1,rfl,hl1,hc1⟩:=hx.some (by have:=hx.le;omega)
   obtain⟨b2,o2,rfl,hl2,hc2⟩:=hy.some (by have:=hy.le;omega)
   obtain⟨u,hu⟩:∃u,x[k]?=some u:=⟨_,List.getElem?_eq_getElem (by rw[LX.out];exact hkn)⟩
   obtain⟨v,hv⟩:∃v,y[k]?=some v:=⟨_,List.getElem?_eq_getElem (by rw[LY.out];exact hkn)⟩
   obtain⟨v1,v2⟩:=atV_at x k u hu
   obtain⟨v3,v4⟩:=atV_at y k v hv
   have c1:=(hbr.cell (p:=⟨b1,o1+k*2,none⟩) hl1).trans (hc1 (k*2) _ v1)
   have c2:wr.cell? ⟨b1,o1+k*2+1,none⟩=_:=(hbr.cell (p:=⟨b1,o1+(k*2+1),none⟩) hl1).trans (hc1 (k*2+1) _ v2)
   have c3:=(hbr.cell (p:=⟨b2,o2+k*2,none⟩) hl2).trans (hc2 (k*2) _ v3)
   have c4:wr.cell? ⟨b2,o2+k*2+1,none⟩=_:=(hbr.cell (p:=⟨b2,o2+(k*2+1),none⟩) hl2).trans (hc2 (k*2+1) _ v4)
   clear v1 v2 v3 v4
   have i0:(0:Int)≤(k:Int):=by omega
   have i1:(k:Int)<(n:Int):=by omega
   have hne:=neq_att u v
   by_cases huv:u=v
   ·have HT:Hid (x.take (k+1)=y.take (k+1)):=hid (eq_step x y k u v Ht.out hu hv huv)
    rw[show (!decide (u=v))=false from by simp[huv]] at hne
    clear huv
    go_upto_region 6 with fail
    go_quiet (fail)
    have hbn:=hbr.trans ((below_drewN (Below.refl wr.heap.size wr) nq).mono hbr.size)
    go_wp2_with fail
    go_roundw
    case rel=>exact⟨k+1,by omega,by go_num,HT,hbn⟩
    case measure=>simp[intOf];omega
   have HR:Hid (decide (x=y)=false):=hid (eq_no x y k u v hu hv huv)
   rw[show (!decide (u=v))=true from by simp[huv]] at hne
   clear huv
   go_upto_region 6 with fail
   go_quiet (fail)
   have hbn:=hbr.trans ((below_drewN (Below.refl wr.heap.size wr) nq).mono hbr.size)
   go_wp2_with fail
   go_ret
   exact⟨by rw[HR.out];rfl,hbn⟩
  have hkn2:k=n:=by omega
  have h1:=Ht.out
  rw[List.take_of_length_le (by rw[LX.out];omega),List.take_of_length_le (by rw[LY.out];omega)] at h1
  have HR:Hid (decide (x=y)=true):=hid (decide_eq_true h1)
  clear h1 hkn2
  go_wp2_with fail
  go_ret
  exact⟨by rw[HR.out];rfl,hbr⟩
theorem conv_str (w:World)(ao:Option Addr)(n cap:Nat)(l:List UInt8)(hr:Rd w 1 ao n cap (byV l)):(convert 34 9 (.slice ao n cap)).run Tryz.prog w=.ok (.string ⟨l.toArray⟩) w:=
 run_str (P:=Tryz.prog) w 34 9 5 Tryz.underlying34 Tryz.underlying5 Tryz.underlying9 ao _ cap _ hr
theorem str_no {l l':List UInt8}(h:l≠l'):((⟨l.toArray⟩:ByteArray).toList==(⟨l'.toArray⟩:ByteArray).toList)=false:=
 tol_no (fun e=>h (by have:=congrArg (fun b:ByteArray=>b.data.toList) e;simpa using this))
set_option maxRecDepth 100000 in
theorem rSameOp_any (v v':OV)(c c':OC)(w:World)(h:OpAt w v c)(h':OpAt w v' c') :
  Calls Tryz.prog 19 #[v.val,v'.val] w (GivesB (sameOp v c v' c') w):=by
 have hb0:Below w.heap.size w ((w.alloc v.box).alloc v'.box):=below_two w _ _
 obtain⟨hx,hx'⟩:=two_boxes w v.box v'.box
 have ho:=h.later hb0
 have ho':=h'.later hb0
 have hz:((w.alloc v.box).alloc v'.box).heap.size=w.heap.size+1+1:=by simp
 have lx:c.parts.length=v.bn:=by have:=h.b.1;rw[txV_len] at this;omega
 have ly:c'.parts.length=v'.bn:=by have:=h'.b.1;rw[txV_len] at this;omega
 have key:∀e1:v.k=v'.k,∀e2:v.name=v'.name,∀e3:v.to=v'.to,Hid (sameOp v c v' c'=decide (c.attrs=c'.attrs∧c.parts=c'.parts∧c.cursor=c'.cursor∧v.n=v'.n)):=fun e1 e2 e3=>hid (by simp[sameOp,e1,e2,e3])
 have LX:=hid lx
 have LY:=hid ly
 clear lx ly
 unfold OV.box at hb0 hx hx' ho ho' hz
 by_cases e1:v.k=v'.k
 ·have f1:(v.k != v'.k)=false:=by simp[e1]
  by_cases e2:v.name=v'.name
  ·have f2:(v.name.toList==v'.name.toList)=true:=by simp[e2]
   by_cases e3:v.to=v'.to
   ·have f3:(v.to.toList==v'.to.toList)=true:=by simp[e3]
    have Hk:=key e1 e2 e3
    unfold OV.val
    clear e1 e2 e3 key
    go_enter Tryz.func19,Tryz.ntmps19
    go_wp2_with fail
    refine (rSameAttrs_any _ _ _ _ _ _ c.attrs c'.attrs _ ho.a ho'.a ho.la).mono ?_
    rintro e w1 ⟨rfl,hb1⟩
    have hb2:=hb0.trans (hb1.mono hb0.size)
    have k1:=(hb1.block w.heap.size (by rw[hz];omega)).trans hx
    have k2:=(hb1.block (w.heap.size+1) (by rw[hz];omega)).trans hx'
    have q1:=ho.later hb1
    have q1':=ho'.later hb1
    have z1:=conv_str w1 _ _ _ _ q1.c
    have z2:=conv_str w1 _ _ _ _ q1'.c
    obtain⟨-,c1,c2,c3⟩:=box_cells (v:=v) k1
    obtain⟨-,c4,c5,c6⟩:=box_cells (v:=v') k2
    by_cases e4:c.attrs=c'.attrs
    case neg=>
     rw[decide_eq_false e4]
     have Hs:Hid (sameOp v c v' c'=false):=hid (by rw[Hk.out];simp[e4])
     go_wp2_with fail
     go_ret
     exact⟨by rw[Hs.out];rfl,hb2⟩
    rw[decide_eq_true e4]
    by_cases e5:v.bn=v'.bn
    case neg=>
     have g5:((v.bn:Int) != (v'.bn:Int))=true:=by simp;omega
     have Hs:Hid (sameOp v c v' c'=false):=hid (by rw[Hk.out];apply decide_eq_false;rintro⟨-,h,-⟩;rw[←LX.out,←LY.out,h] at e5;exact e5 rfl)
     clear e5
     go_wp2_with fail
     go_ret
     exact⟨by rw[Hs.out];rfl,hb2⟩
    have g5:((v.bn:Int) != (v'.bn:Int))=false:=by simp;omega
    by_cases e6:c.cursor=c'.cursor
    case neg=>
     have Hs:Hid (sameOp v c v' c'=false):=hid (by rw[Hk.out];simp[e6])
     clear e5
     go_wp2_with fail
     go_ret
     exact⟨by rw[Hs.out];rfl,hb2⟩
    by_cases e7:v.n=v'.n
    case neg=>
     have f7:(v.n != v'.n)=true:=by simp[e7]
     have Hs:Hid (sameOp v c v' c'=false):=hid (by rw[Hk.out];simp[e7])
     clear e7 e5
     go_wp2_with fail
     go_ret
     exact⟨by rw[Hs.out];rfl,hb2⟩
    have f7:(v.n != v'.n)=false:=by simp[e7]
    have HK:Hid (sameOp v c v' c'=decide (c.parts=c'.parts)):=hid (by rw[Hk.out];simp[e4,e6,e7])
    have H5:=hid e5
    clear e7 e5 e4 Hk
    go_wp2_with fail
    clear z1 z2 c1 c2 c3 c4 c5 c6 g5 f7 f1 f2 f3 e6
    go_loopw [5] (fun p wr=>∃k:Nat,k≤v.bn∧p=.int .i64 (k:Int)∧Hid (c.parts.take k=c'.parts.take k)∧Below w1.heap.size w1 wr) (fun p _=>v.bn-(intOf p).toNat)
    case atStart=>exact⟨0,Nat.zero_le _,rfl,hid rfl,Below.refl _ _⟩
    case round=>
     obtain⟨k,hk,rfl,Ht,hbr⟩:=hrel
     obtain⟨-,c1,-,-⟩:=box_cells (v:=v) ((hbr.block _ (Array.getElem?_eq_some_iff.1 k1).1).trans k1)
     obtain⟨-,c4,-,-⟩:=box_cells (v:=v') ((hbr.block _ (Array.getElem?_eq_some_iff.1 k2).1).trans k2)
     have hB:=hb2.trans (hbr.mono hb2.size)
     by_cases hkn:k<v.bn
     ·have hkm:k<v'.bn:=by have:=H5.out;omega
      have hkb:=ho.lb
      obtain⟨b1,o1,ea,hl1,hc1⟩:=(q1.b.later hbr).some (by have:=q1.b.le;omega)
      obtain⟨b2,o2,eb,hl2,hc2⟩:=(q1'.b.later hbr).some (by have:=q1'.b.le;omega)
      rw[ea] at c1
      rw[eb] at c4
      obtain⟨u,hu⟩:∃u,c.parts[k]?=some u:=⟨_,List.getElem?_eq_getElem (by rw[LX.out];exact hkn)⟩
      obtain⟨t,ht⟩:∃t,c'.parts[k]?=some t:=⟨_,List.getElem?_eq_getElem (by rw[LY.out];exact hkm)⟩
      have d1:=hc1 k _ (txV_at c.parts k u hu)
      have d2:=hc2 k _ (txV_at c'.parts k t ht)
      have d1':wr.cell? ⟨b1,o1+k*1,none⟩=some (.string u):=by rw[Nat.mul_one];exact d1
      have d2':wr.cell? ⟨b2,o2+k*1,none⟩=some (.string t):=by rw[Nat.mul_one];exact d2
      have i0:(0:Int)≤(k:Int):=by omega
      have i1:(k:Int)<(v.bn:Int):=by omega
      have i2:(k:Int)<(v'.bn:Int):=by omega
      clear hc1 hc2 hkm
      by_cases hut:u=t
      ·have f:=tol_yes t
       have HT:Hid (c.parts.take (k+1)=c'.parts.take (k+1)):=hid (eq_step c.parts c'.parts k u t Ht.out hu ht hut)
       rw[hut] at d1 d1'
       clear hut
       go_upto_region 6 with fail
       go_quiet (fail)
       have hbn:=hbr.trans ((below_drewN (Below.refl wr.heap.size wr) nq).mono hbr.size)
       go_wp2_with fail
       go_roundw
       case rel=>exact⟨k+1,by omega,by go_num,HT,hbn⟩
       case measure=>simp[intOf];omega
      have f:=tol_no hut
      have Hs:Hid (sameOp v c v' c'=false):=hid (by rw[HK.out];exact eq_no c.parts c'.parts k u t hu ht hut)
      clear hut
      go_upto_region 6 with fail
      go_quiet (fail)
      have hbn:=hbr.trans ((below_drewN (Below.refl wr.heap.size wr) nq).mono hbr.size)
      go_wp2_with fail
      go_ret
      exact⟨by rw[Hs.out];rfl,hb2.trans (hbn.mono hb2.size)⟩
     have hkn2:k=v.bn:=by omega
     have h1:=Ht.out
     rw[List.take_of_length_le (by rw[LX.out];omega),List.take_of_length_le (by rw[LY.out,←H5.out];omega)] at h1
     have Hs:Hid (sameOp v c v' c'=true):=hid (by rw[HK.out];exact decide_eq_true h1)
     clear h1 hkn2
     go_wp2_with fail
     go_ret
     exact⟨by rw[Hs.out];rfl,hB⟩
   have f3:=tol_no e3
   have Hs:=hid (same_no (v:=v) (v':=v') (c:=c) (c':=c') (fun h=>e3 h.2.2.1))
   unfold OV.val
   clear e1 e2 e3 key
   go_enter Tryz.func19,Tryz.ntmps19
   go_wp2_with fail
   go_ret
   exact⟨by rw[Hs.out];rfl,hb0⟩
  have f2:=tol_no e2
  have Hs:=hid (same_no (v:=v) (v':=v') (c:=c) (c':=c') (fun h=>e2 h.2.1))
  unfold OV.val
  clear e1 e2 key
  go_enter Tryz.func19,Tryz.ntmps19
  go_wp2_with fail
  go_ret
  exact⟨by rw[Hs.out];rfl,hb0⟩
 have f1:(v.k != v'.k)=true:=by simp[e1]
 have Hs:=hid (same_no (v:=v) (v':=v') (c:=c) (c':=c') (fun h=>e1 h.1))
 unfold OV.val
 clear e1 key
 go_enter Tryz.func19,Tryz.ntmps19
 go_wp2_with fail
 go_ret
 exact⟨by rw[Hs.out];rfl,hb0⟩
theorem fields_kinds (k:Int):fieldsOf k=[]∨(k=1∧fieldsOf k=[110,97])∨(k=2∧fieldsOf k=[110])∨(k=3∧fieldsOf k=[110,97])∨(k=4∧fieldsOf k=[110,116])∨(k=5∧fieldsOf k=[110,97])∨(k=6∧fieldsOf k=[110])∨(k=7∧fieldsOf k=[112,99,107])∨(k=8∧fieldsOf k=[99,107]):=by
 by_cases h:1≤k∧k≤8
 ·rcases (by omega:k=1∨k=2∨k=3∨k=4∨k=5∨k=6∨k=7∨k=8) with rfl|rfl|rfl|rfl|rfl|rfl|rfl|rfl<;>simp[fieldsOf]
 left
 unfold fieldsOf
 repeat rw[if_neg (by omega)]
end Go.Proofs.YtfmmandlmbcncaaGreatDoor.Msg
