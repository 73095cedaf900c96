/-
  A part of the proof.
-/
import Derived.Test.YtfmmandlmbcncaaGreatDoorKabf
set_option maxHeartbeats 40000000
namespace Go.Proofs.YtfmmandlmbcncaaGreatDoor.Msg
open Go.RowKit Go.Lib Go.Proofs.YtfmmandlmbcncaaGreatDoor.Mem Go.Proofs.YtfmmandlmbcncaaGreatDoor.Tlv
def sameEnts:List EP→List EP→Bool
 | [],[]=>true
 | p::l,q::m=>sameEntry p.1 p.2 q.1 q.2&&sameEnts l m
 | _,_=>false
theorem sameEnts_len:∀ {l m:List EP},sameEnts l m=true→l.length=m.length
 | [],[],_=>rfl
 | p::l,q::m,h=>by
  unfold sameEnts at h
  simp only[Bool.and_eq_true] at h
  simp[sameEnts_len h.2]
 | [],_::_,h=>by cases h
 | _::_,[],h=>by cases h
theorem sameEnts_cut:∀(l m:List EP) (k:Nat),sameEnts (l.take k) (m.take k)=false→l.length=m.length→sameEnts l m=false
 | [],[],_,h,_=>by simp[sameEnts] at h
 | p::l,q::m,0,h,_=>by simp[sameEnts] at h
 | p::l,q::m,k+1,h,hl=>by
  rw[List.take_succ_cons,List.take_succ_cons] at h
  unfold sameEnts at h ⊢
  cases h1:sameEntry p.1 p.2 q.1 q.2 with
  | false=>rfl
  | true=>
   rw[h1,Bool.true_and] at h
   rw[Bool.true_and]
   exact sameEnts_cut l m k h (by simpa using hl)
 | [],_::_,_,_,hl=>by simp at hl
 | _::_,[],_,_,hl=>by simp at hl
theorem sameEnts_next:∀(l m:List EP) (k:Nat) (p q:EP),l[k]?=some p→m[k]?=some q→sameEnts (l.take (k+1)) (m.take (k+1))=(sameEnts (l.take k) (m.take k)&&sameEntry p.1 p.2 q.1 q.2)
 | [],_,k,p,q,h,_=>by simp at h
 | _::_,[],k,p,q,_,h=>by simp at h
 | a::l,b::m,0,p,q,h1,h2=>by
  obtain rfl:a=p:=by simpa using h1
  obtain rfl:b=q:=by simpa using h2
  simp[sameEnts]
 | a::l,b::m,k+1,p,q,h1,h2=>by
  have:=sameEnts_next l m k p q (by simpa using h1) (by simpa using h2)
  rw[List.take_succ_cons,List.take_succ_cons,List.take_succ_cons,List.take_succ_cons]
  unfold sameEnts
  rw[this,Bool.and_assoc]
set_option maxRecDepth 100000 in
theorem eqfEnt_any (ao bo:Option Addr)(n m cap cbp:Nat)(x y:List EP)(w:World)(hx:EnAt w ao n cap x)(hy:EnAt w bo m cbp y) :
  Calls Tryz.prog 172 #[.slice ao n cap,.slice bo m cbp,.func (.func 173) #[] #[]] w (GivesB (sameEnts x y) w):=by
 have lx:=hx.len
 have ly:=hy.len
 have hcap:n≤9223372036854775807:=by have:=hx.r.2.1;have:=hx.r.2.2.1;unfold maxLen at this;omega
 by_cases hnm:n=m
 case neg=>
  have f1:((n:Int)==(m:Int))=false:=by rw[beq_eq_false_iff_ne];omega
  have Hs:Hid (sameEnts x y=false):=hid (by
   cases h:sameEnts x y with
   | false=>rfl
   | true=>have:=sameEnts_len h;omega)
  clear lx ly
  go_enter Tryz.func172,Tryz.ntmps172
  go_wp2_with fail
  go_ret
  exact⟨by rw[Hs.out];rfl,Below.refl _ _⟩
 subst hnm
 have LX:=hid lx
 have LY:=hid ly
 clear lx ly
 go_enter Tryz.func172,Tryz.ntmps172
 go_wp2_with fail
 go_loopw [17] (fun p wr=>∃k:Nat,k≤n∧p=.int .i64 (k:Int)∧Hid (sameEnts (x.take k) (y.take k)=true)∧Below w.heap.size w wr) (fun p _=>n-(intOf p).toNat)
 case atStart=>exact⟨0,Nat.zero_le _,rfl,hid rfl,Below.refl _ _⟩
 case round=>
  obtain⟨k,hk,rfl,Ht,hbr⟩:=hrel
  by_cases hkn:k<n
  ·obtain⟨b1,o1,rfl,hl1,hc1⟩:=hx.r.some (by have:=hx.r.le;omega)
   obtain⟨b2,o2,rfl,hl2,hc2⟩:=hy.r.some (by have:=hy.r.le;omega)
   obtain⟨u,hu⟩:∃u,x[k]?=some u:=⟨_,List.getElem?_eq_getElem (by rw[LX.out];exact hkn)⟩
   obtain⟨v,hv⟩:∃v,y[k]?=some v:=⟨_,List.getElem?_eq_getElem (by rw[LY.out];exact hkn)⟩
   obtain⟨v1,v2⟩:=enV_at x k u hu
   obtain⟨v3,v4⟩:=enV_at y k v hv
   have c1:=(hbr.cell (p:=⟨b1,o1+k*2,none⟩) hl1).trans (hc1 (k*2) _ v1)
   have c2:wr.cell? ⟨b1,o1+k*2+1,none⟩=_:=(hbr.cell (p:=⟨b1,o1+(k*2+1),none⟩) hl1).trans (hc1 (k*2+1) _ v2)
   have hbA:Below wr.heap.size wr (wr.alloc u.1.box):=(Below.refl _ _).alloc (Nat.le_refl _) _
   have c3:=((hbr.trans (hbA.mono hbr.size)).cell (p:=⟨b2,o2+k*2,none⟩) hl2).trans (hc2 (k*2) _ v3)
   have c4:(wr.alloc u.1.box).cell? ⟨b2,o2+k*2+1,none⟩=_:=((hbr.trans (hbA.mono hbr.size)).cell (p:=⟨b2,o2+(k*2+1),none⟩) hl2).trans (hc2 (k*2+1) _ v4)
   have hb0:Below wr.heap.size wr ((wr.alloc u.1.box).alloc v.1.box):=below_two wr _ _
   obtain⟨k1,k2⟩:=two_boxes wr u.1.box v.1.box
   have hE1:=(hx.each u (List.mem_of_getElem? hu)).later hbr
   have hE2:=(hy.each v (List.mem_of_getElem? hv)).later hbr
   have hc:=sameEntry_any u.1 v.1 u.2 v.2 _ (hE1.later hb0) (hE2.later hb0)
   have hnx:=sameEnts_next x y k u v hu hv
   rw[Ht.out,Bool.true_and] at hnx
   have HN:=hid hnx
   unfold EV.val EV.box EV.cells at hc
   unfold EV.box EV.cells at c3 c4 hb0 k1 k2 hbA
   clear v1 v2 v3 v4 hnx
   have i0:(0:Int)≤(k:Int):=by omega
   have i1:(k:Int)<(n:Int):=by omega
   go_wp2_with fail
   refine hc.mono ?_
   rintro e w1 ⟨rfl,hb1⟩
   have hb2:=hbr.trans ((hb0.trans (hb1.mono hb0.size)).mono hbr.size)
   cases hm:sameEntry u.1 u.2 v.1 v.2 with
   | false=>
    have Hs:Hid (sameEnts x y=false):=hid (sameEnts_cut x y (k+1) (by rw[HN.out];exact hm) (by rw[LX.out,LY.out]))
    clear hm
    go_wp2_with fail
    go_ret
    exact⟨by rw[Hs.out];rfl,hb2⟩
   | true=>
    have Hs:Hid (sameEnts (x.take (k+1)) (y.take (k+1))=true):=hid (by rw[HN.out];exact hm)
    clear hm
    go_wp2_with fail
    go_roundw
    case rel=>exact⟨k+1,by omega,by go_num,Hs,hb2⟩
    case measure=>simp[intOf];omega
  have Hs:Hid (sameEnts x y=true):=hid (by have:=Ht.out;rw[List.take_of_length_le (by rw[LX.out];omega),List.take_of_length_le (by rw[LY.out];omega)] at this;exact this)
  have hkn2:k=n:=by omega
  subst hkn2
  go_wp2_with fail
  go_ret
  exact⟨by rw[Hs.out];rfl,hbr⟩
end Go.Proofs.YtfmmandlmbcncaaGreatDoor.Msg
