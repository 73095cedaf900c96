/-
  A part of the proof.
-/
import Derived.Laws.CopyOwn
import Derived.Deep.Cut
import Derived.BigQuiet
import Derived.Test.YtfmmandlmbcncaaGreatDoorKabb
import Derived.Test.YtfmmandlmbcncaaGreatDoorKaaz
import Derived.Test.YtfmmandlmbcncaaGreatDoorKaag
import Derived.Test.YtfmmandlmbcncaaGreatDoorKaah
import Derived.Test.YtfmmandlmbcncaaGreatDoorKaab
import Derived.Test.YtfmmandlmbcncaaGreatDoorKaav
import Derived.Test.YtfmmandlmbcncaaGreatDoorKaar
import Derived.Test.YtfmmandlmbcncaaGreatDoorKaaq
import Derived.Test.YtfmmandlmbcncaaGreatDoorKaam
import Derived.Test.YtfmmandlmbcncaaGreatDoorKaan
import Derived.Test.YtfmmandlmbcncaaGreatDoorKaao
import Derived.Test.YtfmmandlmbcncaaGreatDoorKaba
set_option maxHeartbeats 40000000
namespace Go.Proofs.YtfmmandlmbcncaaGreatDoor.Tlv
open Go.RowKit Go.Proofs.YtfmmandlmbcncaaGreatDoor.Mem
end Go.Proofs.YtfmmandlmbcncaaGreatDoor.Tlv
namespace Go.Proofs.YtfmmandlmbcncaaGreatDoor.Msg
open Go.RowKit Go.Lib Go.Proofs.YtfmmandlmbcncaaGreatDoor.Mem Go.Proofs.YtfmmandlmbcncaaGreatDoor.Tlv
theorem own_kept {W W':World}{B size n:Nat}{e:TypeId}{v:Value}{xs:List Value}(h:W.ownsRow B e size v n xs)(hk:∀k,v.ownBlock=some k→W'.heap[k]?=W.heap[k]?):W'.ownsRow B e size v n xs:=by
 obtain⟨h1,h2 | ⟨g,cap,cur,h3,h4,h5,h6⟩⟩:=h
 ·exact⟨h1,.inl h2⟩
 exact⟨h1,.inr ⟨g,cap,cur,h3,h4,(hk g (by rw[h3];rfl)).trans h5,h6⟩⟩
theorem own_blk {W:World}{B size n:Nat}{e:TypeId}{v:Value}{xs:List Value}(h:W.ownsRow B e size v n xs){k:Nat}(hk:v.ownBlock=some k):B≤k∧k<W.heap.size∧∃cur,W.heap[k]?=some (.cells cur e (0,0)):=by
 rcases h.2 with ⟨rfl,_⟩ | ⟨g,cap,cur,rfl,hg,hc,_⟩
 ·cases hk
 have:g=k:=by simpa [Value.ownBlock] using hk
 subst this
 exact⟨hg,(Array.getElem?_eq_some_iff.1 hc).1,cur,hc⟩
end Go.Proofs.YtfmmandlmbcncaaGreatDoor.Msg
namespace Go.Proofs.YtfmmandlmbcncaaGreatDoor.Msg
open Go.RowKit Go.Lib Go.Proofs.YtfmmandlmbcncaaGreatDoor.Mem Go.Proofs.YtfmmandlmbcncaaGreatDoor.Utf Go.Proofs.YtfmmandlmbcncaaGreatDoor.Tlv
theorem own_lt {W:World}{B size n:Nat}{e:TypeId}{v:Value}{xs:List Value}(h:W.ownsRow B e size v n xs):∀k,v.ownBlock=some k→k<W.heap.size:=by
 intro k hk
 rcases h.2 with ⟨rfl,-⟩ | ⟨g,cap,cur,rfl,-,hg,-⟩
 ·cases hk
 have:g=k:=by simpa [Value.ownBlock] using hk
 subst this
 exact (Array.getElem?_eq_some_iff.1 hg).1
theorem opBy_yes {v:OV}{c:OC}(h:mayOp v c=true):opBy v c=opL v c:=by unfold opBy;rw[if_pos h]
end Go.Proofs.YtfmmandlmbcncaaGreatDoor.Msg
namespace Go.Proofs.YtfmmandlmbcncaaGreatDoor.Msg
open Go.RowKit Go.Lib Go.Proofs.YtfmmandlmbcncaaGreatDoor.Mem Go.Proofs.YtfmmandlmbcncaaGreatDoor.Tlv
structure U64R (r:RV):Prop where
 c0:0≤r.cl
 c1:r.cl<18446744073709551616
 n0:0≤r.nu
 n1:r.nu<18446744073709551616
theorem opL_len {W:World}{v:OV}{c:OC}(ho:OpAt W v c)(hm:mayOp v c=true):(opL v c).length≤4000000:=by
 have:=(opC_all W v c ho).len
 rw[opBy_yes hm] at this
 exact this
section
variable {b y:List UInt8} {s1 s2 s3:RS} {n1 n2:Nat}
 (T1:Took (fun n:Nat=>val 1 (num8 n)) (fun n=>n<18446744073709551616) (fun n=>n<18446744073709551616) ⟨b,false⟩ n1 s1)
 (T2:Took (fun n:Nat=>val 2 (num8 n)) (fun n=>n<18446744073709551616) (fun n=>n<18446744073709551616) s1 n2 s2)
 (T3:Took (val 3) (fun z=>z.length≤4194304) (fun z=>z.length≤4194304) s2 y s3)
include T1 T2 T3
end
open Go.ChangeShapes Go.WideShapes Go.Deep
def sameReq (r:RV)(c:OC)(r':RV)(c':OC):Bool:=decide (r.cl=r'.cl)&&decide (r.nu=r'.nu)&&sameOp r.op c r'.op c'
set_option maxRecDepth 100000 in
theorem pSameReq_any (r r':RV)(c c':OC)(w:World)(h:OpAt w r.op c)(h':OpAt w r'.op c') :
  Calls Tryz.prog 138 #[r.val,r'.val] w (GivesB (sameReq r c r' c') w):=by
 have hb0:Below w.heap.size w ((w.alloc r.box).alloc r'.box):=below_two w _ _
 obtain⟨k1,k2⟩:=two_boxes w r.box r'.box
 have hsame:=sameOp_any r.op r'.op c c' _ (h.later hb0) (h'.later hb0)
 unfold RV.box RV.cells at hb0 k1 k2 hsame
 unfold OV.val at hsame
 unfold RV.val RV.cells
 by_cases e1:r.cl=r'.cl
 case neg=>
  have f1:(r.cl==r'.cl)=false:=by simp[e1]
  have Hs:Hid (sameReq r c r' c'=false):=Lib.hid (by unfold sameReq;rw[decide_eq_false e1];simp)
  clear e1 hsame
  go_enter Tryz.func138,Tryz.ntmps138
  go_wp2_with fail
  go_ret
  exact⟨by rw[Hs.out];rfl,hb0⟩
 have f1:(r.cl==r'.cl)=true:=by simp[e1]
 by_cases e2:r.nu=r'.nu
 case neg=>
  have f2:(r.nu==r'.nu)=false:=by simp[e2]
  have Hs:Hid (sameReq r c r' c'=false):=Lib.hid (by unfold sameReq;rw[decide_eq_false e2];simp)
  clear e1 e2 hsame
  go_enter Tryz.func138,Tryz.ntmps138
  go_wp2_with fail
  go_ret
  exact⟨by rw[Hs.out];rfl,hb0⟩
 have f2:(r.nu==r'.nu)=true:=by simp[e2]
 have Hs:Hid (sameReq r c r' c'=sameOp r.op c r'.op c'):=Lib.hid (by unfold sameReq;rw[decide_eq_true e1,decide_eq_true e2];simp)
 clear e1 e2
 go_enter Tryz.func138,Tryz.ntmps138
 go_wp2_with fail
 refine hsame.mono ?_
 rintro e w1 ⟨rfl,hb1⟩
 rw[←Hs.out]
 go_wp2_with fail
 go_ret
 exact⟨rfl,hb0.trans (hb1.mono hb0.size)⟩
section
variable {H:Type} {enc:TypeId×Value→H} {W:World}
end
end Go.Proofs.YtfmmandlmbcncaaGreatDoor.Msg
