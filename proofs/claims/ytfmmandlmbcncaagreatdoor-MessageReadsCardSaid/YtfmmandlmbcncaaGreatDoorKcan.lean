/-
  A part of the proof.
-/
import Derived.Deep.Slices
import Derived.Deep.Fields
import Derived.Deep.Strs
import Derived.ChangeSame
import Derived.ChangeArms
import Derived.Test.YtfmmandlmbcncaaGreatDoorKcak
import Derived.Test.YtfmmandlmbcncaaGreatDoorKcam
set_option maxHeartbeats 40000000
set_option maxRecDepth 100000
namespace Go.Proofs.YtfmmandlmbcncaaGreatDoor.Msg
open Go.RowKit Go.Lib Mem Tlv
open Go.ChangeShapes Go.WideShapes Go.Deep
abbrev RP:=RV×OC
section
variable {H:Type} {enc:TypeId×Value->H} {P:Program} {W:World}
theorem La {t e:TypeId}{k:IntKind}{fuel:Nat}{v:Value}{x:DataW H×List MemPlace}(ht:P.underlying t=some (.slice e))(he:P.underlying e=some (.int k))(hc:P.cellsOf e=1)
  (h:DataW.trod enc P W 0 (fun _=>true) true fuel t [v]=some x):∃ao n cap,∃zs:List Int,v=.slice ao n cap/\Rd W 1 ao n cap (zs.map (Value.int k))/\∀z∈zs,(Lit.int k z).wf=true:=by
 have hsl:∃ao n cap,v=.slice ao n cap:=by
  rcases ChangeShapes.open_ints ht he hc h with ⟨hcs,_⟩ | ⟨a,l,c,zs,hcs,_⟩
  ·exact⟨_,_,_,List.head_eq_of_cons_eq hcs⟩
  exact⟨_,_,_,List.head_eq_of_cons_eq hcs⟩
 obtain⟨ao,n,cap,rfl⟩:=hsl;obtain⟨zs,h1,h2⟩:=KY (d:=x.1) (ps:=x.2) ht he hc ⟨fuel,h⟩;exact⟨ao,n,cap,zs,rfl,h1,h2⟩
end
section
variable {H:Type} {enc:TypeId×Value->H} {W:World}
theorem wf_u8 {z:Int}(h:(Lit.int .u8 z).wf=true):0<=z/\z<256:=by
 simp only[Lit.wf,Bool.and_eq_true,decide_eq_true_eq] at h;exact⟨h.1,Int.lt_of_le_sub_one h.2⟩
theorem Ji (zs:List Int)(h:∀z∈zs,0<=z/\z<256):∃b:List UInt8,zs.map (Value.int .u8)=byV b:=by
 induction zs with
 | nil=>exact⟨[],rfl⟩
 | cons z zs ih=>
  obtain⟨b,hb⟩:=ih (fun y hy=>h y (List.mem_cons_of_mem _ hy));obtain⟨h1,h2⟩:=h z List.mem_cons_self;refine⟨UInt8.ofNat z.toNat::b,?_⟩;show Value.int .u8 z::zs.map (Value.int .u8)=.int .u8 ((UInt8.ofNat z.toNat).toNat:Int)::byV b;rw[hb,UInt8.toNat_ofNat',Nat.mod_eq_of_lt (by omega),Int.toNat_of_nonneg h1]
theorem FZ {ao:Option Addr}{n cap:Nat}{d:DataW H}{ps:List MemPlace}(h:DataW.Trod enc Tryz.prog W 0 (fun _=>true) true 34 (.slice ao n cap) d ps):∃b:List UInt8,Rd W 1 ao n cap (byV b):=by
 obtain⟨fuel,hf⟩:=h;obtain⟨ao',n',cap',zs,e,hr,hz⟩:=La (e:=5) (k:=.u8) Tryz.underlying34 Tryz.underlying5 (by kernel_rfl) hf;cases e;obtain⟨b,hb⟩:=Ji zs (fun z h=>wf_u8 (hz z h));exact⟨b,by rw[<-hb];exact hr⟩
end
end Go.Proofs.YtfmmandlmbcncaaGreatDoor.Msg
