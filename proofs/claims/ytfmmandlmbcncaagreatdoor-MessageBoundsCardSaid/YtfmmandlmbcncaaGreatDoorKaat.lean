/-
  A part of the proof.
-/
import Derived.ArgAppend
import Derived.Test.YtfmmandlmbcncaaGreatDoorKaab
set_option maxHeartbeats 40000000
namespace Go.Proofs.YtfmmandlmbcncaaGreatDoor.Mem
open Go Go.RowKit
theorem own_low {w:World}{C:Nat}{e:TypeId}{size:Nat}{v:Value}{n:Nat}{xs:List Value}(h:w.ownsRow C e size v n xs):∀k,v.ownBlock=some k→C≤k:=by
 intro k hk
 rcases h.2 with ⟨rfl,_⟩ | ⟨g,cap,cur,rfl,h4,_⟩
 ·cases hk
 have:g=k:=by simpa [Value.ownBlock] using hk
 omega
section
variable {P:Program} {w:World}
theorem run_app2 (base:Nat)(t ty e:TypeId)(z:Value)(size bytes:Nat)(T:SliceT P t e z size bytes)
  (v:Value) (n:Nat) (xs:List Value) (hown:w.ownsRow base e size v n xs) (ao:Option Addr) (m c:Nat) (news:List Value) (hr:Rd w size ao m c news) (h1:∀u∈news,u.oneCell'=true)
  (h63:n+m≤maxLen) (hbytes:(n+m)*bytes≤140737488355328) (hbase:base≤w.heap.size) :
  ∃ao' cap' w',(Builtin.append_ #[t,t] ty #[v,.slice ao m c]).run P w=.ok (.slice ao' (n+m) cap') w'∧w'.ownsRow base e size (.slice ao' (n+m) cap') (n+m) (xs++news)∧w.grownBy w' v.ownBlock∧Below base w w' ∧
   (∀k,(Value.slice ao' (n+m) cap').ownBlock=some k→v.ownBlock=some k∨w.heap.size≤k):=by
 obtain⟨ao',cap',w',hrun,r1,r2,r3,r4⟩:=run_app (P:=P) w base t ty e z size bytes T v n xs hown ao m c news hr h1 h63 hbytes hbase
 refine⟨ao',cap',w',hrun,r1,r2,r3,?_⟩
 have hown':=hown
 rcases hown'.2 with ⟨rfl,rfl⟩ | ⟨g,cap,cur,rfl,hb,hg,hn,hc,hs,ht⟩
 ·have hx:xs=[]:=List.eq_nil_of_length_eq_zero (by have:=hown.1;simpa using this)
  subst hx
  obtain⟨ao2,cap2,w2,hrun2,q1,-⟩:=run_app (P:=P) w w.heap.size t ty e z size bytes T (.slice none 0 0) 0 [] (World.ownsRow_nil _ _ _ _) ao m c news hr h1 h63 hbytes (Nat.le_refl _)
  rw[hrun] at hrun2
  injection hrun2 with e1 e2
  rw[←e1] at q1
  intro k hk
  exact .inr (own_low q1 k hk)
 by_cases hroom:n+m≤cap
 ·obtain⟨i,hi,hz,hs',hby⟩:=info_parts T.info
  have hsame:∃w2,(Builtin.append_ #[t,t] ty #[.slice (some ⟨g,0,none⟩) n cap,.slice ao m c]).run P w=.ok (.slice (some ⟨g,0,none⟩) (n+m) cap) w2:=by
   cases ao with
   | none=>
    have h0:c=0:=hr.2.2.2.1 rfl
    have hm:m=0:=by have:=hr.2.1;omega
    subst h0;subst hm
    exact⟨w,run_append_owned_none (P:=P) w base t ty e i size T.ht hi _ n xs hown⟩
   | some a=>
    refine⟨_,run_append_room_cells (P:=P) w t ty e i T.ht hi g 0 n cap a m c news (by rw[hs'];exact hr.1) hr.adds h1 hroom (fun j hj=>?_) (fun j hj=>by simp[World.frozen?,hg])⟩
    have h2:=hr.1
    have h3:(n+m)*size≤cap*size:=Nat.mul_le_mul_right size hroom
    rw[Nat.add_mul] at h3
    have hlt:0+n*i.size+j<cur.size:=by rw[hs'];omega
    simp[World.cell?,hg]
    omega
  obtain⟨w2,hrun2⟩:=hsame
  rw[hrun] at hrun2
  injection hrun2 with e1 e2
  rw[e1]
  intro k hk
  exact .inl hk
 obtain⟨g2,cap2,w2,hrun2,q1,-⟩:=run_grow (P:=P) w t ty e z size bytes T _ n cap xs (Rd.of_own_slice hown) ao m c news hr h1 (by omega) h63 hbytes
 rw[hrun] at hrun2
 injection hrun2 with e1 e2
 rw[←e1] at q1
 intro k hk
 exact .inr (own_low q1 k hk)
end
end Go.Proofs.YtfmmandlmbcncaaGreatDoor.Mem
