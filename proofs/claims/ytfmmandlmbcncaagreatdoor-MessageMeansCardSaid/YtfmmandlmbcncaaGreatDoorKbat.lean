/-
  A part of the proof.
-/
import Derived.Test.YtfmmandlmbcncaaGreatDoorKbaj
set_option maxHeartbeats 40000000
namespace Go.Proofs.YtfmmandlmbcncaaGreatDoor.Tlv
open Go.RowKit Go.Proofs.YtfmmandlmbcncaaGreatDoor.Mem
structure RS where
 l:List UInt8
 bad:Bool
def Ty8 (W:World)(ao:Option Addr)(cap:Nat):Prop:=0<cap→∀a,ao=some a→∃c fr,W.heap[a.block]?=some (.cells c 5 fr)
theorem grown_set (W:World)(b i:Nat)(u:Value):W.grownBy (W.setCell ⟨b,i,none⟩ u) (some b):=
 ⟨rfl,rfl,rfl,by simp,fun k _ hk=>Below.heap_setCell W ⟨b,i,none⟩ u k (fun e=>hk (by rw[e]))⟩
theorem Ty8.ne {W:World}{ao:Option Addr}{cap g:Nat}{o:Obj}(h:Ty8 W ao cap)(hg:W.heap[g]?=some o)(ho:∀c fr,o≠.cells c 5 fr):0<cap→∀a,ao=some a→a.block≠g:=by
 rintro h0 a ha rfl
 obtain⟨c,fr,h1⟩:=h h0 a ha
 rw[h1] at hg
 exact ho c fr (Option.some.inj hg).symm
theorem Ty8.grown {W W':World}{ao:Option Addr}{cap:Nat}{row:Option Nat}(h:Ty8 W ao cap)(hg:W.grownBy W' row)(hd:0<cap→∀a,ao=some a→some a.block≠row):Ty8 W' ao cap:=fun h0 a ha=>by
 obtain⟨c,fr,h1⟩:=h h0 a ha
 exact⟨c,fr,(hg.block _ (Array.getElem?_eq_some_iff.1 h1).1 (hd h0 a ha)).trans h1⟩
theorem Ty8.later {W W':World}{ao:Option Addr}{cap:Nat}(h:Ty8 W ao cap)(hb:Below W.heap.size W W'):Ty8 W' ao cap:=fun h0 a ha=>by
 obtain⟨c,fr,h1⟩:=h h0 a ha
 exact⟨c,fr,(hb.block _ (Array.getElem?_eq_some_iff.1 h1).1).trans h1⟩
theorem Ty8.of_own {W:World}{B n:Nat}{ao:Option Addr}{cap:Nat}{xs:List Value}(h:W.ownsRow B 5 1 (.slice ao n cap) n xs):Ty8 W ao cap:=by
 intro h0 a ha
 subst ha
 rcases h.2 with ⟨h1,_⟩ | ⟨g,c,cur,h1,_,h3,_⟩
 ·cases h1
 have:=(Value.slice.inj h1).1
 cases this
 exact⟨_,_,h3⟩
structure RdAt (B g:Nat)(s:RS)(ao:Option Addr)(cap:Nat)(W:World):Prop where
 at_:W.heap[g]?=some (.cells #[.slice ao s.l.length cap,.bool s.bad,.bool true] 237)
 le:B≤g
 rd:Rd W 1 ao s.l.length cap (byV s.l)
 ty:Ty8 W ao cap
def RdS (B g:Nat)(s:RS)(W:World):Prop:=∃ao cap,RdAt B g s ao cap W
theorem RdAt.ne {B g:Nat}{s:RS}{ao:Option Addr}{cap:Nat}{W:World}(h:RdAt B g s ao cap W):0<cap→∀a,ao=some a→a.block≠g:=h.ty.ne h.at_ (fun _ _ h=>by cases h)
theorem RdAt.lt {B g:Nat}{s:RS}{ao:Option Addr}{cap:Nat}{W:World}(h:RdAt B g s ao cap W):g<W.heap.size:=(Array.getElem?_eq_some_iff.1 h.at_).1
theorem RdAt.later {B g:Nat}{s:RS}{ao:Option Addr}{cap:Nat}{W W':World}(h:RdAt B g s ao cap W)(hb:Below W.heap.size W W'):RdAt B g s ao cap W':=⟨(hb.block g h.lt).trans h.at_,h.le,h.rd.later hb,h.ty.later hb⟩
theorem RdS.later {B g:Nat}{s:RS}{W W':World}(h:RdS B g s W)(hb:Below W.heap.size W W'):RdS B g s W':=by
 obtain⟨ao,cap,h⟩:=h;exact⟨ao,cap,h.later hb⟩
theorem RdAt.grown {B g:Nat}{s:RS}{ao:Option Addr}{cap:Nat}{W W':World}{row:Option Nat}(h:RdAt B g s ao cap W)(hg:W.grownBy W' row)(h1:some g≠row)(h2:0<cap→∀a,ao=some a→some a.block≠row):RdAt B g s ao cap W':=
 ⟨(hg.block g h.lt h1).trans h.at_,h.le,rd_grown h.rd hg h2,h.ty.grown hg h2⟩
theorem RdS.grown {B g k:Nat}{s:RS}{W W':World}{o:Obj}(h:RdS B g s W)(hg:W.grownBy W' (some k))(hk:W.heap[k]?=some o)(ho:∀c fr,o≠.cells c 5 fr)(hgk:g≠k):RdS B g s W':=by
 obtain⟨ao,cap,h⟩:=h
 exact⟨ao,cap,h.grown hg (fun e=>hgk (Option.some.inj e)) (fun h0 a ha e=>h.ty.ne hk ho h0 a ha (Option.some.inj e))⟩
theorem set_at {W:World}{g i:Nat}{cs:Array Value}{t:TypeId}{fr:Nat×Nat}(h:W.heap[g]?=some (.cells cs t fr))(v:Value):(W.setCell ⟨g,i,none⟩ v).heap[g]?=some (.cells (cs.setIfInBounds i v) t fr):=by
 have hlt:=(Array.getElem?_eq_some_iff.1 h).1
 have h2:=(Array.getElem?_eq_some_iff.1 h).2
 simp only[World.setCell,Array.getElem?_eq_getElem,Array.size_modify,hlt,Array.getElem_modify_self,h2]
 rfl
theorem RdAt.fail {B g:Nat}{s:RS}{ao:Option Addr}{cap:Nat}{W:World}(h:RdAt B g s ao cap W):RdAt B g ⟨s.l,true⟩ ao cap (W.setCell ⟨g,1,none⟩ (.bool true)):=
 ⟨set_at h.at_ _,h.le,rd_grown h.rd (grown_set W g 1 _) (fun h0 a ha e=>h.ne h0 a ha (Option.some.inj e)),h.ty.grown (grown_set W g 1 _) (fun h0 a ha e=>h.ne h0 a ha (Option.some.inj e))⟩
theorem RdAt.move {B g:Nat}{s:RS}{ao:Option Addr}{cap:Nat}{W:World}(h:RdAt B g s ao cap W){l':List UInt8}{ao':Option Addr}{cap':Nat}(hr:Rd W 1 ao' l'.length cap' (byV l'))(ht:Ty8 W ao' cap') :
  RdAt B g ⟨l',s.bad⟩ ao' cap' (W.setCell ⟨g,0,none⟩ (.slice ao' l'.length cap')):=
 ⟨set_at h.at_ _,h.le,rd_grown hr (grown_set W g 0 _) (fun h0 a ha e=>ht.ne h.at_ (fun _ _ h=>by cases h) h0 a ha (Option.some.inj e)),ht.grown (grown_set W g 0 _) (fun h0 a ha e=>ht.ne h.at_ (fun _ _ h=>by cases h) h0 a ha (Option.some.inj e))⟩
set_option maxRecDepth 100000 in
theorem there_any (B g:Nat)(s:RS)(W:World)(hr:RdS B g s W):Calls Tryz.prog 150 #[.pointer (some ⟨g,0,none⟩)] W fun e w'=>e=.returned (.bool (!s.bad))∧W=w':=by
 obtain⟨ao,cap,hr⟩:=hr
 have hat:=hr.at_
 have c1:W.cell? ⟨g,1,none⟩=some (.bool s.bad):=by simp[World.cell?,hat]
 have c2:W.cell? ⟨g,2,none⟩=some (.bool true):=by simp[World.cell?,hat]
 have hpe:∀(w:World),Sem.run Tryz.prog (binOp BinOp.neq 181 (.pointer (some ⟨g,0,none⟩)) (.pointer none)) w=.ok (.bool true) w:=fun _=>by kernel_rfl
 go_enter Tryz.func150,Tryz.ntmps150
 go_wp2
 go_ret
 exact⟨rfl,rfl⟩
def RS.take (s:RS)(t:UInt8):Option (List UInt8)×RS:=
 if s.bad=true then (none,s) else if fs s.l≠0∧(hd1 s.l).1=t then (some (hd1 s.l).2,⟨s.l.drop (fs s.l),false⟩) else (none,⟨s.l,true⟩)
def GivesT (B g:Nat)(s:RS)(t:UInt8)(W:World)(e:Ending)(w':World):Prop:=RdS B g (s.take t).2 w'∧W.grownBy w' (some g) ∧
 match (s.take t).1 with
 | none=>e=.returned (.tuple #[.slice none 0 0,.bool false])
 | some x=>∃ao cap,e=.returned (.tuple #[.slice ao x.length cap,.bool true])∧Rd w' 1 ao x.length cap (byV x)∧Ty8 w' ao cap
theorem grown_any {W W':World}(h:Below W.heap.size W W')(row:Option Nat):W.grownBy W' row:=⟨h.os,h.tape,h.output,h.size,fun k hk _=>h.block k hk⟩
theorem grown_trans {a b c:World}{row:Option Nat}(h:a.grownBy b row)(k:b.grownBy c row):a.grownBy c row:=
 ⟨k.os.trans h.os,k.tape.trans h.tape,k.output.trans h.output,Nat.le_trans h.size k.size,fun j hj hn=>(k.block j (Nat.lt_of_lt_of_le hj h.size) hn).trans (h.block j hj hn)⟩
theorem below_of_grown {a b:World}{B g:Nat}(h:a.grownBy b (some g))(hB:B≤g)(hs:g<a.heap.size):Below B a b:=⟨h.os,h.tape,h.output,h.size,fun k hk=>h.block k (by omega) (fun e=>by have:=Option.some.inj e;omega)⟩
set_option maxRecDepth 100000 in
theorem take_any (B g:Nat)(s:RS)(t:UInt8)(W:World)(hr:RdS B g s W)(hl:s.l.length≤100000000):Calls Tryz.prog 180 #[.pointer (some ⟨g,0,none⟩),.int .u8 (t.toNat:Int)] W (GivesT B g s t W):=by
 have hth:=there_any B g s W hr
 have hrs:=hr
 obtain⟨ao,cap,hr⟩:=hr
 obtain⟨l,bad⟩:=s
 cases bad with
 | true=>
  go_enter Tryz.func180,Tryz.ntmps180
  go_wp2_with fail
  refine hth.mono ?_
  rintro e w' ⟨rfl,rfl⟩
  go_wp2
  go_ret2
  exact⟨hrs,grown_any (Below.refl _ _) _,rfl⟩
 | false=>
  have hat:=hr.at_
  dsimp only at hat hl hth
  have c0:W.cell? ⟨g,0,none⟩=some (.slice ao l.length cap):=by simp[World.cell?,hat]
  go_enter Tryz.func180,Tryz.ntmps180
  go_wp2_with fail
  refine hth.mono ?_
  rintro e w' ⟨rfl,rfl⟩
  go_wp2_with fail
  refine (first_any ao l.length cap l _ hr.rd (by omega)).mono ?_
  rintro e w1 ⟨hb1,hc1⟩
  have hr1:=hr.later hb1
  have hat1:=hr1.at_
  dsimp only at hat1
  have d0:w1.cell? ⟨g,0,none⟩=some (.slice ao l.length cap):=by simp[World.cell?,hat1]
  have z0:w1.frozen? ⟨g,0,none⟩=false:=by simp[World.frozen?,hat1]
  have z1:w1.frozen? ⟨g,1,none⟩=false:=by simp[World.frozen?,hat1]
  have d1:w1.cell? ⟨g,1,none⟩=some (.bool false):=by simp[World.cell?,hat1]
  have hgb:=grown_any hb1 (some g)
  have hbad:∀(h:¬(fs l≠0∧(hd1 l).1=t)),GivesT B g ⟨l,false⟩ t W (.returned (.tuple #[.slice none 0 0,.bool false])) (w1.setCell ⟨g,1,none⟩ (.bool true)):=by
   intro h
   have ht:RS.take ⟨l,false⟩ t=(none,⟨l,true⟩):=by unfold RS.take;rw[if_neg (by simp),if_neg h]
   unfold GivesT
   rw[ht]
   exact⟨⟨ao,cap,hr1.fail⟩,grown_trans hgb (grown_set _ _ _ _),rfl⟩
  rcases hc1 with ⟨h0,rfl⟩ | ⟨h0,ao2,cap2,rfl,hr2,hbk⟩
  ·have Hb:=Lib.hid (hbad (fun h=>h.1 h0))
   clear hbad
   go_wp2_with fail
   go_ret2
   exact Hb.out
  by_cases htg:(hd1 l).1=t
  ·have ht:RS.take ⟨l,false⟩ t=(some (hd1 l).2,⟨l.drop (fs l),false⟩):=by unfold RS.take;rw[if_neg (by simp),if_pos ⟨h0,htg⟩]
   have Ht:=Lib.hid ht
   have hfle:=fs_le l
   have hf5:=fs_five l h0
   have hdl:(l.drop (fs l)).length=l.length-fs l:=List.length_drop
   have Hdl:=Lib.hid hdl
   have hrd1:=hr1.rd
   dsimp only at hrd1
   have hcl:=hrd1.le
   have hne1:=hr1.ne
   obtain⟨b1,o1,e1,hlt1,hcc1⟩:=hrd1.some (by omega)
   subst e1
   have hne2:b1≠g:=hne1 (by omega) _ rfl
   have hty1:=hr1.ty
   have ht1:∀(ao':Option Addr) (c':Nat),(0<c'→∀a,ao'=some a→a.block=b1)→Ty8 w1 ao' c':=fun ao' c' h h0 a ha=>by
    rw[h h0 a ha];exact hty1 (by omega) _ rfl
   have hx3:Ty8 w1 ao2 cap2:=ht1 _ _ (fun h a ha=>by
    obtain⟨a0,h1,h2⟩:=hbk h a ha
    cases h1
    exact h2)
   have hx2:0<cap2→∀a,ao2=some a→a.block≠g:=hx3.ne hat1 (fun _ _ h=>by cases h)
   have f1:(((hd1 l).1.toNat:Int) != (t.toNat:Int))=false:=by rw[htg];simp
   clear hbad ht hdl
   obtain⟨it,hit⟩:∃it,hd1 l=it:=⟨_,rfl⟩
   rw[hit] at hr2 f1 htg
   rw[hit]
   have hok:∀w',RdS B g ⟨l.drop (fs l),false⟩ w'→W.grownBy w' (some g)→Rd w' 1 ao2 (hd1 l).2.length cap2 (byV (hd1 l).2)→Ty8 w' ao2 cap2→GivesT B g ⟨l,false⟩ t W (.returned (.tuple #[.slice ao2 (hd1 l).2.length cap2,.bool true])) w':=by
    intro w' h1 h2 h3 h4
    unfold GivesT
    rw[Ht.out]
    exact⟨h1,h2,ao2,cap2,rfl,h3,h4⟩
   rw[hit] at hok
   have hmv:=fun (q:Nat) (a:Addr) (c:Nat) (hq:q=l.length-fs l) (h:Rd w1 1 (some a) (l.length-fs l) c (byV (l.drop (fs l)))) (hn:0<c→a.block=b1)=>hr1.move (l':=l.drop (fs l)) (ao':=some a) (cap':=c) (by rw[Hdl.out];exact h) (ht1 _ _ (fun h0 a' ha=>by cases ha;exact hn h0))
   rw[Hdl.out] at hmv
   have Hmv:=Lib.hid hmv
   clear hmv
   have Hok:=Lib.hid hok
   clear hok hit Ht
   generalize hff:fs l=f at *
   clear hff
   have f2:((f:Int)==0)=false:=by simp;omega
   have i0:(0:Int)≤(f:Int):=by omega
   have i1:(f:Int)≤(l.length:Int):=by omega
   have i2:(f:Int)≤(cap:Int):=by omega
   by_cases hcf:cap=f
   ·subst hcf
    have hq0:l.length=cap:=by omega
    have hq1:l.length-cap=0:=by omega
    have hre:=rd_end hrd1 (f:=cap) (by omega) rfl
    have hm:=Hmv.out _ ⟨b1,o1,none⟩ 0 rfl (by rw[hq1];exact hre) (fun h=>absurd h (Nat.lt_irrefl 0))
    rw[hq1] at hm
    have Hm:=Lib.hid hm
    have hr3:=rd_grown hr2 (grown_set w1 g 0 (.slice (some ⟨b1,o1,none⟩) 0 0)) (fun h0 a ha e=>hx2 h0 a ha (Option.some.inj e))
    have hr4:=fun (v:Value)=>hx3.grown (grown_set w1 g 0 v) (fun h0 a ha e=>hx2 h0 a ha (Option.some.inj e))
    clear hm hre
    go_wp2_with fail
    go_ret2
    exact Hok.out _ ⟨_,_,Hm.out⟩ (grown_trans hgb (grown_set _ _ _ _)) hr3 (hr4 _)
   have hcf2:¬cap-f=0:=by omega
   have hre:=rd_drop hrd1 (f:=f) (by omega)
   have hm:=Hmv.out _ ⟨b1,o1+f,none⟩ (cap-f) rfl hre (fun _=>rfl)
   have Hm:=Lib.hid hm
   have hr3:=rd_grown hr2 (grown_set w1 g 0 (.slice (some ⟨b1,o1+f,none⟩) (l.length-f) (cap-f))) (fun h0 a ha e=>hx2 h0 a ha (Option.some.inj e))
   have hr4:=fun (v:Value)=>hx3.grown (grown_set w1 g 0 v) (fun h0 a ha e=>hx2 h0 a ha (Option.some.inj e))
   clear hm hre
   go_wp2_with fail
   go_ret2
   exact Hok.out _ ⟨_,_,Hm.out⟩ (grown_trans hgb (grown_set _ _ _ _)) hr3 (hr4 _)
  have f1:(((hd1 l).1.toNat:Int) != (t.toNat:Int))=true:=by simp;exact fun h=>htg (UInt8.toNat_inj.1 (by omega))
  have f2:((fs l:Int)==0)=false:=by simp;omega
  have Hb:=Lib.hid (hbad (fun h=>htg h.2))
  clear hbad
  go_wp2_with fail
  go_ret2
  exact Hb.out
def RS.bytes (s:RS)(t:UInt8):List UInt8×RS:=((s.take t).1.getD [],(s.take t).2)
def numK (b:List UInt8):Nat→Nat
 | 0=>0
 | k+1=>numK b k*256+(b[k]?.getD 0).toNat
theorem numK_lt (b:List UInt8):∀k,numK b k<256 ^ k
 | 0=>by simp[numK]
 | k+1=>by
  have ih:=numK_lt b k
  have hc:(b[k]?.getD 0).toNat<256:=UInt8.toNat_lt _
  rw[numK,Nat.pow_succ]
  omega
def RS.num (s:RS)(t:UInt8):Nat×RS:=
 match (s.take t).1 with
 | none=>(0,(s.take t).2)
 | some b=>if b.length=8 then (numK b 8,(s.take t).2) else (0,⟨(s.take t).2.l,true⟩)
def RS.flag (s:RS)(t:UInt8):Bool×RS:=
 match (s.take t).1 with
 | none=>(false,(s.take t).2)
 | some b=>if b.length=1∧(b[0]?.getD 0).toNat≤1 then (decide ((b[0]?.getD 0).toNat=1),(s.take t).2) else (false,⟨(s.take t).2.l,true⟩)
def RS.tag (s:RS):UInt8:=if s.bad=true then 0 else if fs s.l=0 then 0 else (hd1 s.l).1
def RS.ends (s:RS):Int:=if s.bad=true∨0<s.l.length then 4 else 0
def GivesR (B g:Nat)(v:Value)(s:RS)(W:World)(e:Ending)(w':World):Prop:=e=.returned v∧RdS B g s w'∧W.grownBy w' (some g)
set_option maxRecDepth 100000 in
theorem rbytes_any (B g:Nat)(s:RS)(t:UInt8)(W:World)(hr:RdS B g s W)(hl:s.l.length≤100000000):Calls Tryz.prog 194 #[.pointer (some ⟨g,0,none⟩),.int .u8 (t.toNat:Int)] W fun e w'=>
  ∃ao cap,e=.returned (.slice ao (s.bytes t).1.length cap)∧Rd w' 1 ao (s.bytes t).1.length cap (byV (s.bytes t).1)∧RdS B g (s.bytes t).2 w'∧W.grownBy w' (some g):=by
 have hc:=take_any B g s t W hr hl
 unfold GivesT at hc
 unfold RS.bytes
 generalize s.take t=tk at *
 obtain⟨ox,s'⟩:=tk
 cases ox with
 | none=>
  go_enter Tryz.func194,Tryz.ntmps194
  go_wp2_with fail
  refine hc.mono ?_
  rintro e w' ⟨h1,h2,rfl⟩
  go_wp2
  go_ret
  exact⟨none,0,rfl,Rd.nil _ _,h1,h2⟩
 | some x=>
  go_enter Tryz.func194,Tryz.ntmps194
  go_wp2_with fail
  refine hc.mono ?_
  rintro e w' ⟨h1,h2,ao,cap,rfl,h4,_⟩
  go_wp2
  go_ret
  exact⟨ao,cap,rfl,h4,h1,h2⟩
set_option maxRecDepth 100000 in
theorem rtext_any (B g:Nat)(s:RS)(t:UInt8)(W:World)(hr:RdS B g s W)(hl:s.l.length≤100000000):Calls Tryz.prog 238 #[.pointer (some ⟨g,0,none⟩),.int .u8 (t.toNat:Int)] W
  (GivesR B g (.string ⟨(s.bytes t).1.toArray⟩) (s.bytes t).2 W):=by
 have hc:=rbytes_any B g s t W hr hl
 generalize s.bytes t=r at *
 go_enter Tryz.func238,Tryz.ntmps238
 go_wp2_with fail
 refine hc.mono ?_
 rintro e w' ⟨ao,cap,rfl,h1,h2,h3⟩
 have hs:=run_strD ao _ cap _ w' h1
 go_wp2
 go_ret
 exact⟨rfl,h2,h3⟩
set_option maxRecDepth 100000 in
theorem rtag_any (B g:Nat)(s:RS)(W:World)(hr:RdS B g s W)(hl:s.l.length≤100000000):Calls Tryz.prog 113 #[.pointer (some ⟨g,0,none⟩)] W fun e w'=>e=.returned (.int .u8 (s.tag.toNat:Int))∧Below W.heap.size W w':=by
 have hth:=there_any B g s W hr
 obtain⟨ao,cap,hr⟩:=hr
 obtain⟨l,bad⟩:=s
 cases bad with
 | true=>
  go_enter Tryz.func113,Tryz.ntmps113
  go_wp2_with fail
  refine hth.mono ?_
  rintro e w' ⟨rfl,rfl⟩
  go_wp2
  go_ret
  exact⟨rfl,Below.refl _ _⟩
 | false=>
  have hat:=hr.at_
  dsimp only at hat hl hth
  have c0:W.cell? ⟨g,0,none⟩=some (.slice ao l.length cap):=by simp[World.cell?,hat]
  go_enter Tryz.func113,Tryz.ntmps113
  go_wp2_with fail
  refine hth.mono ?_
  rintro e w' ⟨rfl,rfl⟩
  go_wp2_with fail
  refine (first_any ao l.length cap l _ hr.rd (by omega)).mono ?_
  rintro e w1 ⟨hb1,⟨h0,rfl⟩ | ⟨h0,ao2,cap2,rfl,hr2,hbk⟩⟩
  ·have ht:RS.tag ⟨l,false⟩=0:=by unfold RS.tag;rw[if_neg (by simp),if_pos h0]
   go_wp2
   go_ret
   exact⟨by rw[ht];rfl,hb1⟩
  have ht:RS.tag ⟨l,false⟩=(hd1 l).1:=by unfold RS.tag;rw[if_neg (by simp),if_neg h0]
  go_wp2
  go_ret
  exact⟨by rw[ht];rfl,hb1⟩
set_option maxRecDepth 100000 in
theorem rend_any (B g:Nat)(s:RS)(W:World)(hr:RdS B g s W):Calls Tryz.prog 114 #[.pointer (some ⟨g,0,none⟩)] W fun e w'=>e=.returned (.int .i64 s.ends)∧W=w':=by
 obtain⟨ao,cap,hr⟩:=hr
 obtain⟨l,bad⟩:=s
 have hat:=hr.at_
 dsimp only at hat
 have c0:W.cell? ⟨g,0,none⟩=some (.slice ao l.length cap):=by simp[World.cell?,hat]
 have c1:W.cell? ⟨g,1,none⟩=some (.bool bad):=by simp[World.cell?,hat]
 have c2:W.cell? ⟨g,2,none⟩=some (.bool true):=by simp[World.cell?,hat]
 have hpe:∀(w:World),Sem.run Tryz.prog (binOp BinOp.eql 181 (.pointer (some ⟨g,0,none⟩)) (.pointer none)) w=.ok (.bool false) w:=fun _=>by kernel_rfl
 cases bad with
 | true=>
  go_enter Tryz.func114,Tryz.ntmps114
  go_wp2
  go_ret
  exact⟨rfl,rfl⟩
 | false=>
  by_cases h0:0<l.length
  ·have f0:decide ((0:Int)<(l.length:Int))=true:=decide_eq_true (by omega)
   have he:RS.ends ⟨l,false⟩=4:=if_pos (.inr h0)
   rw[he]
   go_enter Tryz.func114,Tryz.ntmps114
   go_wp2
   go_ret
   exact⟨rfl,rfl⟩
  have f0:decide ((0:Int)<(l.length:Int))=false:=decide_eq_false (by omega)
  have he:RS.ends ⟨l,false⟩=0:=if_neg (by simp at h0 ⊢;exact h0)
  rw[he]
  go_enter Tryz.func114,Tryz.ntmps114
  go_wp2
  go_ret
  exact⟨rfl,rfl⟩
set_option maxRecDepth 100000 in
theorem read_any (ao:Option Addr)(n cap:Nat)(l:List UInt8)(W:World)(hr:Rd W 1 ao n cap (byV l))(hn:n≤1000000000):Calls Tryz.prog 110 #[.slice ao n cap] W fun e w'=>
  ∃g,e=.returned (.pointer (some ⟨g,0,none⟩))∧RdS W.heap.size g ⟨l,false⟩ w'∧Below W.heap.size W w':=by
 go_enter Tryz.func110,Tryz.ntmps110
 go_wp2_with fail
 refine (clone_own ao n cap l W hr hn).mono ?_
 rintro e w1 ⟨v1,rfl,ho1,hb1⟩
 obtain⟨ao1,cap1,rfl,hr1⟩:=Rd.of_own ho1
 go_wp2
 go_ret
 have hb2:Below w1.heap.size w1 (w1.alloc (.cells #[.slice ao1 l.length cap1,.bool false,.bool true] 237)):=(Below.refl _ _).alloc (Nat.le_refl _) _
 refine⟨w1.heap.size,rfl,⟨ao1,cap1,?_,hb1.size,hr1.later hb2,(Ty8.of_own ho1).later hb2⟩,hb1.trans (hb2.mono hb1.size)⟩
 show (w1.heap.push _)[w1.heap.size]?=some _;simp
set_option maxRecDepth 100000 in
theorem rnum_any (B g:Nat)(s:RS)(t:UInt8)(W:World)(hr:RdS B g s W)(hl:s.l.length≤100000000):Calls Tryz.prog 148 #[.pointer (some ⟨g,0,none⟩),.int .u8 (t.toNat:Int)] W
  (GivesR B g (.int .u64 ((s.num t).1:Int)) (s.num t).2 W):=by
 have hc:=take_any B g s t W hr hl
 unfold GivesT at hc
 unfold RS.num
 generalize s.take t=tk at *
 obtain⟨ox,s'⟩:=tk
 cases ox with
 | none=>
  go_enter Tryz.func148,Tryz.ntmps148
  go_wp2_with fail
  refine hc.mono ?_
  rintro e w' ⟨h1,h2,rfl⟩
  go_wp2
  go_loop [7,27] (fun v p=>v=.int .u64 0∧p=.int .i64 0) (fun _ _=>0)
  case atStart=>exact⟨rfl,rfl⟩
  case round=>
   obtain⟨rfl,rfl⟩:=hrel
   go_wp2
   go_ret
   exact⟨rfl,h1,h2⟩
 | some x=>
  dsimp only at hc ⊢
  by_cases h8:x.length=8
  ·have hc2:Calls Tryz.prog 180 #[.pointer (some ⟨g,0,none⟩),.int .u8 (t.toNat:Int)] W fun e w'=>∃b o cap,e=.returned (.tuple #[.slice (some ⟨b,o,none⟩) 8 cap,.bool true])∧(∀k,k<8→w'.cell? ⟨b,o+k,none⟩=some (.int .u8 ((x[k]?.getD 0).toNat:Int)))∧RdS B g s' w'∧W.grownBy w' (some g):=by
    refine hc.mono ?_
    rintro e w' ⟨h1,h2,ao,cap,rfl,h4,_⟩
    have hle:=h4.le
    obtain⟨b,o,rfl,_,hcc⟩:=h4.some (by omega)
    exact⟨b,o,cap,by rw[h8],fun k hk=>hcc k _ (byV_at x k (by omega)),h1,h2⟩
   rw[if_pos h8]
   have hk:=numK_lt x
   have hv:∀k:Nat,Hid ((x[k]?.getD 0).toNat<256):=fun k=>UInt8.toNat_lt _
   have hsx:∀k:Nat,Hid (numK x (k+1)=numK x k*256+(x[k]?.getD 0).toNat):=fun k=>rfl
   clear hc h8
   go_enter Tryz.func148,Tryz.ntmps148
   go_wp2_with fail
   refine hc2.mono ?_
   rintro e w' ⟨b,o,cap,rfl,hcell,h1,h2⟩
   have Hcell:=Lib.hid hcell
   have Hk:=Lib.hid hk
   clear hcell hk
   go_wp2
   go_loop [7,27] (fun v p=>∃k:Nat,k≤8∧v=.int .u64 (numK x k:Int)∧p=.int .i64 (k:Int)) (fun _ p=>(8-intOf p).toNat)
   case atStart=>exact⟨0,by omega,rfl,rfl⟩
   case round=>
    obtain⟨k,hk8,rfl,rfl⟩:=hrel
    by_cases hk9:k=8
    ·subst hk9
     go_wp2
     go_ret
     exact⟨rfl,h1,h2⟩
    have hk7:k<8:=by omega
    have hc3:=Hcell.out k hk7
    have hlt:=Hk.out k
    have hpow:256 ^ k≤256 ^ 7:=Nat.pow_le_pow_right (by decide) (by omega)
    have hv1:=(hv k).out
    have hs1:=(hsx k).out
    have Hs1:=Lib.hid hs1
    clear hs1
    generalize numK x k=q at *
    generalize (x[k]?.getD 0).toNat=c at *
    have hq7:q<72057594037927936:=Nat.lt_of_lt_of_le hlt hpow
    clear hlt hpow
    have j0:IntKind.u64.wrap ((q:Int)*256)=(q:Int)*256:=by rw[IntWalk.u64_in]<;>omega
    have j1:bits BinOp.or IntKind.u64 ((q:Int)*256) (c:Int)=(q:Int)*256+(c:Int):=bits_join .u64 64 (by decide) (fun n h0 h1=>by rw[IntWalk.u64_in]<;>omega) 8 _ _ (by omega) (by omega) (by omega) (by omega) (by omega) (by omega)
    go_wp2
    case roundEnd=>exact⟨⟨k+1,by omega,by rw[Hs1.out];go_num,by go_num⟩,by simp[intOf];omega⟩
  rw[if_neg h8]
  have f8:((x.length:Int) != 8)=true:=by simp;omega
  go_enter Tryz.func148,Tryz.ntmps148
  go_wp2_with fail
  refine hc.mono ?_
  rintro e w' ⟨⟨ao1,cap1,h1⟩,h2,ao,cap,rfl,_,_⟩
  have hat:=h1.at_
  have c1:w'.cell? ⟨g,1,none⟩=some (.bool s'.bad):=by simp[World.cell?,hat]
  have z1:w'.frozen? ⟨g,1,none⟩=false:=by simp[World.frozen?,hat]
  go_wp2
  go_ret
  exact⟨rfl,⟨ao1,cap1,h1.fail⟩,grown_trans h2 (grown_set _ _ _ _)⟩
set_option maxRecDepth 100000 in
theorem rflag2_any (B g:Nat)(s:RS)(t:UInt8)(W:World)(hr:RdS B g s W)(hl:s.l.length≤100000000):Calls Tryz.prog 212 #[.pointer (some ⟨g,0,none⟩),.int .u8 (t.toNat:Int)] W
  (GivesR B g (.bool (s.flag t).1) (s.flag t).2 W):=by
 have hc:=take_any B g s t W hr hl
 unfold GivesT at hc
 unfold RS.flag
 generalize s.take t=tk at *
 obtain⟨ox,s'⟩:=tk
 cases ox with
 | none=>
  go_enter Tryz.func212,Tryz.ntmps212
  go_wp2_with fail
  refine hc.mono ?_
  rintro e w' ⟨h1,h2,rfl⟩
  go_wp2
  go_ret
  exact⟨rfl,h1,h2⟩
 | some x=>
  dsimp only at hc ⊢
  by_cases h1l:x.length=1
  ·have hc2:Calls Tryz.prog 180 #[.pointer (some ⟨g,0,none⟩),.int .u8 (t.toNat:Int)] W fun e w'=>∃b o cap,e=.returned (.tuple #[.slice (some ⟨b,o,none⟩) 1 cap,.bool true])∧w'.cell? ⟨b,o,none⟩=some (.int .u8 ((x[0]?.getD 0).toNat:Int))∧RdS B g s' w'∧W.grownBy w' (some g):=by
    refine hc.mono ?_
    rintro e w' ⟨h1,h2,ao,cap,rfl,h4,_⟩
    have hle:=h4.le
    obtain⟨b,o,rfl,_,hcc⟩:=h4.some (by omega)
    exact⟨b,o,cap,by rw[h1l],hcc 0 _ (byV_at x 0 (by omega)),h1,h2⟩
   by_cases hx:(x[0]?.getD 0).toNat≤1
   ·rw[if_pos ⟨h1l,hx⟩]
    clear hc h1l
    generalize (x[0]?.getD 0).toNat=c at *
    have f1:decide ((1:Int)<(c:Int))=false:=decide_eq_false (by omega)
    have f2:((c:Int)==1)=decide (c=1):=by rw[Bool.eq_iff_iff];simp;omega
    have F2:=Lib.hid f2
    clear f2
    go_enter Tryz.func212,Tryz.ntmps212
    go_wp2_with fail
    refine hc2.mono ?_
    rintro e w' ⟨b,o,cap,rfl,hcell,h1,h2⟩
    go_wp2
    go_ret
    refine⟨?_,h1,h2⟩
    rw[←F2.out]
    rfl
   rw[if_neg (fun h=>hx h.2)]
   clear hc h1l
   generalize (x[0]?.getD 0).toNat=c at *
   have f1:decide ((1:Int)<(c:Int))=true:=decide_eq_true (by omega)
   go_enter Tryz.func212,Tryz.ntmps212
   go_wp2_with fail
   refine hc2.mono ?_
   rintro e w' ⟨b,o,cap,rfl,hcell,⟨ao1,cap1,h1⟩,h2⟩
   have hat:=h1.at_
   have c1:w'.cell? ⟨g,1,none⟩=some (.bool s'.bad):=by simp[World.cell?,hat]
   have z1:w'.frozen? ⟨g,1,none⟩=false:=by simp[World.frozen?,hat]
   go_wp2
   go_ret
   exact⟨rfl,⟨ao1,cap1,h1.fail⟩,grown_trans h2 (grown_set _ _ _ _)⟩
  rw[if_neg (fun h=>h1l h.1)]
  have f8:((x.length:Int) != 1)=true:=by simp;omega
  go_enter Tryz.func212,Tryz.ntmps212
  go_wp2_with fail
  refine hc.mono ?_
  rintro e w' ⟨⟨ao1,cap1,h1⟩,h2,ao,cap,rfl,_,_⟩
  have hat:=h1.at_
  have c1:w'.cell? ⟨g,1,none⟩=some (.bool s'.bad):=by simp[World.cell?,hat]
  have z1:w'.frozen? ⟨g,1,none⟩=false:=by simp[World.frozen?,hat]
  go_wp2
  go_ret
  exact⟨rfl,⟨ao1,cap1,h1.fail⟩,grown_trans h2 (grown_set _ _ _ _)⟩
end Go.Proofs.YtfmmandlmbcncaaGreatDoor.Tlv
namespace Go.Proofs.YtfmmandlmbcncaaGreatDoor.Tlv
theorem u8_ofNat (n:Nat)(x:UInt8)(h:n % 256=x.toNat):UInt8.ofNat n=x:=by
 apply UInt8.toNat_inj.1
 rw[UInt8.toNat_ofNat'];exact h
theorem val_hd1 (l:List UInt8)(h:fs l≠0):l=val (hd1 l).1 (hd1 l).2++l.drop (fs l)∧0<(hd1 l).1.toNat∧(hd1 l).2.length≤4194304:=by
 have hc:¬(l.length<5∨l[0]?.getD 0=0∨4194304<ln l∨l.length-5<ln l):=fun hh=>h (fs_no hh)
 have hf:=fs_yes hc
 have hl:=hd1_len l h
 have hle:=fs_le l
 have h0:¬l[0]?.getD 0=0:=fun e=>hc (.inr (.inl e))
 have hq:¬4194304<ln l:=fun e=>hc (.inr (.inr (.inl e)))
 match l,hle,hc with
 | a::b::c::d::e::r,hle,hc=>
  have hln:ln (a::b::c::d::e::r)=16777216*b.toNat+65536*c.toNat+256*d.toNat+e.toNat:=rfl
  have hb:=b.toNat_lt
  have hcc:=c.toNat_lt
  have hd:=d.toNat_lt
  have he:=e.toNat_lt
  have hx:(hd1 (a::b::c::d::e::r)).2=r.take (ln (a::b::c::d::e::r)):=by
   show ((a::b::c::d::e::r).drop 5).take (fs _-5)=_
   rw[hf,show 5+ln (a::b::c::d::e::r)-5=ln (a::b::c::d::e::r) by omega];rfl
  have hn:(hd1 (a::b::c::d::e::r)).2.length=ln (a::b::c::d::e::r):=by omega
  refine⟨?_,?_,by omega⟩
  ·have hdr:(a::b::c::d::e::r).drop (fs (a::b::c::d::e::r))=r.drop (ln (a::b::c::d::e::r)):=by rw[hf,Nat.add_comm];rfl
   rw[hdr]
   unfold val
   rw[hn,hx]
   generalize hqq:ln (a::b::c::d::e::r)=q at *
   rw[u8_ofNat (q / 16777216) b (by omega),u8_ofNat (q / 65536) c (by omega),u8_ofNat (q / 256) d (by omega),u8_ofNat q e (by omega)]
   show _=[a,b,c,d,e]++List.take q r++List.drop q r
   rw[List.append_assoc,List.take_append_drop];rfl
  have:(hd1 (a::b::c::d::e::r)).1=a:=rfl
  rw[this]
  have h1:¬a=0:=h0
  have:¬a.toNat=0:=fun e=>h1 (UInt8.toNat_inj.1 e)
  omega
 | [],_,hc=>exact absurd (.inl (by simp)) hc
 | [_],_,hc=>exact absurd (.inl (by simp)) hc
 | [_,_],_,hc=>exact absurd (.inl (by simp)) hc
 | [_,_,_],_,hc=>exact absurd (.inl (by simp)) hc
 | [_,_,_,_],_,hc=>exact absurd (.inl (by simp)) hc
theorem take_val (t:UInt8)(b rest:List UInt8)(ht:0<t.toNat)(hb:b.length≤4194304):RS.take ⟨val t b++rest,false⟩ t=(some b,⟨rest,false⟩):=by
 have hh:=hd1_val t b rest ht hb
 have hf:=fs_val t b rest ht hb
 unfold RS.take
 rw[if_neg (by simp),if_pos ⟨by dsimp only;omega,by dsimp only;rw[hh]⟩]
 dsimp only
 rw[hh,hf,←val_len t b]
 simp
theorem take_some {s:RS}{t:UInt8}{x:List UInt8}{s':RS}(h:s.take t=(some x,s')):s.bad=false∧s'.bad=false∧s.l=val t x++s'.l∧x.length≤4194304∧0<t.toNat:=by
 unfold RS.take at h
 split at h
 ·cases h
 rename_i hb
 split at h
 ·rename_i h2
  have e1:=Option.some.inj (congrArg Prod.fst h)
  have e2:=congrArg Prod.snd h
  dsimp only at e1 e2
  obtain⟨h3,h4,h5⟩:=val_hd1 s.l h2.1
  subst e1 e2
  refine⟨by simpa using hb,rfl,?_,h5,by rw[←h2.2];exact h4⟩
  rw[h2.2] at h3
  exact h3
 cases h
theorem take_none {s:RS}{t:UInt8}{s':RS}(h:s.take t=(none,s')):s'.bad=true:=by
 unfold RS.take at h
 split at h
 ·rename_i hb;have:=congrArg Prod.snd h;dsimp only at this;rw[←this];exact hb
 split at h
 ·cases h
 have:=congrArg Prod.snd h;dsimp only at this;rw[←this]
theorem num8_get (n k:Nat)(hk:k<8):((num8 n)[k]?.getD 0).toNat=n / 256 ^ (7-k) % 256:=by
 simp[num8,List.getElem?_map,List.getElem?_range hk,UInt8.toNat_ofNat']
theorem numK_num8 (n:Nat)(hn:n<18446744073709551616):numK (num8 n) 8=n:=by
 have h0:=num8_get n 0 (by omega)
 have h1:=num8_get n 1 (by omega)
 have h2:=num8_get n 2 (by omega)
 have h3:=num8_get n 3 (by omega)
 have h4:=num8_get n 4 (by omega)
 have h5:=num8_get n 5 (by omega)
 have h6:=num8_get n 6 (by omega)
 have h7:=num8_get n 7 (by omega)
 simp only[numK,h0,h1,h2,h3,h4,h5,h6,h7]
 omega
theorem num8_numK (b:List UInt8)(hb:b.length=8):num8 (numK b 8)=b:=by
 match b,hb with
 | [b0,b1,b2,b3,b4,b5,b6,b7],_=>
  have t0:=b0.toNat_lt
  have t1:=b1.toNat_lt
  have t2:=b2.toNat_lt
  have t3:=b3.toNat_lt
  have t4:=b4.toNat_lt
  have t5:=b5.toNat_lt
  have t6:=b6.toNat_lt
  have t7:=b7.toNat_lt
  have hq:numK [b0,b1,b2,b3,b4,b5,b6,b7] 8=((((((b0.toNat*256+b1.toNat)*256+b2.toNat)*256+b3.toNat)*256+b4.toNat)*256+b5.toNat)*256+b6.toNat)*256+b7.toNat:=by
   simp only[numK];simp
  rw[hq]
  generalize hqq:((((((b0.toNat*256+b1.toNat)*256+b2.toNat)*256+b3.toNat)*256+b4.toNat)*256+b5.toNat)*256+b6.toNat)*256+b7.toNat=q
  show [UInt8.ofNat (q / 256 ^ (7-0)),UInt8.ofNat (q / 256 ^ (7-1)),UInt8.ofNat (q / 256 ^ (7-2)),UInt8.ofNat (q / 256 ^ (7-3)),UInt8.ofNat (q / 256 ^ (7-4)),UInt8.ofNat (q / 256 ^ (7-5)),UInt8.ofNat (q / 256 ^ (7-6)),UInt8.ofNat (q / 256 ^ (7-7))]=_
  rw[u8_ofNat _ b0 (by omega),u8_ofNat _ b1 (by omega),u8_ofNat _ b2 (by omega),u8_ofNat _ b3 (by omega),u8_ofNat _ b4 (by omega),u8_ofNat _ b5 (by omega),u8_ofNat _ b6 (by omega),u8_ofNat _ b7 (by omega)]
theorem num_none {s s':RS}{t:UInt8}(h:s.take t=(none,s')):s.num t=(0,s'):=by unfold RS.num;rw[h]
theorem num_eight {s s':RS}{t:UInt8}{b:List UInt8}(h:s.take t=(some b,s'))(hb:b.length=8):s.num t=(numK b 8,s'):=by unfold RS.num;rw[h];exact if_pos hb
theorem num_bad {s s':RS}{t:UInt8}{b:List UInt8}(h:s.take t=(some b,s'))(hb:¬b.length=8):s.num t=(0,⟨s'.l,true⟩):=by unfold RS.num;rw[h];exact if_neg hb
theorem flag_none {s s':RS}{t:UInt8}(h:s.take t=(none,s')):s.flag t=(false,s'):=by unfold RS.flag;rw[h]
theorem flag_one {s s':RS}{t:UInt8}{b:List UInt8}(h:s.take t=(some b,s'))(hb:b.length=1∧(b[0]?.getD 0).toNat≤1):s.flag t=(decide ((b[0]?.getD 0).toNat=1),s'):=by unfold RS.flag;rw[h];exact if_pos hb
theorem flag_bad {s s':RS}{t:UInt8}{b:List UInt8}(h:s.take t=(some b,s'))(hb:¬(b.length=1∧(b[0]?.getD 0).toNat≤1)):s.flag t=(false,⟨s'.l,true⟩):=by unfold RS.flag;rw[h];exact if_neg hb
theorem val_inj {t:UInt8}{a b r r':List UInt8}(ht:0<t.toNat)(ha:a.length≤4194304)(hb:b.length≤4194304)(h:val t a++r=val t b++r'):a=b∧r=r':=by
 have h1:=take_val t a r ht ha
 have h2:=take_val t b r' ht hb
 rw[h,h2] at h1
 have e1:=Option.some.inj (congrArg Prod.fst h1)
 have e2:=congrArg RS.l (congrArg Prod.snd h1)
 exact⟨e1.symm,e2.symm⟩
structure Took {α:Type}(body:α→List UInt8)(may good:α→Prop)(s:RS)(y:α)(s':RS):Prop where
 yes:s'.bad=false→s.bad=false∧s.l=body y++s'.l∧good y
 no:s'.bad=true→s.bad=true∨∀z rest,may z→s.l≠body z++rest
 le:s'.l.length≤s.l.length
theorem take_cases (s:RS)(t:UInt8)(ht:0<t.toNat):(∃x rest,s.take t=(some x,⟨rest,false⟩)∧s.bad=false∧s.l=val t x++rest∧x.length≤4194304) ∨
  (∃s',s.take t=(none,s')∧s'.bad=true∧s'.l=s.l∧(s.bad=true∨∀(z rest:List UInt8),z.length≤4194304→s.l≠val t z++rest)):=by
 cases h:s.take t with
 | mk ox s'=>
  cases ox with
  | some x=>
   obtain⟨h1,h2,h3,h4,_⟩:=take_some h
   obtain⟨l,b⟩:=s'
   dsimp only at h2 h3
   subst h2
   exact .inl ⟨x,l,rfl,h1,h3,h4⟩
  | none=>
   refine .inr ⟨s',rfl,take_none h,?_,?_⟩
   ·unfold RS.take at h
    split at h
    ·have:=congrArg Prod.snd h;dsimp only at this;rw[←this]
    split at h
    ·cases h
    have:=congrArg Prod.snd h;dsimp only at this;rw[←this]
   cases hb:s.bad with
   | true=>exact .inl rfl
   | false=>
    refine .inr fun z rest hz e=>?_
    obtain⟨l,b⟩:=s
    dsimp only at hb e
    subst hb e
    rw[take_val t z rest ht hz] at h
    cases h
theorem val_long (t:UInt8)(b r:List UInt8):r.length≤(val t b++r).length:=by rw[List.length_append];omega
theorem took_bytes (s:RS)(t:UInt8)(ht:0<t.toNat):Took (val t) (fun z=>z.length≤4194304) (fun z=>z.length≤4194304) s (s.bytes t).1 (s.bytes t).2:=by
 unfold RS.bytes
 rcases take_cases s t ht with ⟨x,rest,h,h1,h2,h3⟩ | ⟨s',h,h1,h2,h3⟩
 ·rw[h]
  exact⟨fun _=>⟨h1,h2,h3⟩,fun e=>(by cases e),(by rw[h2];exact val_long _ _ _)⟩
 rw[h]
 exact⟨fun e=>(by rw[show s'.bad=true from h1] at e;cases e),fun _=>h3,Nat.le_of_eq (congrArg List.length h2)⟩
theorem took_num (s:RS)(t:UInt8)(ht:0<t.toNat):Took (fun n:Nat=>val t (num8 n)) (fun n=>n<18446744073709551616) (fun n=>n<18446744073709551616) s (s.num t).1 (s.num t).2:=by
 rcases take_cases s t ht with ⟨x,rest,h,h1,h2,h3⟩ | ⟨s',h,h1,h2,h3⟩
 ·by_cases h8:x.length=8
  ·rw[num_eight h h8]
   refine⟨fun _=>⟨h1,?_,numK_lt x 8⟩,fun e=>(by cases e),?_⟩
   ·dsimp only;rw[num8_numK x h8];exact h2
   rw[h2];exact val_long _ _ _
  rw[num_bad h h8]
  refine⟨fun e=>(by cases e),fun _=>.inr fun z r hz e=>?_,?_⟩
  ·rw[h2] at e
   have:=(val_inj ht h3 (by rw[num8_len];omega) e).1
   rw[this,num8_len] at h8
   exact h8 rfl
  rw[h2];exact val_long _ _ _
 rw[num_none h]
 exact⟨fun e=>(by rw[show s'.bad=true from h1] at e;cases e),fun _=>h3.imp id (fun h z r _=>h _ r (by rw[num8_len];omega)),Nat.le_of_eq (congrArg List.length h2)⟩
theorem took_flag (s:RS)(t:UInt8)(ht:0<t.toNat):Took (fun b:Bool=>val t [if b then 1 else 0]) (fun _=>True) (fun _=>True) s (s.flag t).1 (s.flag t).2:=by
 rcases take_cases s t ht with ⟨x,rest,h,h1,h2,h3⟩ | ⟨s',h,h1,h2,h3⟩
 ·by_cases h8:x.length=1∧(x[0]?.getD 0).toNat≤1
  ·rw[flag_one h h8]
   refine⟨fun _=>⟨h1,?_,trivial⟩,fun e=>(by cases e),?_⟩
   ·dsimp only
    rw[h2]
    congr 2
    obtain⟨h8,h9⟩:=h8
    match x,h8,h9 with
    | [a],_,h9=>
     have h9:a.toNat≤1:=h9
     show [a]=[if decide (a.toNat=1)=true then 1 else 0]
     by_cases ha:a.toNat=1
     ·rw[decide_eq_true ha,if_pos rfl,show a=1 from UInt8.toNat_inj.1 ha]
     rw[decide_eq_false ha,if_neg (by decide),show a=0 from UInt8.toNat_inj.1 (by show a.toNat=0;omega)]
   rw[h2];exact val_long _ _ _
  rw[flag_bad h h8]
  refine⟨fun e=>(by cases e),fun _=>.inr fun z r _ e=>?_,?_⟩
  ·rw[h2] at e
   have:=(val_inj ht h3 (by simp) e).1
   rw[this] at h8
   exact h8 (by cases z<;>simp)
  rw[h2];exact val_long _ _ _
 rw[flag_none h]
 exact⟨fun e=>(by rw[show s'.bad=true from h1] at e;cases e),fun _=>h3.imp id (fun h z r _=>h _ r (by simp)),Nat.le_of_eq (congrArg List.length h2)⟩
end Go.Proofs.YtfmmandlmbcncaaGreatDoor.Tlv
