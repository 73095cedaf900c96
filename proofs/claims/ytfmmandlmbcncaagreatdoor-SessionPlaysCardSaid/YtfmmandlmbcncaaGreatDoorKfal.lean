/-A part of the proof.-/
import Derived.Test.YtfmmandlmbcncaaGreatDoorKfak
set_option maxHeartbeats 40000000
set_option maxRecDepth 100000
set_option linter.all false
namespace Go.Proofs.YtfmmandlmbcncaaGreatDoor
namespace Tlv
open Go.RowKit Mem
variable{B cap g:Nat}{W W' a b:World}{ao:Option Addr}{o:Obj}
structure RS where
 l:List UInt8
 bad:Bool
def Ty8 (W:World)(ao:Option Addr)(cap:Nat):Prop:=0<cap->∀a,ao=some a->∃c fr,W.heap[a.block]?=some (.cells c 5 fr)
theorem ak(W:World)(b i:Nat)(u:Value):W.grownBy (W.setCell ⟨b,i,none⟩ u) (some b):=
 ⟨rfl,rfl,rfl,by simp,fun k _ hk=>yaA W ⟨b,i,none⟩ u k (fun e=>hk (by rw[e]))⟩
theorem Ty8.ne(h:Ty8 W ao cap)(hg:W.heap[g]?=some o)(ho:∀c fr,o≠.cells c 5 fr):0<cap->∀a,ao=some a->a.block≠g:=by
 rintro h0 a ha rfl;obtain⟨c,fr,h1⟩:=h h0 a ha;rw[h1] at hg;exact ho c fr (yaf hg).symm
theorem Ty8.grown{row:Option Nat}(h:Ty8 W ao cap)(hg:W.grownBy W' row)(hd:0<cap->∀a,ao=some a->some a.block≠row):Ty8 W' ao cap:=fun h0 a ha=>by
 obtain⟨c,fr,h1⟩:=h h0 a ha;exact⟨c,fr,(hg.block _ (lA h1) (hd h0 a ha)).trans h1⟩
theorem Ty8.later(h:Ty8 W ao cap)(hb:Below W.heap.size W W'):Ty8 W' ao cap:=fun h0 a ha=>by
 obtain⟨c,fr,h1⟩:=h h0 a ha;exact⟨c,fr,(hb.q h1)⟩
theorem Ty8.zero(W:World)(ao:Option Addr):Ty8 W ao 0:=fun h=>absurd h (yaw 0)
theorem Ty8.of_own{n:Nat}{xs:List Value}(h:W.ownsRow B 5 1 (.slice ao n cap) n xs):Ty8 W ao cap:=by
 intro h0 a ha;subst ha;rcases h.2 with ⟨h1,_⟩ | ⟨g,c,cur,h1,_,h3,_⟩
 ·cases h1
 have:=(ybC h1).1;cases this;exact⟨_,_,h3⟩
structure RdAt (B g:Nat)(s:RS)(ao:Option Addr)(cap:Nat)(W:World):Prop where
 at_:W.heap[g]?=some (.cells #[.slice ao s.l.length cap,.bool s.bad,.bool true] 237)
 le:B<=g
 rd:Rd W 1 ao s.l.length cap (byV s.l)
 ty:Ty8 W ao cap
def RdS (B g:Nat)(s:RS)(W:World):Prop:=∃ao cap,RdAt B g s ao cap W
theorem RdAt.ne{s:RS}(h:RdAt B g s ao cap W):0<cap->∀a,ao=some a->a.block≠g:=h.ty.ne h.at_ (fun _ _ h=>by cases h)
theorem RdAt.lt{s:RS}(h:RdAt B g s ao cap W):g<W.heap.size:=lA h.at_
theorem RdAt.later{s:RS}(h:RdAt B g s ao cap W)(hb:Below W.heap.size W W'):RdAt B g s ao cap W':=⟨(hb.block g h.lt).trans h.at_,h.le,h.rd.later hb,h.ty.later hb⟩
theorem RdS.later{s:RS}(h:RdS B g s W)(hb:Below W.heap.size W W'):RdS B g s W':=by
 obtain⟨ao,cap,h⟩:=h;exact⟨ao,cap,h.later hb⟩
theorem RdAt.grown{s:RS}{row:Option Nat}(h:RdAt B g s ao cap W)(hg:W.grownBy W' row)(h1:some g≠row)(h2:0<cap->∀a,ao=some a->some a.block≠row):RdAt B g s ao cap W':=
 ⟨(hg.block g h.lt h1).trans h.at_,h.le,fO h.rd hg h2,h.ty.grown hg h2⟩
theorem RdS.grown{k:Nat}{s:RS}(h:RdS B g s W)(hg:W.grownBy W' (some k))(hk:W.heap[k]?=some o)(ho:∀c fr,o≠.cells c 5 fr)(hgk:g≠k):RdS B g s W':=by
 obtain⟨ao,cap,h⟩:=h;exact⟨ao,cap,h.grown hg (fun e=>hgk (yaf e)) (fun h0 a ha e=>h.ty.ne hk ho h0 a ha (yaf e))⟩
theorem vg{i:Nat}{cs:Array Value}{t:TypeId}{fr:Nat×Nat}(h:W.heap[g]?=some (.cells cs t fr))(v:Value):(W.setCell ⟨g,i,none⟩ v).heap[g]?=some (.cells (cs.setIfInBounds i v) t fr):=by
 have hlt:=lA h;have h2:=(ybA.1 h).2;simp only[World.setCell,ybt,Array.size_modify,hlt,ycd,h2];rfl
theorem RdAt.fail{s:RS}(h:RdAt B g s ao cap W):RdAt B g ⟨s.l,true⟩ ao cap (W.setCell ⟨g,1,none⟩ (.bool true)):=
 ⟨vg h.at_ _,h.le,fO h.rd (ak W g 1 _) (fun h0 a ha e=>h.ne h0 a ha (yaf e)),h.ty.grown (ak W g 1 _) (fun h0 a ha e=>h.ne h0 a ha (yaf e))⟩
theorem RdAt.move{s:RS}(h:RdAt B g s ao cap W){l':List UInt8}{ao':Option Addr}{cap':Nat}(hr:Rd W 1 ao' l'.length cap' (byV l'))(ht:Ty8 W ao' cap') :
  RdAt B g ⟨l',s.bad⟩ ao' cap' (W.setCell ⟨g,0,none⟩ (.slice ao' l'.length cap')):=
 ⟨vg h.at_ _,h.le,fO hr (ak W g 0 _) (fun h0 a ha e=>ht.ne h.at_ (fun _ _ h=>by cases h) h0 a ha (yaf e)),ht.grown (ak W g 0 _) (fun h0 a ha e=>ht.ne h.at_ (fun _ _ h=>by cases h) h0 a ha (yaf e))⟩
theorem jU(B g:Nat)(s:RS)(W:World)(hr:RdS B g s W):Calls Tryz.prog 150 #[.pointer (some ⟨g,0,none⟩)] W fun e w'=>e=.returned (.bool (!s.bad))/\W=w':=by
 obtain⟨ao,cap,hr⟩:=hr;have hat:=hr.at_;have c1:W.cell? ⟨g,1,none⟩=some (.bool s.bad):=by simp[World.cell?,hat]
 have c2:W.cell? ⟨g,2,none⟩=some (.bool true):=by simp[World.cell?,hat]
 have hpe:∀(w:World),Sem.run Tryz.prog (binOp BinOp.neq 181 (.pointer (some ⟨g,0,none⟩)) (.pointer none)) w=.ok (.bool true) w:=fun _=>by kernel_rfl
 go_in;go_wp2;go_ret;exact⟨rfl,rfl⟩
def RS.take (s:RS)(t:UInt8):Option (List UInt8)×RS:=
 if s.bad=true then (none,s) else if fs s.l≠0/\(hd1 s.l).1=t then (some (hd1 s.l).2,⟨s.l.drop (fs s.l),false⟩) else (none,⟨s.l,true⟩)
def jK (B g:Nat)(s:RS)(t:UInt8)(W:World)(e:Ending)(w':World):Prop:=RdS B g (s.take t).2 w'/\W.grownBy w' (some g) /\
 match (s.take t).1 with
 | none=>e=.returned (.tuple #[.slice none 0 0,.bool false])
 | some x=>∃ao cap,e=.returned (.tuple #[.slice ao x.length cap,.bool true])/\Rd w' 1 ao x.length cap (byV x)/\Ty8 w' ao cap
theorem gU(h:Below W.heap.size W W')(row:Option Nat):W.grownBy W' row:=⟨h.os,h.tape,h.output,h.size,fun k hk _=>h.block k hk⟩
theorem bi{c:World}{row:Option Nat}(h:a.grownBy b row)(k:b.grownBy c row):a.grownBy c row:=
 ⟨k.os.trans h.os,k.tape.trans h.tape,k.output.trans h.output,yae h.size k.size,fun j hj hn=>(k.block j (yaz hj h.size) hn).trans (h.block j hj hn)⟩
theorem below_of_grown(h:a.grownBy b (some g))(hB:B<=g)(hs:g<a.heap.size):Below B a b:=⟨h.os,h.tape,h.output,h.size,fun k hk=>h.block k (by omega) (fun e=>by have:=yaf e;omega)⟩
theorem take_any(B g:Nat)(s:RS)(t:UInt8)(W:World)(hr:RdS B g s W)(hl:s.l.length<=100000000):Calls Tryz.prog 180 #[.pointer (some ⟨g,0,none⟩),.int .u8 (t.toNat:Int)] W (jK B g s t W):=by
 have hth:=jU B g s W hr;have hrs:=hr;obtain⟨ao,cap,hr⟩:=hr;obtain⟨l,bad⟩:=s;cases bad with
 | true=>
  go_in;go_wp2_with fail;refine hth.mono ?_;rintro e w' ⟨rfl,rfl⟩;go_wp2;go_ret2;exact⟨hrs,gU (yaj _ _) _,rfl⟩
 | false=>
  have hat:=hr.at_;dsimp only at hat hl hth;have c0:W.cell? ⟨g,0,none⟩=some (.slice ao l.length cap):=by simp[World.cell?,hat]
  go_in;go_wp2_with fail;refine hth.mono ?_;rintro e w' ⟨rfl,rfl⟩;go_wp2_with fail;refine (first_any ao l.length cap l _ hr.rd (by omega)).mono ?_;rintro e w1 ⟨hb1,hc1⟩;have hr1:=hr.later hb1;have hat1:=hr1.at_;dsimp only at hat1;have d0:w1.cell? ⟨g,0,none⟩=some (.slice ao l.length cap):=by simp[World.cell?,hat1]
  have z0:w1.frozen? ⟨g,0,none⟩=false:=by simp[World.frozen?,hat1]
  have z1:w1.frozen? ⟨g,1,none⟩=false:=by simp[World.frozen?,hat1]
  have d1:w1.cell? ⟨g,1,none⟩=some (.bool false):=by simp[World.cell?,hat1]
  have hgb:=gU hb1 (some g);have hbad:∀(h:¬(fs l≠0/\(hd1 l).1=t)),jK B g ⟨l,false⟩ t W (.returned (.tuple #[.slice none 0 0,.bool false])) (w1.setCell ⟨g,1,none⟩ (.bool true)):=by
   intro h;have ht:RS.take ⟨l,false⟩ t=(none,⟨l,true⟩):=by unfold RS.take;rw[if_neg (by simp),if_neg h]
   unfold jK;rw[ht];exact⟨⟨ao,cap,hr1.fail⟩,bi hgb (ak _ _ _ _),rfl⟩
  rcases hc1 with ⟨h0,rfl⟩ | ⟨h0,ao2,cap2,rfl,hr2,hbk⟩
  ·have Hb:=Lib.hid (hbad (fun h=>h.1 h0));clear hbad;go_wp2_with fail;go_ret2;exact Hb.out
  by_cases htg:(hd1 l).1=t
  ·have ht:RS.take ⟨l,false⟩ t=(some (hd1 l).2,⟨l.drop (fs l),false⟩):=by unfold RS.take;rw[if_neg (by simp),if_pos ⟨h0,htg⟩]
   have Ht:=Lib.hid ht;have hfle:=lq l;have hf5:=iH l h0;have hdl:(l.drop (fs l)).length=l.length-fs l:=yaM;have Hdl:=Lib.hid hdl;have hrd1:=hr1.rd;dsimp only at hrd1;have hcl:=hrd1.le;have hne1:=hr1.ne;obtain⟨b1,o1,e1,hlt1,hcc1⟩:=hrd1.some (by omega);subst e1;have hne2:b1≠g:=hne1 (by omega) _ rfl;have hty1:=hr1.ty;have ht1:∀(ao':Option Addr) (c':Nat),(0<c'->∀a,ao'=some a->a.block=b1)->Ty8 w1 ao' c':=fun ao' c' h h0 a ha=>by
    rw[h h0 a ha];exact hty1 (by omega) _ rfl
   have hx3:Ty8 w1 ao2 cap2:=ht1 _ _ (fun h a ha=>by
    obtain⟨a0,h1,h2⟩:=hbk h a ha;cases h1;exact h2)
   have hx2:0<cap2->∀a,ao2=some a->a.block≠g:=hx3.ne hat1 (fun _ _ h=>by cases h);have f1:(((hd1 l).1.toNat:Int) != (t.toNat:Int))=false:=by rw[htg];simp
   clear hbad ht hdl;obtain⟨it,hit⟩:∃it,hd1 l=it:=⟨_,rfl⟩
   rw[hit] at hr2 f1 htg;rw[hit];have hok:∀w',RdS B g ⟨l.drop (fs l),false⟩ w'->W.grownBy w' (some g)->Rd w' 1 ao2 (hd1 l).2.length cap2 (byV (hd1 l).2)->Ty8 w' ao2 cap2->jK B g ⟨l,false⟩ t W (.returned (.tuple #[.slice ao2 (hd1 l).2.length cap2,.bool true])) w':=by
    intro w' h1 h2 h3 h4;unfold jK;rw[Ht.out];exact⟨h1,h2,ao2,cap2,rfl,h3,h4⟩
   rw[hit] at hok;have hmv:=fun (q:Nat) (a:Addr) (c:Nat) (hq:q=l.length-fs l) (h:Rd w1 1 (some a) (l.length-fs l) c (byV (l.drop (fs l)))) (hn:0<c->a.block=b1)=>hr1.move (l':=l.drop (fs l)) (ao':=some a) (cap':=c) (by rw[Hdl.out];exact h) (ht1 _ _ (fun h0 a' ha=>by cases ha;exact hn h0));rw[Hdl.out] at hmv;have Hmv:=Lib.hid hmv;clear hmv;have Hok:=Lib.hid hok;clear hok hit Ht;generalize hff:fs l=f at *;clear hff;have f2:((f:Int)==0)=false:=by simp;omega
   have i0:(0:Int)<=(f:Int):=by omega
   have i1:(f:Int)<=(l.length:Int):=by omega
   have i2:(f:Int)<=(cap:Int):=by omega
   by_cases hcf:cap=f
   ·subst hcf;have hq0:l.length=cap:=by omega
    have hq1:l.length-cap=0:=by omega
    have hre:=DX hrd1 (f:=cap) (by omega) rfl;have hm:=Hmv.out _ ⟨b1,o1,none⟩ 0 rfl (by rw[hq1];exact hre) (fun h=>absurd h (yaw 0));rw[hq1] at hm;have Hm:=Lib.hid hm;have hr3:=fO hr2 (ak w1 g 0 (.slice (some ⟨b1,o1,none⟩) 0 0)) (fun h0 a ha e=>hx2 h0 a ha (yaf e));have hr4:=fun (v:Value)=>hx3.grown (ak w1 g 0 v) (fun h0 a ha e=>hx2 h0 a ha (yaf e));clear hm hre;go_wp2_with fail;go_ret2;exact Hok.out _ ⟨_,_,Hm.out⟩ (bi hgb (ak _ _ _ _)) hr3 (hr4 _)
   have hcf2:¬cap-f=0:=by omega
   have hre:=pq hrd1 (f:=f) (by omega);have hm:=Hmv.out _ ⟨b1,o1+f,none⟩ (cap-f) rfl hre (fun _=>rfl);have Hm:=Lib.hid hm;have hr3:=fO hr2 (ak w1 g 0 (.slice (some ⟨b1,o1+f,none⟩) (l.length-f) (cap-f))) (fun h0 a ha e=>hx2 h0 a ha (yaf e));have hr4:=fun (v:Value)=>hx3.grown (ak w1 g 0 v) (fun h0 a ha e=>hx2 h0 a ha (yaf e));clear hm hre;go_wp2_with fail;go_ret2;exact Hok.out _ ⟨_,_,Hm.out⟩ (bi hgb (ak _ _ _ _)) hr3 (hr4 _)
  have f1:(((hd1 l).1.toNat:Int) != (t.toNat:Int))=true:=by simp;exact fun h=>htg (ybw.1 (by omega))
  have f2:((fs l:Int)==0)=false:=by simp;omega
  have Hb:=Lib.hid (hbad (fun h=>htg h.2));clear hbad;go_wp2_with fail;go_ret2;exact Hb.out
def RS.bytes (s:RS)(t:UInt8):List UInt8×RS:=((s.take t).1.getD [],(s.take t).2)
def jG (b:List UInt8):Nat->Nat
 | 0=>0
 | k+1=>jG b k*256+(b[k]?.getD 0).toNat
theorem pF(b:List UInt8):∀k,jG b k<256 ^ k
 | 0=>by simp[jG]
 | k+1=>by
  have ih:=pF b k;have hc:(b[k]?.getD 0).toNat<256:=ybo _;rw[jG,Nat.pow_succ];omega
def RS.num (s:RS)(t:UInt8):Nat×RS:=
 match (s.take t).1 with
 | none=>(0,(s.take t).2)
 | some b=>if b.length=8 then (jG b 8,(s.take t).2) else (0,⟨(s.take t).2.l,true⟩)
def RS.flag (s:RS)(t:UInt8):Bool×RS:=
 match (s.take t).1 with
 | none=>(false,(s.take t).2)
 | some b=>if b.length=1/\(b[0]?.getD 0).toNat<=1 then (decide ((b[0]?.getD 0).toNat=1),(s.take t).2) else (false,⟨(s.take t).2.l,true⟩)
def RS.tag (s:RS):UInt8:=if s.bad=true then 0 else if fs s.l=0 then 0 else (hd1 s.l).1
def RS.ends (s:RS):Int:=if s.bad=true\/0<s.l.length then 4 else 0
def jm (B g:Nat)(v:Value)(s:RS)(W:World)(e:Ending)(w':World):Prop:=e=.returned v/\RdS B g s w'/\W.grownBy w' (some g)
theorem IV(B g:Nat)(s:RS)(t:UInt8)(W:World)(hr:RdS B g s W)(hl:s.l.length<=100000000):Calls Tryz.prog 194 #[.pointer (some ⟨g,0,none⟩),.int .u8 (t.toNat:Int)] W fun e w'=>
  ∃ao cap,e=.returned (.slice ao (s.bytes t).1.length cap)/\Rd w' 1 ao (s.bytes t).1.length cap (byV (s.bytes t).1)/\RdS B g (s.bytes t).2 w'/\W.grownBy w' (some g):=by
 have hc:=take_any B g s t W hr hl;unfold jK at hc;unfold RS.bytes;generalize s.take t=tk at *;obtain⟨ox,s'⟩:=tk;cases ox with
 | none=>
  go_in;go_wp2_with fail;refine hc.mono ?_;rintro e w' ⟨h1,h2,rfl⟩;go_wp2;go_ret;exact⟨none,0,rfl,Rd.nil _ _,h1,h2⟩
 | some x=>
  go_in;go_wp2_with fail;refine hc.mono ?_;rintro e w' ⟨h1,h2,ao,cap,rfl,h4,_⟩;go_wp2;go_ret;exact⟨ao,cap,rfl,h4,h1,h2⟩
theorem jT(B g:Nat)(s:RS)(t:UInt8)(W:World)(hr:RdS B g s W)(hl:s.l.length<=100000000):Calls Tryz.prog 238 #[.pointer (some ⟨g,0,none⟩),.int .u8 (t.toNat:Int)] W
  (jm B g (.string ⟨(s.bytes t).1.toArray⟩) (s.bytes t).2 W):=by
 have hc:=IV B g s t W hr hl;generalize s.bytes t=r at *;go_in;go_wp2_with fail;refine hc.mono ?_;rintro e w' ⟨ao,cap,rfl,h1,h2,h3⟩;have hs:=jc ao _ cap _ w' h1;go_wp2;go_ret;exact⟨rfl,h2,h3⟩
theorem Oo(B g:Nat)(s:RS)(W:World)(hr:RdS B g s W)(hl:s.l.length<=100000000):Calls Tryz.prog 113 #[.pointer (some ⟨g,0,none⟩)] W fun e w'=>e=.returned (.int .u8 (s.tag.toNat:Int))/\Below W.heap.size W w':=by
 have hth:=jU B g s W hr;obtain⟨ao,cap,hr⟩:=hr;obtain⟨l,bad⟩:=s;cases bad with
 | true=>
  go_in;go_wp2_with fail;refine hth.mono ?_;rintro e w' ⟨rfl,rfl⟩;go_wp2;go_ret;exact⟨rfl,yaj _ _⟩
 | false=>
  have hat:=hr.at_;dsimp only at hat hl hth;have c0:W.cell? ⟨g,0,none⟩=some (.slice ao l.length cap):=by simp[World.cell?,hat]
  go_in;go_wp2_with fail;refine hth.mono ?_;rintro e w' ⟨rfl,rfl⟩;go_wp2_with fail;refine (first_any ao l.length cap l _ hr.rd (by omega)).mono ?_;rintro e w1 ⟨hb1,⟨h0,rfl⟩ | ⟨h0,ao2,cap2,rfl,hr2,hbk⟩⟩
  ·have ht:RS.tag ⟨l,false⟩=0:=by unfold RS.tag;rw[if_neg (by simp),if_pos h0]
   go_wp2;go_ret;exact⟨by rw[ht];rfl,hb1⟩
  have ht:RS.tag ⟨l,false⟩=(hd1 l).1:=by unfold RS.tag;rw[if_neg (by simp),if_neg h0]
  go_wp2;go_ret;exact⟨by rw[ht];rfl,hb1⟩
theorem qB(B g:Nat)(s:RS)(W:World)(hr:RdS B g s W):Calls Tryz.prog 114 #[.pointer (some ⟨g,0,none⟩)] W fun e w'=>e=.returned (.int .i64 s.ends)/\W=w':=by
 obtain⟨ao,cap,hr⟩:=hr;obtain⟨l,bad⟩:=s;have hat:=hr.at_;dsimp only at hat;have c0:W.cell? ⟨g,0,none⟩=some (.slice ao l.length cap):=by simp[World.cell?,hat]
 have c1:W.cell? ⟨g,1,none⟩=some (.bool bad):=by simp[World.cell?,hat]
 have c2:W.cell? ⟨g,2,none⟩=some (.bool true):=by simp[World.cell?,hat]
 have hpe:∀(w:World),Sem.run Tryz.prog (binOp BinOp.eql 181 (.pointer (some ⟨g,0,none⟩)) (.pointer none)) w=.ok (.bool false) w:=fun _=>by kernel_rfl
 cases bad with
 | true=>
  go_in;go_wp2;go_ret;exact⟨rfl,rfl⟩
 | false=>
  by_cases h0:0<l.length
  ·have f0:decide ((0:Int)<(l.length:Int))=true:=yaa (by omega);have he:RS.ends ⟨l,false⟩=4:=if_pos (.inr h0);rw[he];go_in;go_wp2;go_ret;exact⟨rfl,rfl⟩
  have f0:decide ((0:Int)<(l.length:Int))=false:=yad (by omega);have he:RS.ends ⟨l,false⟩=0:=if_neg (by simp at h0 ⊢;exact h0);rw[he];go_in;go_wp2;go_ret;exact⟨rfl,rfl⟩
theorem pV(ao:Option Addr)(n cap:Nat)(l:List UInt8)(W:World)(hr:Rd W 1 ao n cap (byV l))(hn:n<=1000000000):Calls Tryz.prog 110 #[.slice ao n cap] W fun e w'=>
  ∃g,e=.returned (.pointer (some ⟨g,0,none⟩))/\RdS W.heap.size g ⟨l,false⟩ w'/\Below W.heap.size W w':=by
 go_in;go_wp2_with fail;refine (vW ao n cap l W hr hn).mono ?_;rintro e w1 ⟨v1,rfl,ho1,hb1⟩;obtain⟨ao1,cap1,rfl,hr1⟩:=Rd.of_own ho1;go_wp2;go_ret;have hb2:=bN w1 (.cells #[.slice ao1 l.length cap1,.bool false,.bool true] 237);refine⟨w1.heap.size,rfl,⟨ao1,cap1,?_,hb1.size,hr1.later hb2,(Ty8.of_own ho1).later hb2⟩,hb1.trans (hb2.mono hb1.size)⟩;show (w1.heap.push _)[w1.heap.size]?=some _;simp
theorem pW(B g:Nat)(s:RS)(t:UInt8)(W:World)(hr:RdS B g s W)(hl:s.l.length<=100000000):Calls Tryz.prog 148 #[.pointer (some ⟨g,0,none⟩),.int .u8 (t.toNat:Int)] W
  (jm B g (.int .u64 ((s.num t).1:Int)) (s.num t).2 W):=by
 have hc:=take_any B g s t W hr hl;unfold jK at hc;unfold RS.num;generalize s.take t=tk at *;obtain⟨ox,s'⟩:=tk;cases ox with
 | none=>
  go_in;go_wp2_with fail;refine hc.mono ?_;rintro e w' ⟨h1,h2,rfl⟩;go_wp2
  go_loop [7,27] (fun v p=>v=.int .u64 0/\p=.int .i64 0) (fun _ _=>0)
  case atStart=>exact⟨rfl,rfl⟩
  case round=>
   obtain⟨rfl,rfl⟩:=hrel;go_wp2;go_ret;exact⟨rfl,h1,h2⟩
 | some x=>
  dsimp only at hc ⊢;by_cases h8:x.length=8
  ·have hc2:Calls Tryz.prog 180 #[.pointer (some ⟨g,0,none⟩),.int .u8 (t.toNat:Int)] W fun e w'=>∃b o cap,e=.returned (.tuple #[.slice (some ⟨b,o,none⟩) 8 cap,.bool true])/\(∀k,k<8->w'.cell? ⟨b,o+k,none⟩=some (.int .u8 ((x[k]?.getD 0).toNat:Int)))/\RdS B g s' w'/\W.grownBy w' (some g):=by
    refine hc.mono ?_;rintro e w' ⟨h1,h2,ao,cap,rfl,h4,_⟩;have hle:=h4.le;obtain⟨b,o,rfl,_,hcc⟩:=h4.some (by omega);exact⟨b,o,cap,by rw[h8],fun k hk=>hcc k _ (iG x k (by omega)),h1,h2⟩
   rw[if_pos h8];have hk:=pF x;have hv:∀k:Nat,Hid ((x[k]?.getD 0).toNat<256):=fun k=>ybo _;have hsx:∀k:Nat,Hid (jG x (k+1)=jG x k*256+(x[k]?.getD 0).toNat):=fun k=>rfl;clear hc h8;go_in;go_wp2_with fail;refine hc2.mono ?_;rintro e w' ⟨b,o,cap,rfl,hcell,h1,h2⟩;have Hcell:=Lib.hid hcell;have Hk:=Lib.hid hk;clear hcell hk;go_wp2
   go_loop [7,27] (fun v p=>∃k:Nat,k<=8/\v=.int .u64 (jG x k:Int)/\p=.int .i64 (k:Int)) (fun _ p=>(8-intOf p).toNat)
   case atStart=>exact⟨0,by omega,rfl,rfl⟩
   case round=>
    obtain⟨k,hk8,rfl,rfl⟩:=hrel;by_cases hk9:k=8
    ·subst hk9;go_wp2;go_ret;exact⟨rfl,h1,h2⟩
    have hk7:k<8:=by omega
    have hc3:=Hcell.out k hk7;have hlt:=Hk.out k;have hpow:256 ^ k<=256 ^ 7:=Nat.pow_le_pow_right (by decide) (by omega);have hv1:=(hv k).out;have hs1:=(hsx k).out;have Hs1:=Lib.hid hs1;clear hs1;generalize jG x k=q at *;generalize (x[k]?.getD 0).toNat=c at *;have hq7:q<72057594037927936:=yaz hlt hpow;clear hlt hpow;have j0:IntKind.u64.wrap ((q:Int)*256)=(q:Int)*256:=by rw[ycC]<;>omega
    have j1:bits BinOp.or IntKind.u64 ((q:Int)*256) (c:Int)=(q:Int)*256+(c:Int):=bits_join .u64 64 (by decide) (fun n h0 h1=>by rw[ycC]<;>omega) 8 _ _ (by omega) (by omega) (by omega) (by omega) (by omega) (by omega);go_wp2
    case roundEnd=>exact⟨⟨k+1,by omega,by rw[Hs1.out];go_num,by go_num⟩,by simp[intOf];omega⟩
  rw[if_neg h8];have f8:((x.length:Int) != 8)=true:=by simp;omega
  go_in;go_wp2_with fail;refine hc.mono ?_;rintro e w' ⟨⟨ao1,cap1,h1⟩,h2,ao,cap,rfl,_,_⟩;have hat:=h1.at_;have c1:w'.cell? ⟨g,1,none⟩=some (.bool s'.bad):=by simp[World.cell?,hat]
  have z1:w'.frozen? ⟨g,1,none⟩=false:=by simp[World.frozen?,hat]
  go_wp2;go_ret;exact⟨rfl,⟨ao1,cap1,h1.fail⟩,bi h2 (ak _ _ _ _)⟩
theorem yG(B g:Nat)(s:RS)(t:UInt8)(W:World)(hr:RdS B g s W)(hl:s.l.length<=100000000):Calls Tryz.prog 212 #[.pointer (some ⟨g,0,none⟩),.int .u8 (t.toNat:Int)] W
  (jm B g (.bool (s.flag t).1) (s.flag t).2 W):=by
 have hc:=take_any B g s t W hr hl;unfold jK at hc;unfold RS.flag;generalize s.take t=tk at *;obtain⟨ox,s'⟩:=tk;cases ox with
 | none=>
  go_in;go_wp2_with fail;refine hc.mono ?_;rintro e w' ⟨h1,h2,rfl⟩;go_wp2;go_ret;exact⟨rfl,h1,h2⟩
 | some x=>
  dsimp only at hc ⊢;by_cases h1l:x.length=1
  ·have hc2:Calls Tryz.prog 180 #[.pointer (some ⟨g,0,none⟩),.int .u8 (t.toNat:Int)] W fun e w'=>∃b o cap,e=.returned (.tuple #[.slice (some ⟨b,o,none⟩) 1 cap,.bool true])/\w'.cell? ⟨b,o,none⟩=some (.int .u8 ((x[0]?.getD 0).toNat:Int))/\RdS B g s' w'/\W.grownBy w' (some g):=by
    refine hc.mono ?_;rintro e w' ⟨h1,h2,ao,cap,rfl,h4,_⟩;have hle:=h4.le;obtain⟨b,o,rfl,_,hcc⟩:=h4.some (by omega);exact⟨b,o,cap,by rw[h1l],hcc 0 _ (iG x 0 (by omega)),h1,h2⟩
   by_cases hx:(x[0]?.getD 0).toNat<=1
   ·rw[if_pos ⟨h1l,hx⟩];clear hc h1l;generalize (x[0]?.getD 0).toNat=c at *;have f1:decide ((1:Int)<(c:Int))=false:=yad (by omega);have f2:((c:Int)==1)=decide (c=1):=by rw[ybk];simp;omega
    have F2:=Lib.hid f2;clear f2;go_in;go_wp2_with fail;refine hc2.mono ?_;rintro e w' ⟨b,o,cap,rfl,hcell,h1,h2⟩;go_wp2;go_ret;refine⟨?_,h1,h2⟩;rw[<-F2.out];rfl
   rw[if_neg (fun h=>hx h.2)];clear hc h1l;generalize (x[0]?.getD 0).toNat=c at *;have f1:decide ((1:Int)<(c:Int))=true:=yaa (by omega);go_in;go_wp2_with fail;refine hc2.mono ?_;rintro e w' ⟨b,o,cap,rfl,hcell,⟨ao1,cap1,h1⟩,h2⟩;have hat:=h1.at_;have c1:w'.cell? ⟨g,1,none⟩=some (.bool s'.bad):=by simp[World.cell?,hat]
   have z1:w'.frozen? ⟨g,1,none⟩=false:=by simp[World.frozen?,hat]
   go_wp2;go_ret;exact⟨rfl,⟨ao1,cap1,h1.fail⟩,bi h2 (ak _ _ _ _)⟩
  rw[if_neg (fun h=>h1l h.1)];have f8:((x.length:Int) != 1)=true:=by simp;omega
  go_in;go_wp2_with fail;refine hc.mono ?_;rintro e w' ⟨⟨ao1,cap1,h1⟩,h2,ao,cap,rfl,_,_⟩;have hat:=h1.at_;have c1:w'.cell? ⟨g,1,none⟩=some (.bool s'.bad):=by simp[World.cell?,hat]
  have z1:w'.frozen? ⟨g,1,none⟩=false:=by simp[World.frozen?,hat]
  go_wp2;go_ret;exact⟨rfl,⟨ao1,cap1,h1.fail⟩,bi h2 (ak _ _ _ _)⟩
end Tlv
namespace Tlv
variable{b:List UInt8}{s s':RS}{t:UInt8}
theorem iO(n:Nat)(x:UInt8)(h:n % 256=x.toNat):UInt8.ofNat n=x:=by
 apply ybw.1;rw[yaT];exact h
theorem Aq(l:List UInt8)(h:fs l≠0):l=val (hd1 l).1 (hd1 l).2++l.drop (fs l)/\0<(hd1 l).1.toNat/\(hd1 l).2.length<=4194304:=by
 have hc:¬(l.length<5\/l[0]?.getD 0=0\/4194304<ln l\/l.length-5<ln l):=fun hh=>h (zq hh);have hf:=zh hc;have hl:=pK l h;have hle:=lq l;have h0:¬l[0]?.getD 0=0:=fun e=>hc (.inr (.inl e));have hq:¬4194304<ln l:=fun e=>hc (.inr (.inr (.inl e)))
 match l,hle,hc with
 | a::b::c::d::e::r,hle,hc=>
  have hln:ln (a::b::c::d::e::r)=16777216*b.toNat+65536*c.toNat+256*d.toNat+e.toNat:=rfl;have hb:=b.toNat_lt;have hcc:=c.toNat_lt;have hd:=d.toNat_lt;have he:=e.toNat_lt;have hx:(hd1 (a::b::c::d::e::r)).2=r.take (ln (a::b::c::d::e::r)):=by
   show ((a::b::c::d::e::r).drop 5).take (fs _-5)=_;rw[hf,show 5+ln (a::b::c::d::e::r)-5=ln (a::b::c::d::e::r) by omega];rfl
  have hn:(hd1 (a::b::c::d::e::r)).2.length=ln (a::b::c::d::e::r):=by omega
  refine⟨?_,?_,by omega⟩
  ·have hdr:(a::b::c::d::e::r).drop (fs (a::b::c::d::e::r))=r.drop (ln (a::b::c::d::e::r)):=by rw[hf,Nat.add_comm];rfl
   rw[hdr];unfold val;rw[hn,hx];generalize hqq:ln (a::b::c::d::e::r)=q at *;rw[iO (q / 16777216) b (by omega),iO (q / 65536) c (by omega),iO (q / 256) d (by omega),iO q e (by omega)];show _=[a,b,c,d,e]++List.take q r++List.drop q r;rw[yav,ybf];rfl
  have:(hd1 (a::b::c::d::e::r)).1=a:=rfl;rw[this];have h1:¬a=0:=h0;have:¬a.toNat=0:=fun e=>h1 (ybw.1 e);omega
 | [],_,hc=>exact absurd (.inl (by simp)) hc
 | [_],_,hc=>exact absurd (.inl (by simp)) hc
 | [_,_],_,hc=>exact absurd (.inl (by simp)) hc
 | [_,_,_],_,hc=>exact absurd (.inl (by simp)) hc
 | [_,_,_,_],_,hc=>exact absurd (.inl (by simp)) hc
theorem xQ(t:UInt8)(b rest:List UInt8)(ht:0<t.toNat)(hb:b.length<=4194304):RS.take ⟨val t b++rest,false⟩ t=(some b,⟨rest,false⟩):=by
 have hh:=A8 t b rest ht hb;have hf:=yI t b rest ht hb;unfold RS.take;rw[if_neg (by simp),if_pos ⟨by dsimp only;omega,by dsimp only;rw[hh]⟩];dsimp only;rw[hh,hf,<-ae t b];simp
theorem dW{x:List UInt8}(h:s.take t=(some x,s')):s.bad=false/\s'.bad=false/\s.l=val t x++s'.l/\x.length<=4194304/\0<t.toNat:=by
 unfold RS.take at h;split at h
 ·cases h
 rename_i hb;split at h
 ·rename_i h2;have e1:=yaf (congrArg Prod.fst h);have e2:=congrArg Prod.snd h;dsimp only at e1 e2;obtain⟨h3,h4,h5⟩:=Aq s.l h2.1;subst e1 e2;refine⟨by simpa using hb,rfl,?_,h5,by rw[<-h2.2];exact h4⟩;rw[h2.2] at h3;exact h3
 cases h
theorem vS(h:s.take t=(none,s')):s'.bad=true:=by
 unfold RS.take at h;split at h
 ·rename_i hb;have:=congrArg Prod.snd h;dsimp only at this;rw[<-this];exact hb
 split at h
 ·cases h
 have:=congrArg Prod.snd h;dsimp only at this;rw[<-this]
theorem kP(n k:Nat)(hk:k<8):((au n)[k]?.getD 0).toNat=n / 256 ^ (7-k) % 256:=by
 simp[au,ybh,yci hk,yaT]
theorem rD(n:Nat)(hn:n<18446744073709551616):jG (au n) 8=n:=by
 have h0:=kP n 0 (by omega);have h1:=kP n 1 (by omega);have h2:=kP n 2 (by omega);have h3:=kP n 3 (by omega);have h4:=kP n 4 (by omega);have h5:=kP n 5 (by omega);have h6:=kP n 6 (by omega);have h7:=kP n 7 (by omega);simp only[jG,h0,h1,h2,h3,h4,h5,h6,h7];omega
theorem Kz(b:List UInt8)(hb:b.length=8):au (jG b 8)=b:=by
 match b,hb with
 | [b0,b1,b2,b3,b4,b5,b6,b7],_=>
  have t0:=b0.toNat_lt;have t1:=b1.toNat_lt;have t2:=b2.toNat_lt;have t3:=b3.toNat_lt;have t4:=b4.toNat_lt;have t5:=b5.toNat_lt;have t6:=b6.toNat_lt;have t7:=b7.toNat_lt;have hq:jG [b0,b1,b2,b3,b4,b5,b6,b7] 8=((((((b0.toNat*256+b1.toNat)*256+b2.toNat)*256+b3.toNat)*256+b4.toNat)*256+b5.toNat)*256+b6.toNat)*256+b7.toNat:=by
   simp only[jG];simp
  rw[hq];generalize hqq:((((((b0.toNat*256+b1.toNat)*256+b2.toNat)*256+b3.toNat)*256+b4.toNat)*256+b5.toNat)*256+b6.toNat)*256+b7.toNat=q;show [UInt8.ofNat (q / 256 ^ (7-0)),UInt8.ofNat (q / 256 ^ (7-1)),UInt8.ofNat (q / 256 ^ (7-2)),UInt8.ofNat (q / 256 ^ (7-3)),UInt8.ofNat (q / 256 ^ (7-4)),UInt8.ofNat (q / 256 ^ (7-5)),UInt8.ofNat (q / 256 ^ (7-6)),UInt8.ofNat (q / 256 ^ (7-7))]=_;rw[iO _ b0 (by omega),iO _ b1 (by omega),iO _ b2 (by omega),iO _ b3 (by omega),iO _ b4 (by omega),iO _ b5 (by omega),iO _ b6 (by omega),iO _ b7 (by omega)]
theorem MQ(h:s.take t=(none,s')):s.num t=(0,s'):=by unfold RS.num;rw[h]
theorem Jq(h:s.take t=(some b,s'))(hb:b.length=8):s.num t=(jG b 8,s'):=by unfold RS.num;rw[h];exact if_pos hb
theorem P8(h:s.take t=(some b,s'))(hb:¬b.length=8):s.num t=(0,⟨s'.l,true⟩):=by unfold RS.num;rw[h];exact if_neg hb
theorem Kw(h:s.take t=(none,s')):s.flag t=(false,s'):=by unfold RS.flag;rw[h]
theorem NH(h:s.take t=(some b,s'))(hb:b.length=1/\(b[0]?.getD 0).toNat<=1):s.flag t=(decide ((b[0]?.getD 0).toNat=1),s'):=by unfold RS.flag;rw[h];exact if_pos hb
theorem MW(h:s.take t=(some b,s'))(hb:¬(b.length=1/\(b[0]?.getD 0).toNat<=1)):s.flag t=(false,⟨s'.l,true⟩):=by unfold RS.flag;rw[h];exact if_neg hb
theorem az{a r r':List UInt8}(ht:0<t.toNat)(ha:a.length<=4194304)(hb:b.length<=4194304)(h:val t a++r=val t b++r'):a=b/\r=r':=by
 have h1:=xQ t a r ht ha;have h2:=xQ t b r' ht hb;rw[h,h2] at h1;have e1:=yaf (congrArg Prod.fst h1);have e2:=congrArg RS.l (congrArg Prod.snd h1);exact⟨e1.symm,e2.symm⟩
structure Took {α:Type}(body:α->List UInt8)(may good:α->Prop)(s:RS)(y:α)(s':RS):Prop where
 yes:s'.bad=false->s.bad=false/\s.l=body y++s'.l/\good y
 no:s'.bad=true->s.bad=true\/∀z rest,may z->s.l≠body z++rest
 le:s'.l.length<=s.l.length
theorem jy(s:RS)(t:UInt8)(ht:0<t.toNat):(∃x rest,s.take t=(some x,⟨rest,false⟩)/\s.bad=false/\s.l=val t x++rest/\x.length<=4194304) \/
  (∃s',s.take t=(none,s')/\s'.bad=true/\s'.l=s.l/\(s.bad=true\/∀(z rest:List UInt8),z.length<=4194304->s.l≠val t z++rest)):=by
 cases h:s.take t with
 | mk ox s'=>
  cases ox with
  | some x=>
   obtain⟨h1,h2,h3,h4,_⟩:=dW h;obtain⟨l,b⟩:=s';dsimp only at h2 h3;subst h2;exact .inl ⟨x,l,rfl,h1,h3,h4⟩
  | none=>
   refine .inr ⟨s',rfl,vS h,?_,?_⟩
   ·unfold RS.take at h;split at h
    ·have:=congrArg Prod.snd h;dsimp only at this;rw[<-this]
    split at h
    ·cases h
    have:=congrArg Prod.snd h;dsimp only at this;rw[<-this]
   cases hb:s.bad with
   | true=>exact .inl rfl
   | false=>
    refine .inr fun z rest hz e=>?_;obtain⟨l,b⟩:=s;dsimp only at hb e;subst hb e;rw[xQ t z rest ht hz] at h;cases h
theorem gW(t:UInt8)(b r:List UInt8):r.length<=(val t b++r).length:=by rw[yab];omega
theorem bC(s:RS)(t:UInt8)(ht:0<t.toNat):Took (val t) (fun z=>z.length<=4194304) (fun z=>z.length<=4194304) s (s.bytes t).1 (s.bytes t).2:=by
 unfold RS.bytes;rcases jy s t ht with ⟨x,rest,h,h1,h2,h3⟩ | ⟨s',h,h1,h2,h3⟩
 ·rw[h];exact⟨fun _=>⟨h1,h2,h3⟩,fun e=>(by cases e),(by rw[h2];exact gW _ _ _)⟩
 rw[h];exact⟨fun e=>(by rw[show s'.bad=true from h1] at e;cases e),fun _=>h3,yaR (congrArg List.length h2)⟩
theorem iL(s:RS)(t:UInt8)(ht:0<t.toNat):Took (fun n:Nat=>val t (au n)) (fun n=>n<18446744073709551616) (fun n=>n<18446744073709551616) s (s.num t).1 (s.num t).2:=by
 rcases jy s t ht with ⟨x,rest,h,h1,h2,h3⟩ | ⟨s',h,h1,h2,h3⟩
 ·by_cases h8:x.length=8
  ·rw[Jq h h8];refine⟨fun _=>⟨h1,?_,pF x 8⟩,fun e=>(by cases e),?_⟩
   ·dsimp only;rw[Kz x h8];exact h2
   rw[h2];exact gW _ _ _
  rw[P8 h h8];refine⟨fun e=>(by cases e),fun _=>.inr fun z r hz e=>?_,?_⟩
  ·rw[h2] at e;have:=(az ht h3 (by rw[ai];omega) e).1;rw[this,ai] at h8;exact h8 rfl
  rw[h2];exact gW _ _ _
 rw[MQ h];exact⟨fun e=>(by rw[show s'.bad=true from h1] at e;cases e),fun _=>h3.imp id (fun h z r _=>h _ r (by rw[ai];omega)),yaR (congrArg List.length h2)⟩
theorem qJ(s:RS)(t:UInt8)(ht:0<t.toNat):Took (fun b:Bool=>val t [if b then 1 else 0]) (fun _=>True) (fun _=>True) s (s.flag t).1 (s.flag t).2:=by
 rcases jy s t ht with ⟨x,rest,h,h1,h2,h3⟩ | ⟨s',h,h1,h2,h3⟩
 ·by_cases h8:x.length=1/\(x[0]?.getD 0).toNat<=1
  ·rw[NH h h8];refine⟨fun _=>⟨h1,?_,trivial⟩,fun e=>(by cases e),?_⟩
   ·dsimp only;rw[h2]
    congr 2
    obtain⟨h8,h9⟩:=h8
    match x,h8,h9 with
    | [a],_,h9=>
     have h9:a.toNat<=1:=h9;show [a]=[if decide (a.toNat=1)=true then 1 else 0];by_cases ha:a.toNat=1
     ·rw[yaa ha,if_pos rfl,show a=1 from ybw.1 ha]
     rw[yad ha,if_neg (by decide),show a=0 from ybw.1 (by show a.toNat=0;omega)]
   rw[h2];exact gW _ _ _
  rw[MW h h8];refine⟨fun e=>(by cases e),fun _=>.inr fun z r _ e=>?_,?_⟩
  ·rw[h2] at e;have:=(az ht h3 (by simp) e).1;rw[this] at h8;exact h8 (by cases z<;>simp)
  rw[h2];exact gW _ _ _
 rw[Kw h];exact⟨fun e=>(by rw[show s'.bad=true from h1] at e;cases e),fun _=>h3.imp id (fun h z r _=>h _ r (by simp)),yaR (congrArg List.length h2)⟩
end Tlv
namespace Msg
open Go.RowKit Go.Lib Mem Tlv
variable{W W':World}{b ls more r:List UInt8}{c c':OC}{n:Nat}{s:RS}{v v':OV}{x:UInt8}
def wQ (b:List UInt8):Prop:=∀W v c,OpAt W v c->aA v c=true->opL v c≠b
def tg (l:UInt8):UInt8:=if l=110 then 2 else if l=116 then 3 else if l=97 then 4 else if l=112 then 5 else if l=99 then 6 else 7
def bd (v:OV)(c:OC)(l:UInt8):List UInt8:=
 if l=110 then v.name.data.toList else if l=116 then v.to.data.toList else if l=97 then aI c.attrs else if l=112 then bT c.parts else if l=99 then c.cursor else au v.n.toNat
theorem SG(l:UInt8):0<(tg l).toNat:=by
 unfold tg
 repeat' split
 all_goals decide
theorem xm(v:OV)(c:OC)(l:UInt8):dV v c l=val (tg l) (bd v c l):=by
 unfold dV tg bd
 repeat' split
 all_goals rfl
theorem O7(v:OV)(c:OC)(l:UInt8):(dV v c l).length=5+(bd v c l).length:=by rw[xm,ae]
theorem strip{f g:UInt8->List UInt8}{r':List UInt8}:∀(ls:List UInt8),(∀l∈ls,(f l).length<=4194304/\(g l).length<=4194304) ->
  ls.flatMap (fun l=>val (tg l) (f l))++r=ls.flatMap (fun l=>val (tg l) (g l))++r'->(∀l∈ls,f l=g l)/\r=r'
 | [],_,h=>⟨fun _ h=>absurd h yal,h⟩
 | l::ls,hl,h=>by
  rw[yaH,yaH,yav,yav] at h;obtain⟨h1,h2⟩:=az (SG l) (hl l (by simp)).1 (hl l (by simp)).2 h;obtain⟨h3,h4⟩:=strip ls (fun x hx=>hl x (by simp[hx])) h2;refine⟨fun x hx=>?_,h4⟩;rcases yas.1 hx with rfl | hx
  ·exact h1
  exact h3 x hx
theorem dY(u:ByteArray×ByteArray)(x:List (ByteArray×ByteArray)):aI (u::x)=val 3 (val 1 u.1.data.toList++val 2 u.2.data.toList)++aI x:=rfl
theorem gQ(u:ByteArray)(x:List ByteArray):bT (u::x)=val 1 u.data.toList++bT x:=rfl
theorem mD{a b:ByteArray}(h:a.data.toList=b.data.toList):a=b:=by
 cases a;cases b;simpa using h
theorem nP:∀(x y:List (ByteArray×ByteArray)),(aI x).length<=4194304->(aI y).length<=4194304->aI x=aI y->x=y
 | [],[],_,_,_=>rfl
 | [],u::y,_,_,h=>by
  have:=congrArg List.length h;rw[dY,yab,ae] at this;have e0:(aI []).length=0:=rfl;omega
 | u::x,[],_,_,h=>by
  have:=congrArg List.length h;rw[dY,yab,ae] at this;have e0:(aI []).length=0:=rfl;omega
 | u::x,u'::y,hx,hy,h=>by
  rw[dY] at h hx hy;rw[dY] at h;rw[yab,ae] at hx hy;obtain⟨h1,h2⟩:=az (by decide) (by omega) (by omega) h;have hx1:=hx;have hy1:=hy;rw[yab,ae,ae] at hx1 hy1;obtain⟨h3,h4⟩:=az (t:=1) (by decide) (by omega) (by omega) h1;have h5:=(az (t:=2) (a:=u.2.data.toList) (b:=u'.2.data.toList) (r:=[]) (r':=[]) (by decide) (by omega) (by omega) (by rw[yaD,yaD];exact h4)).1;rw[nP x y (by omega) (by omega) h2,show u=u' from Prod.ext (mD h3) (mD h5)]
theorem Ed:∀(x y:List ByteArray),(bT x).length<=4194304->(bT y).length<=4194304->bT x=bT y->x=y
 | [],[],_,_,_=>rfl
 | [],u::y,_,_,h=>by
  have:=congrArg List.length h;rw[gQ,yab,ae] at this;have e0:(bT []).length=0:=rfl;omega
 | u::x,[],_,_,h=>by
  have:=congrArg List.length h;rw[gQ,yab,ae] at this;have e0:(bT []).length=0:=rfl;omega
 | u::x,u'::y,hx,hy,h=>by
  rw[gQ] at h hx hy;rw[gQ] at h;rw[yab,ae] at hx hy;obtain⟨h1,h2⟩:=az (by decide) (by omega) (by omega) h;rw[Ed x y (by omega) (by omega) h2,mD h1]
theorem iM{m:Nat}(hn:n<18446744073709551616)(hm:m<18446744073709551616)(h:au n=au m):n=m:=by
 rw[<-rD n hn,<-rD m hm,h]
def Gy (v:OV)(c:OC)(v':OV)(c':OC)(l:UInt8):Prop:=
 if l=110 then v.name=v'.name else if l=116 then v.to=v'.to else if l=97 then c.attrs=c'.attrs else if l=112 then c.parts=c'.parts else if l=99 then c.cursor=c'.cursor else v.n=v'.n
theorem KO{l:UInt8}(h1:(bd v c l).length<=4194304)(h2:(bd v' c' l).length<=4194304)(n0:0<=v.n)(n1:v.n<9223372036854775808)(m0:0<=v'.n)(m1:v'.n<9223372036854775808)(h:bd v c l=bd v' c' l):Gy v c v' c' l:=by
 unfold bd at h h1 h2;unfold Gy;split
 ·rename_i e;rw[if_pos e,if_pos e] at h;exact mD h
 rename_i e1;rw[if_neg e1] at h1 h2;rw[if_neg e1,if_neg e1] at h;split
 ·rename_i e;rw[if_pos e,if_pos e] at h;exact mD h
 rename_i e2;rw[if_neg e2] at h1 h2;rw[if_neg e2,if_neg e2] at h;split
 ·rename_i e;rw[if_pos e,if_pos e] at h;rw[if_pos e] at h1 h2;exact nP _ _ h1 h2 h
 rename_i e3;rw[if_neg e3] at h1 h2;rw[if_neg e3,if_neg e3] at h;split
 ·rename_i e;rw[if_pos e,if_pos e] at h;rw[if_pos e] at h1 h2;exact Ed _ _ h1 h2 h
 rename_i e4;rw[if_neg e4,if_neg e4] at h;split
 ·rename_i e;rw[if_pos e,if_pos e] at h;exact h
 rename_i e5;rw[if_neg e5,if_neg e5] at h;have:=iM (by omega) (by omega) h;omega
structure OnlyL (ls:List UInt8)(v:OV)(c:OC):Prop where
 name:110∉ls->v.name=⟨#[]⟩
 to_:116∉ls->v.to=⟨#[]⟩
 attrs:97∉ls->c.attrs=[]
 parts:112∉ls->c.parts=[]
 cursor:99∉ls->c.cursor=[]
 n:107∉ls->v.n=0
theorem OnlyL.of_may(h:aA v c=true):OnlyL (fieldsOf v.k) v c:=by
 unfold aA dX at h;simp only[yaq,yaG,ybz] at h;obtain⟨⟨⟨⟨⟨⟨h1,h2⟩,h3⟩,h4⟩,h5⟩,h6⟩,h7⟩:=h;unfold bg at h2;simp only[yaG] at h2;obtain⟨-,e2,e3,e4,e5,e6,e7⟩:=h2;refine⟨fun h=>?_,fun h=>?_,fun h=>?_,fun h=>?_,fun h=>?_,fun h=>?_⟩
 ·rw[e2];unfold bP;exact if_neg h
 ·rw[e3];unfold bP;exact if_neg h
 ·rw[e4];unfold iQ;exact if_neg h
 ·rw[e5];unfold iQ;exact if_neg h
 ·rw[e6];unfold iQ;exact if_neg h
 rw[e7];unfold bP;exact if_neg h
theorem BG(hk:v.k=v'.k)(h:OnlyL ls v c)(h':OnlyL ls v' c')(hs:∀l∈ls,Gy v c v' c' l):bg v c v' c'=true:=by
 refine MI ⟨hk,?_,?_,?_,?_,?_,?_⟩
 ·by_cases hm:110∈ls
  ·exact hs _ hm
  rw[h.name hm,h'.name hm]
 ·by_cases hm:116∈ls
  ·exact hs _ hm
  rw[h.to_ hm,h'.to_ hm]
 ·by_cases hm:97∈ls
  ·exact hs _ hm
  rw[h.attrs hm,h'.attrs hm]
 ·by_cases hm:112∈ls
  ·exact hs _ hm
  rw[h.parts hm,h'.parts hm]
 ·by_cases hm:99∈ls
  ·exact hs _ hm
  rw[h.cursor hm,h'.cursor hm]
 by_cases hm:107∈ls
 ·exact hs _ hm
 rw[h.n hm,h'.n hm]
theorem yM(h:aA v c=true):1<=v.k/\v.k<=8:=by
 unfold aA dX at h;simp only[yaq,yaG,ybz] at h;have h1:=h.1.1.1.1.1.1;rcases nN v.k with hf | ⟨hk,hf⟩ | ⟨hk,hf⟩ | ⟨hk,hf⟩ | ⟨hk,hf⟩ | ⟨hk,hf⟩ | ⟨hk,hf⟩ | ⟨hk,hf⟩ | ⟨hk,hf⟩
 ·exact absurd hf h1
 all_goals omega
theorem sN(ho:OpAt W v c)(h:aA v c=true):(∀l,(bd v c l).length<=200000)/\0<=v.n/\v.n<=1000:=by
 obtain⟨h1,h2,h3⟩:=mM W ho h;exact⟨fun l=>by have:=h3 l;rw[O7] at this;omega,h1.n0,h1.n1⟩
theorem pJ(v:OV)(c:OC)(ls:List UInt8):iK v c ls=val 1 (au v.k.toNat)++ls.flatMap (fun l=>val (tg l) (bd v c l)):=by
 unfold iK;rw[show dV v c=fun l=>val (tg l) (bd v c l) from funext (xm v c)]
theorem front(hk0:0<=v.k)(hk1:v.k<9223372036854775808)(hg:∀l∈ls,(bd v c l).length<=4194304)(ho:OpAt W v' c')(hm:aA v' c'=true)(hf:fieldsOf v.k=ls++more)
  (h:opL v' c'=iK v c ls++r):v.k=v'.k/\(∀l∈ls,bd v c l=bd v' c' l)/\r=more.flatMap (fun l=>val (tg l) (bd v' c' l)):=by
 obtain⟨hb,hn0,hn1⟩:=sN ho hm;have hk:=yM hm;unfold opL at h;rw[pJ,pJ,yav] at h;obtain⟨h1,h2⟩:=az (by decide) (by rw[ai];omega) (by rw[ai];omega) h;have h3:=iM (by omega) (by omega) h1;have h4:v.k=v'.k:=by omega
 rw[<-h4,hf,ybV] at h2;obtain⟨h5,h6⟩:=strip (f:=bd v' c') (g:=bd v c) ls (fun l hl=>⟨by have:=hb l;omega,hg l hl⟩) h2;exact⟨h4,fun l hl=>(h5 l hl).symm,h6.symm⟩
structure Part (b:List UInt8)(v:OV)(c:OC)(ls:List UInt8)(s:RS):Prop where
 k0:0<=v.k
 k1:v.k<9223372036854775808
 only:OnlyL ls v c
 n0:0<=v.n
 n1:v.n<9223372036854775808
 good:∀l∈ls,s.bad=false->(bd v c l).length<=4194304
 yes:s.bad=false->b=iK v c ls++s.l
 no:s.bad=true->wQ b
 le:s.l.length<=b.length
theorem Part.start(h:Took (fun n:Nat=>val 1 (au n)) (fun n=>n<18446744073709551616) (fun n=>n<18446744073709551616) ⟨b,false⟩ n s)(hn:n<=255) :
  Part b ⟨(n:Int),⟨#[]⟩,⟨#[]⟩,none,0,0,none,0,0,none,0,0,0⟩ ⟨[],[],[]⟩ [] s where
 k0:=by dsimp only;omega
 k1:=by dsimp only;omega
 only:=⟨fun _=>rfl,fun _=>rfl,fun _=>rfl,fun _=>rfl,fun _=>rfl,fun _=>rfl⟩
 n0:=by dsimp only;omega
 n1:=by dsimp only;omega
 good:=fun l hl=>absurd hl yal
 yes:=fun hb=>by
  have:=(h.yes hb).2.1;rw[pJ];simpa using this
 no:=fun hb=>by
  rcases h.no hb with h | h
  ·cases h
  intro W v c ho hm e;have hk:=yM hm;refine h v.k.toNat ((fieldsOf v.k).flatMap (dV v c)) (by omega) ?_;rw[<-e];rfl
 le:=h.le
theorem Part.noKind(h:Took (fun n:Nat=>val 1 (au n)) (fun n=>n<18446744073709551616) (fun n=>n<18446744073709551616) ⟨b,false⟩ n s)(hn:8<n\/n<1):wQ b:=by
 intro W v c ho hm e;have hk:=yM hm;cases hb:s.bad with
 | false=>
  obtain⟨_,h1,h2⟩:=h.yes hb;dsimp only at h1;rw[<-e] at h1;unfold opL iK at h1;obtain⟨h3,_⟩:=az (by decide) (by rw[ai];omega) (by rw[ai];omega) h1;have:=iM (by omega) h2 h3;omega
 | true=>
  rcases h.no hb with h | h
  ·cases h
  refine h v.k.toNat ((fieldsOf v.k).flatMap (dV v c)) (by omega) ?_;rw[<-e];rfl
theorem Part.step{s':RS}(h:Part b v c ls s)(hk:v'.k=v.k)(hf:fieldsOf v.k=ls++x::more)(heq:∀l∈ls,bd v' c' l=bd v c l)(honly:OnlyL (ls++[x]) v' c')
  (n0:0<=v'.n) (n1:v'.n<9223372036854775808) (hle:s'.l.length<=s.l.length)
  (hyes:s'.bad=false->s.bad=false/\s.l=dV v' c' x++s'.l/\(bd v' c' x).length<=4194304)
  (hno:s'.bad=true->s.bad=true\/∀W v2 c2 rest,OpAt W v2 c2->aA v2 c2=true->s.l≠dV v2 c2 x++rest):Part b v' c' (ls++[x]) s' where
 k0:=by rw[hk];exact h.k0
 k1:=by rw[hk];exact h.k1
 only:=honly
 n0:=n0
 n1:=n1
 good:=fun l hl hb=>by
  obtain⟨h1,h2,h3⟩:=hyes hb;rcases yaQ.1 hl with hl | hl
  ·rw[heq l hl];exact h.good l hl h1
  rw[yah.1 hl];exact h3
 yes:=fun hb=>by
  obtain⟨h1,h2,h3⟩:=hyes hb;rw[h.yes h1,h2,pJ,pJ,hk,ybV,yaH,ybn,yaD,xm];rw[show ls.flatMap (fun l=>val (tg l) (bd v' c' l))=ls.flatMap (fun l=>val (tg l) (bd v c l)) from by
   rw[ycl,ycl]
   congr 1
   exact ycE (fun l hl=>by rw[heq l hl])]
  simp only[yav]
 no:=fun hb=>by
  rcases hno hb with h1 | h1
  ·exact h.no h1
  intro W v2 c2 ho hm e;cases hs:s.bad with
  | true=>exact h.no hs W v2 c2 ho hm e
  | false=>
   have h2:=h.yes hs;obtain⟨_,_,h5⟩:=front h.k0 h.k1 (fun l hl=>h.good l hl hs) ho hm hf (e.trans h2);refine h1 W v2 c2 (more.flatMap (fun l=>val (tg l) (bd v2 c2 l))) ho hm ?_;rw[h5,yaH,xm]
 le:=yae hle h.le
theorem Part.done(h:Part b v c (fieldsOf v.k) s)(hb:s.bad=false)(hl:s.l=[]):opL v c=b:=by
 have:=h.yes hb;rw[hl,yaD] at this;exact this.symm
theorem Part.left(h:Part b v c (fieldsOf v.k) s)(hl:s.bad=true\/0<s.l.length):wQ b:=by
 cases hb:s.bad with
 | true=>exact h.no hb
 | false=>
  intro W v2 c2 ho hm e;have h2:=h.yes hb;obtain⟨_,_,h5⟩:=front (more:=[]) h.k0 h.k1 (fun l hl=>h.good l hl hb) ho hm (by simp) (e.trans h2);rcases hl with hl | hl
  ·rw[hb] at hl;cases hl
  rw[h5] at hl;simp at hl
theorem EF(ho:OpAt W v c)(ho':OpAt W' v' c')(h:bg v c v' c'=true):aA v c=aA v' c':=by
 have la:c.attrs.length=v.an:=by have:=ho.a.1;rw[fG] at this;omega
 have lb:c.parts.length=v.bn:=by have:=ho.b.1;rw[ig] at this;omega
 have lc:c.cursor.length=v.cn:=by have:=ho.c.1;rw[aV] at this;omega
 have la':c'.attrs.length=v'.an:=by have:=ho'.a.1;rw[fG] at this;omega
 have lb':c'.parts.length=v'.bn:=by have:=ho'.b.1;rw[ig] at this;omega
 have lc':c'.cursor.length=v'.cn:=by have:=ho'.c.1;rw[aV] at this;omega
 unfold bg at h;simp only[yaG] at h;obtain⟨e1,e2,e3,e4,e5,e6,e7⟩:=h;unfold aA dX oD bg bP iQ;rw[<-la,<-lb,<-lc,<-la',<-lb',<-lc'];simp only[e1,e2,e3,e4,e5,e6,e7]
theorem Part.notMay(h:Part b v c (fieldsOf v.k) s)(hb:s.bad=false)(hl:s.l=[])(ho:OpAt W v c)(hm:aA v c=false):wQ b:=by
 intro W2 v2 c2 ho2 hm2 e;have h2:=h.yes hb;rw[hl] at h2;obtain⟨h3,h4,_⟩:=front (more:=[]) h.k0 h.k1 (fun l hl=>h.good l hl hb) ho2 hm2 (by simp) (e.trans h2);obtain⟨hbd,m0,m1⟩:=sN ho2 hm2;have hs:bg v c v2 c2=true:=by
  refine BG h3 h.only (by rw[h3];exact OnlyL.of_may hm2) (fun l hl=>?_);exact KO (h.good l hl hb) (by have:=hbd l;omega) h.n0 h.n1 m0 (by omega) (h4 l hl)
 rw[EF ho ho2 hs,hm2] at hm;cases hm
theorem RQ(ho:OpAt W v c)(ho':OpAt W' v' c')(hm:aA v c=true)(hm':aA v' c'=true)(h:opL v c=opL v' c'):bg v c v' c'=true:=by
 have hk:=yM hm;obtain⟨hbd,n0,n1⟩:=sN ho hm;obtain⟨hbd',m0,m1⟩:=sN ho' hm';obtain⟨h3,h4,_⟩:=front (v:=v) (c:=c) (ls:=fieldsOf v.k) (more:=[]) (r:=[]) (by omega) (by omega) (fun l _=>by have:=hbd l;omega) ho' hm' (by simp) (by rw[<-h];unfold opL;simp);refine BG h3 (OnlyL.of_may hm) (by rw[h3];exact OnlyL.of_may hm') (fun l hl=>?_);exact KO (by have:=hbd l;omega) (by have:=hbd' l;omega) n0 (by omega) m0 (by omega) (h4 l hl)
theorem Dj{k:Int}{j:Nat}(h:(fieldsOf k)[j]?=some x):fieldsOf k=(fieldsOf k).take j++x::(fieldsOf k).drop (j+1)/\(fieldsOf k).take (j+1)=(fieldsOf k).take j++[x]/\x∉(fieldsOf k).take j:=by
 have hj:j<(fieldsOf k).length:=(yao.1 h).1;have hx:(fieldsOf k)[j]=x:=(yao.1 h).2;refine⟨?_,?_,?_⟩
 ·rw[<-hx,<-ycc hj,ybf]
 ·rw[yau hj,hx]
 rcases nN k with hf | ⟨_,hf⟩ | ⟨_,hf⟩ | ⟨_,hf⟩ | ⟨_,hf⟩ | ⟨_,hf⟩ | ⟨_,hf⟩ | ⟨_,hf⟩ | ⟨_,hf⟩
 all_goals
  rw[hf] at h ⊢;rcases j with _ | _ | _ | j<;>simp at h<;>subst h<;>decide
