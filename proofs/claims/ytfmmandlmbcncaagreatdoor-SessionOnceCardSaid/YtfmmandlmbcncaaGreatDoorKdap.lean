/-
  A part of the proof.
-/
import Derived.Test.YtfmmandlmbcncaaGreatDoorKdai
set_option maxHeartbeats 40000000
set_option maxRecDepth 100000
namespace Go.Proofs.YtfmmandlmbcncaaGreatDoor.Tlv
open Go.RowKit Mem
theorem N9 (w:World)(e:TypeId)(xs:List Value)(n:Nat)(hl:xs.length=n)(hm:n<=maxLen):(w.alloc (.cells xs.toArray e)).ownsRow w.heap.size e 1 (.slice (some ⟨w.heap.size,0,none⟩) n n) n xs:=
 ⟨by omega,.inr ⟨w.heap.size,n,xs.toArray,rfl,Nat.le_refl _,(by show (w.heap.push _)[w.heap.size]?=some _;simp),Nat.le_refl _,hm,by simp[hl],by rw[List.take_of_length_le (by simp[hl])]⟩⟩
theorem own_base {w:World}{B B' n size:Nat}{e:TypeId}{v:Value}{xs:List Value}(h:w.ownsRow B e size v n xs)(hB:B'<=B):w.ownsRow B' e size v n xs:=by
 refine⟨h.1,?_⟩;rcases h.2 with h2 | ⟨g,cap,cur,h1,h2,h3⟩
 ·exact .inl h2
 exact .inr ⟨g,cap,cur,h1,Nat.le_trans hB h2,h3⟩
theorem di (t:UInt8)(b:List UInt8)(ao:Option Addr)(n cap:Nat)(W:World)(hn:n<=4194304)(hr:Rd W 1 ao n cap (byV b)) :
  Calls Tryz.prog 84 #[.int .u8 (t.toNat:Int),.slice ao n cap] W (kz W (val t b)):=by
 have hbl:b.length=n:=by have:=hr.1;rw[aS] at this;omega
 have k63:5+n<=maxLen:=by unfold maxLen;omega
 have kby:(5+n)*1<=140737488355328:=by omega
 have hv:byV (val t b)=[.int .u8 (t.toNat:Int),.int .u8 ((n:Int) / 16777216),.int .u8 ((n:Int) / 65536 % 256),.int .u8 ((n:Int) / 256 % 256),.int .u8 ((n:Int) % 256)]++byV b:=by
  rw[yP t b n hbl hn,show (n:Int) / 65536 % 256=(n:Int) / 65536 from by omega]
 have hvl:=ae t b;rw[hbl] at hvl;have Hv:=Lib.hid hv;have Hvl:=Lib.hid hvl;clear hv hvl;have hb0:∀o,Below W.heap.size W (W.alloc o):=fun o=>(Below.refl _ W).alloc (Nat.le_refl _) _;have ho0:=N9 W 5 [.int .u8 (t.toNat:Int),.int .u8 ((n:Int) / 16777216),.int .u8 ((n:Int) / 65536 % 256),.int .u8 ((n:Int) / 256 % 256),.int .u8 ((n:Int) % 256)] 5 rfl (by decide);have hr1:=hr.later (hb0 (.cells [Value.int .u8 (t.toNat:Int),.int .u8 ((n:Int) / 16777216),.int .u8 ((n:Int) / 65536 % 256),.int .u8 ((n:Int) / 256 % 256),.int .u8 ((n:Int) % 256)].toArray 5));have hsz:W.heap.size<=(W.alloc (.cells [Value.int .u8 (t.toNat:Int),.int .u8 ((n:Int) / 16777216),.int .u8 ((n:Int) / 65536 % 256),.int .u8 ((n:Int) / 256 % 256),.int .u8 ((n:Int) % 256)].toArray 5)).heap.size:=by simp
 go_in;go_wp2_with (at_builtin;refine gz _ rfl (.tmp 25) (.tmp 26) 34 rfl W.heap.size 5 (.int .u8 0) 1 1 byT _ 5 _ rfl ho0 ao n cap (byV b) rfl hr1 (eP _) k63 kby hsz ?_;intro ao2 cap2 w2 ho2 hg2 hb2 _);go_ret;refine⟨_,rfl,?_,(hb0 _).trans hb2⟩;rw[Hvl.out,Hv.out];exact ho2
theorem GG (t:UInt8)(is:Bool)(W:World) :
  Calls Tryz.prog 88 #[.int .u8 (t.toNat:Int),.bool is] W (kz W (val t [if is then 1 else 0])):=by
 have hb:∀v,Below W.heap.size W (W.alloc (.cells #[v] 5)):=fun _=>(Below.refl _ W).alloc (Nat.le_refl _) _;have hc:∀x:UInt8,Calls Tryz.prog 84 #[.int .u8 (t.toNat:Int),.slice (some ⟨W.heap.size,0,none⟩) 1 1] (W.alloc (.cells #[.int .u8 (x.toNat:Int)] 5)) (kz W (val t [x])):=fun x=>
  (di t [x] _ 1 1 _ (by decide) (Rd.new W [.int .u8 (x.toNat:Int)] 5 (0,0) 1 1 rfl (by decide))).mono fun e w' h=>by
   obtain⟨v,rfl,h1,h2⟩:=h;exact⟨v,rfl,own_base h1 (hb _).size,(hb _).trans (h2.mono (hb _).size)⟩
 cases is with
 | true=>
  have hc1:=hc 1;go_in;go_wp2_with fail;refine hc1.mono ?_;rintro e w' ⟨v,rfl,h2⟩;go_wp2;go_ret;exact⟨v,rfl,h2⟩
 | false=>
  have hc1:=hc 0;go_in;go_wp2_with fail;refine hc1.mono ?_;rintro e w' ⟨v,rfl,h2⟩;go_wp2;go_ret;exact⟨v,rfl,h2⟩
theorem vF (t:UInt8)(n:Nat)(W:World)(hn:n<18446744073709551616) :
  Calls Tryz.prog 52 #[.int .u8 (t.toNat:Int),.int .u64 (n:Int)] W (kz W (val t (az n))):=by
 have hmk:(Instr.makeSlice 34 (.int .i64 8) (.int .i64 8)).run Tryz.prog W=.ok (.slice (some ⟨W.heap.size,0,none⟩) 8 8) (W.alloc (.cells (madeCells #[.int .u8 0] 8) 5)):=run_make_row' (P:=Tryz.prog) 34 5 (.int .u8 0) 1 rfl (by kernel_rfl) rfl .i64 .i64 8 (by decide) (by decide) W;have hrow0:=World.rowIs_made W (.int .u8 0) 8 5;have hb0:Below W.heap.size W (W.alloc (.cells (madeCells #[.int .u8 0] 8) 5)):=(Below.refl _ W).alloc (Nat.le_refl _) _;go_in;go_wp2_with fail;go_loopw [1,6] (fun q p wr=>∃k:Nat,k<=8/\q=.int .u64 ((n / 256 ^ k:Nat):Int)/\p=.int .i64 (7-(k:Int))/\wr.rowIs W.heap.size 5 8 (jk n k)/\Below W.heap.size W wr) (fun _ p _=>(intOf p+1).toNat)
 case atStart=>exact⟨0,by omega,by simp,rfl,hrow0.congr (fun i hi=>by simp only[jk];rw[if_neg (by omega)]),hb0⟩
 case round=>
  obtain⟨k,hk,rfl,rfl,hrow,hbr⟩:=hrel;by_cases hk8:k=8
  ·subst hk8;have hown:wr.ownsRow W.heap.size 5 1 (.slice (some ⟨W.heap.size,0,none⟩) 8 8) 8 (byV (az n)):=hrow.own (by decide) rfl (by intro j hj;simp[jk,az,byV,List.getElem?_map,List.getElem?_range hj,UInt8.toNat_ofNat']);go_wp2_with fail;refine (di t (az n) _ 8 8 wr (by decide) (Rd.of_own_slice hown)).mono ?_;rintro e w' ⟨v,rfl,h1,h2⟩;go_wp2;go_ret;exact⟨v,rfl,own_base h1 hbr.size,hbr.trans (h2.mono hbr.size)⟩
  have hk7:k<8:=by omega
  have hcell:=hrow.cell (i:=7-k) (by omega);have hfr:=hrow.frozen (7-k);have f0:decide ((0:Int)<=7-(k:Int))=true:=decide_eq_true (by omega);have i0:(0:Int)<=7-(k:Int):=by omega
  have i1:7-(k:Int)<8:=by omega
  have hqn:n / 256 ^ k<=n:=Nat.div_le_self _ _;have hcl:((n / 256 ^ k:Nat):Int) % 256=((n / 256 ^ (7-(7-k)) % 256:Nat):Int):=by rw[show 7-(7-k)=k by omega];simp
  have hcs:((n / 256 ^ k:Nat):Int) / 256=((n / 256 ^ (k+1):Nat):Int):=by rw[Nat.pow_succ,<-Nat.div_div_eq_div_mul];simp
  have Hcl:=Lib.hid hcl;have Hcs:=Lib.hid hcs;clear hcl hcs;generalize hq:n / 256 ^ k=q at *;clear hq;have hu:IntKind.u64.wrap ((q:Int) / 256)=(q:Int) / 256:=by rw[IntWalk.u64_in]<;>omega
  go_wp2_with fail
  case roundEnd=>
   have hs:=hrow.set (7-k) (.int .u8 ((q:Int) % 256));refine⟨⟨k+1,by omega,by rw[Hcs.out],by congr 1;omega,hs.congr ?_,hbr.setCell (Nat.le_refl _) _⟩,by simp[intOf];omega⟩;intro j hj;by_cases hjk:j=7-k
   ·subst hjk;rw[if_pos rfl];unfold jk;rw[if_pos (by omega),Hcl.out]
   simp only[jk,if_neg hjk];by_cases h8:8<=j+k
   ·rw[if_pos h8,if_pos (by omega)]
   rw[if_neg h8,if_neg (by omega)]
structure RS where
 l:List UInt8
 bad:Bool
def Ty8 (W:World)(ao:Option Addr)(cap:Nat):Prop:=0<cap->∀a,ao=some a->∃c fr,W.heap[a.block]?=some (.cells c 5 fr)
theorem ai (W:World)(b i:Nat)(u:Value):W.grownBy (W.setCell ⟨b,i,none⟩ u) (some b):=
 ⟨rfl,rfl,rfl,by simp,fun k _ hk=>Below.heap_setCell W ⟨b,i,none⟩ u k (fun e=>hk (by rw[e]))⟩
theorem Ty8.ne {W:World}{ao:Option Addr}{cap g:Nat}{o:Obj}(h:Ty8 W ao cap)(hg:W.heap[g]?=some o)(ho:∀c fr,o≠.cells c 5 fr):0<cap->∀a,ao=some a->a.block≠g:=by
 rintro h0 a ha rfl;obtain⟨c,fr,h1⟩:=h h0 a ha;rw[h1] at hg;exact ho c fr (Option.some.inj hg).symm
theorem Ty8.grown {W W':World}{ao:Option Addr}{cap:Nat}{row:Option Nat}(h:Ty8 W ao cap)(hg:W.grownBy W' row)(hd:0<cap->∀a,ao=some a->some a.block≠row):Ty8 W' ao cap:=fun h0 a ha=>by
 obtain⟨c,fr,h1⟩:=h h0 a ha;exact⟨c,fr,(hg.block _ (Array.getElem?_eq_some_iff.1 h1).1 (hd h0 a ha)).trans h1⟩
theorem Ty8.later {W W':World}{ao:Option Addr}{cap:Nat}(h:Ty8 W ao cap)(hb:Below W.heap.size W W'):Ty8 W' ao cap:=fun h0 a ha=>by
 obtain⟨c,fr,h1⟩:=h h0 a ha;exact⟨c,fr,(hb.block _ (Array.getElem?_eq_some_iff.1 h1).1).trans h1⟩
theorem Ty8.of_own {W:World}{B n:Nat}{ao:Option Addr}{cap:Nat}{xs:List Value}(h:W.ownsRow B 5 1 (.slice ao n cap) n xs):Ty8 W ao cap:=by
 intro h0 a ha;subst ha;rcases h.2 with ⟨h1,_⟩ | ⟨g,c,cur,h1,_,h3,_⟩
 ·cases h1
 have:=(Value.slice.inj h1).1;cases this;exact⟨_,_,h3⟩
structure RdAt (B g:Nat)(s:RS)(ao:Option Addr)(cap:Nat)(W:World):Prop where
 at_:W.heap[g]?=some (.cells #[.slice ao s.l.length cap,.bool s.bad,.bool true] 237)
 le:B<=g
 rd:Rd W 1 ao s.l.length cap (byV s.l)
 ty:Ty8 W ao cap
def RdS (B g:Nat)(s:RS)(W:World):Prop:=∃ao cap,RdAt B g s ao cap W
theorem RdAt.ne {B g:Nat}{s:RS}{ao:Option Addr}{cap:Nat}{W:World}(h:RdAt B g s ao cap W):0<cap->∀a,ao=some a->a.block≠g:=h.ty.ne h.at_ (fun _ _ h=>by cases h)
theorem RdAt.lt {B g:Nat}{s:RS}{ao:Option Addr}{cap:Nat}{W:World}(h:RdAt B g s ao cap W):g<W.heap.size:=(Array.getElem?_eq_some_iff.1 h.at_).1
theorem RdAt.later {B g:Nat}{s:RS}{ao:Option Addr}{cap:Nat}{W W':World}(h:RdAt B g s ao cap W)(hb:Below W.heap.size W W'):RdAt B g s ao cap W':=⟨(hb.block g h.lt).trans h.at_,h.le,h.rd.later hb,h.ty.later hb⟩
theorem RdS.later {B g:Nat}{s:RS}{W W':World}(h:RdS B g s W)(hb:Below W.heap.size W W'):RdS B g s W':=by
 obtain⟨ao,cap,h⟩:=h;exact⟨ao,cap,h.later hb⟩
theorem RdAt.grown {B g:Nat}{s:RS}{ao:Option Addr}{cap:Nat}{W W':World}{row:Option Nat}(h:RdAt B g s ao cap W)(hg:W.grownBy W' row)(h1:some g≠row)(h2:0<cap->∀a,ao=some a->some a.block≠row):RdAt B g s ao cap W':=
 ⟨(hg.block g h.lt h1).trans h.at_,h.le,eU h.rd hg h2,h.ty.grown hg h2⟩
theorem RdS.grown {B g k:Nat}{s:RS}{W W':World}{o:Obj}(h:RdS B g s W)(hg:W.grownBy W' (some k))(hk:W.heap[k]?=some o)(ho:∀c fr,o≠.cells c 5 fr)(hgk:g≠k):RdS B g s W':=by
 obtain⟨ao,cap,h⟩:=h;exact⟨ao,cap,h.grown hg (fun e=>hgk (Option.some.inj e)) (fun h0 a ha e=>h.ty.ne hk ho h0 a ha (Option.some.inj e))⟩
theorem tq {W:World}{g i:Nat}{cs:Array Value}{t:TypeId}{fr:Nat×Nat}(h:W.heap[g]?=some (.cells cs t fr))(v:Value):(W.setCell ⟨g,i,none⟩ v).heap[g]?=some (.cells (cs.setIfInBounds i v) t fr):=by
 have hlt:=(Array.getElem?_eq_some_iff.1 h).1;have h2:=(Array.getElem?_eq_some_iff.1 h).2;simp only[World.setCell,Array.getElem?_eq_getElem,Array.size_modify,hlt,Array.getElem_modify_self,h2];rfl
theorem RdAt.fail {B g:Nat}{s:RS}{ao:Option Addr}{cap:Nat}{W:World}(h:RdAt B g s ao cap W):RdAt B g ⟨s.l,true⟩ ao cap (W.setCell ⟨g,1,none⟩ (.bool true)):=
 ⟨tq h.at_ _,h.le,eU h.rd (ai W g 1 _) (fun h0 a ha e=>h.ne h0 a ha (Option.some.inj e)),h.ty.grown (ai W g 1 _) (fun h0 a ha e=>h.ne h0 a ha (Option.some.inj e))⟩
theorem RdAt.move {B g:Nat}{s:RS}{ao:Option Addr}{cap:Nat}{W:World}(h:RdAt B g s ao cap W){l':List UInt8}{ao':Option Addr}{cap':Nat}(hr:Rd W 1 ao' l'.length cap' (byV l'))(ht:Ty8 W ao' cap') :
  RdAt B g ⟨l',s.bad⟩ ao' cap' (W.setCell ⟨g,0,none⟩ (.slice ao' l'.length cap')):=
 ⟨tq h.at_ _,h.le,eU hr (ai W g 0 _) (fun h0 a ha e=>ht.ne h.at_ (fun _ _ h=>by cases h) h0 a ha (Option.some.inj e)),ht.grown (ai W g 0 _) (fun h0 a ha e=>ht.ne h.at_ (fun _ _ h=>by cases h) h0 a ha (Option.some.inj e))⟩
theorem jc (B g:Nat)(s:RS)(W:World)(hr:RdS B g s W):Calls Tryz.prog 150 #[.pointer (some ⟨g,0,none⟩)] W fun e w'=>e=.returned (.bool (!s.bad))/\W=w':=by
 obtain⟨ao,cap,hr⟩:=hr;have hat:=hr.at_;have c1:W.cell? ⟨g,1,none⟩=some (.bool s.bad):=by simp[World.cell?,hat]
 have c2:W.cell? ⟨g,2,none⟩=some (.bool true):=by simp[World.cell?,hat]
 have hpe:∀(w:World),Sem.run Tryz.prog (binOp BinOp.neq 181 (.pointer (some ⟨g,0,none⟩)) (.pointer none)) w=.ok (.bool true) w:=fun _=>by kernel_rfl
 go_in;go_wp2;go_ret;exact⟨rfl,rfl⟩
def RS.take (s:RS)(t:UInt8):Option (List UInt8)×RS:=
 if s.bad=true then (none,s) else if fs s.l≠0/\(hd1 s.l).1=t then (some (hd1 s.l).2,⟨s.l.drop (fs s.l),false⟩) else (none,⟨s.l,true⟩)
def iV (B g:Nat)(s:RS)(t:UInt8)(W:World)(e:Ending)(w':World):Prop:=RdS B g (s.take t).2 w'/\W.grownBy w' (some g) /\
 match (s.take t).1 with
 | none=>e=.returned (.tuple #[.slice none 0 0,.bool false])
 | some x=>∃ao cap,e=.returned (.tuple #[.slice ao x.length cap,.bool true])/\Rd w' 1 ao x.length cap (byV x)/\Ty8 w' ao cap
theorem fG {W W':World}(h:Below W.heap.size W W')(row:Option Nat):W.grownBy W' row:=⟨h.os,h.tape,h.output,h.size,fun k hk _=>h.block k hk⟩
theorem aV {a b c:World}{row:Option Nat}(h:a.grownBy b row)(k:b.grownBy c row):a.grownBy c row:=
 ⟨k.os.trans h.os,k.tape.trans h.tape,k.output.trans h.output,Nat.le_trans h.size k.size,fun j hj hn=>(k.block j (Nat.lt_of_lt_of_le hj h.size) hn).trans (h.block j hj hn)⟩
theorem below_of_grown {a b:World}{B g:Nat}(h:a.grownBy b (some g))(hB:B<=g)(hs:g<a.heap.size):Below B a b:=⟨h.os,h.tape,h.output,h.size,fun k hk=>h.block k (by omega) (fun e=>by have:=Option.some.inj e;omega)⟩
theorem take_any (B g:Nat)(s:RS)(t:UInt8)(W:World)(hr:RdS B g s W)(hl:s.l.length<=100000000):Calls Tryz.prog 180 #[.pointer (some ⟨g,0,none⟩),.int .u8 (t.toNat:Int)] W (iV B g s t W):=by
 have hth:=jc B g s W hr;have hrs:=hr;obtain⟨ao,cap,hr⟩:=hr;obtain⟨l,bad⟩:=s;cases bad with
 | true=>
  go_in;go_wp2_with fail;refine hth.mono ?_;rintro e w' ⟨rfl,rfl⟩;go_wp2;go_ret2;exact⟨hrs,fG (Below.refl _ _) _,rfl⟩
 | false=>
  have hat:=hr.at_;dsimp only at hat hl hth;have c0:W.cell? ⟨g,0,none⟩=some (.slice ao l.length cap):=by simp[World.cell?,hat]
  go_in;go_wp2_with fail;refine hth.mono ?_;rintro e w' ⟨rfl,rfl⟩;go_wp2_with fail;refine (first_any ao l.length cap l _ hr.rd (by omega)).mono ?_;rintro e w1 ⟨hb1,hc1⟩;have hr1:=hr.later hb1;have hat1:=hr1.at_;dsimp only at hat1;have d0:w1.cell? ⟨g,0,none⟩=some (.slice ao l.length cap):=by simp[World.cell?,hat1]
  have z0:w1.frozen? ⟨g,0,none⟩=false:=by simp[World.frozen?,hat1]
  have z1:w1.frozen? ⟨g,1,none⟩=false:=by simp[World.frozen?,hat1]
  have d1:w1.cell? ⟨g,1,none⟩=some (.bool false):=by simp[World.cell?,hat1]
  have hgb:=fG hb1 (some g);have hbad:∀(h:¬(fs l≠0/\(hd1 l).1=t)),iV B g ⟨l,false⟩ t W (.returned (.tuple #[.slice none 0 0,.bool false])) (w1.setCell ⟨g,1,none⟩ (.bool true)):=by
   intro h;have ht:RS.take ⟨l,false⟩ t=(none,⟨l,true⟩):=by unfold RS.take;rw[if_neg (by simp),if_neg h]
   unfold iV;rw[ht];exact⟨⟨ao,cap,hr1.fail⟩,aV hgb (ai _ _ _ _),rfl⟩
  rcases hc1 with ⟨h0,rfl⟩ | ⟨h0,ao2,cap2,rfl,hr2,hbk⟩
  ·have Hb:=Lib.hid (hbad (fun h=>h.1 h0));clear hbad;go_wp2_with fail;go_ret2;exact Hb.out
  by_cases htg:(hd1 l).1=t
  ·have ht:RS.take ⟨l,false⟩ t=(some (hd1 l).2,⟨l.drop (fs l),false⟩):=by unfold RS.take;rw[if_neg (by simp),if_pos ⟨h0,htg⟩]
   have Ht:=Lib.hid ht;have hfle:=jU l;have hf5:=gm l h0;have hdl:(l.drop (fs l)).length=l.length-fs l:=List.length_drop;have Hdl:=Lib.hid hdl;have hrd1:=hr1.rd;dsimp only at hrd1;have hcl:=hrd1.le;have hne1:=hr1.ne;obtain⟨b1,o1,e1,hlt1,hcc1⟩:=hrd1.some (by omega);subst e1;have hne2:b1≠g:=hne1 (by omega) _ rfl;have hty1:=hr1.ty;have ht1:∀(ao':Option Addr) (c':Nat),(0<c'->∀a,ao'=some a->a.block=b1)->Ty8 w1 ao' c':=fun ao' c' h h0 a ha=>by
    rw[h h0 a ha];exact hty1 (by omega) _ rfl
   have hx3:Ty8 w1 ao2 cap2:=ht1 _ _ (fun h a ha=>by
    obtain⟨a0,h1,h2⟩:=hbk h a ha;cases h1;exact h2)
   have hx2:0<cap2->∀a,ao2=some a->a.block≠g:=hx3.ne hat1 (fun _ _ h=>by cases h);have f1:(((hd1 l).1.toNat:Int) != (t.toNat:Int))=false:=by rw[htg];simp
   clear hbad ht hdl;obtain⟨it,hit⟩:∃it,hd1 l=it:=⟨_,rfl⟩
   rw[hit] at hr2 f1 htg;rw[hit];have hok:∀w',RdS B g ⟨l.drop (fs l),false⟩ w'->W.grownBy w' (some g)->Rd w' 1 ao2 (hd1 l).2.length cap2 (byV (hd1 l).2)->Ty8 w' ao2 cap2->iV B g ⟨l,false⟩ t W (.returned (.tuple #[.slice ao2 (hd1 l).2.length cap2,.bool true])) w':=by
    intro w' h1 h2 h3 h4;unfold iV;rw[Ht.out];exact⟨h1,h2,ao2,cap2,rfl,h3,h4⟩
   rw[hit] at hok;have hmv:=fun (q:Nat) (a:Addr) (c:Nat) (hq:q=l.length-fs l) (h:Rd w1 1 (some a) (l.length-fs l) c (byV (l.drop (fs l)))) (hn:0<c->a.block=b1)=>hr1.move (l':=l.drop (fs l)) (ao':=some a) (cap':=c) (by rw[Hdl.out];exact h) (ht1 _ _ (fun h0 a' ha=>by cases ha;exact hn h0));rw[Hdl.out] at hmv;have Hmv:=Lib.hid hmv;clear hmv;have Hok:=Lib.hid hok;clear hok hit Ht;generalize hff:fs l=f at *;clear hff;have f2:((f:Int)==0)=false:=by simp;omega
   have i0:(0:Int)<=(f:Int):=by omega
   have i1:(f:Int)<=(l.length:Int):=by omega
   have i2:(f:Int)<=(cap:Int):=by omega
   by_cases hcf:cap=f
   ·subst hcf;have hq0:l.length=cap:=by omega
    have hq1:l.length-cap=0:=by omega
    have hre:=AL hrd1 (f:=cap) (by omega) rfl;have hm:=Hmv.out _ ⟨b1,o1,none⟩ 0 rfl (by rw[hq1];exact hre) (fun h=>absurd h (Nat.lt_irrefl 0));rw[hq1] at hm;have Hm:=Lib.hid hm;have hr3:=eU hr2 (ai w1 g 0 (.slice (some ⟨b1,o1,none⟩) 0 0)) (fun h0 a ha e=>hx2 h0 a ha (Option.some.inj e));have hr4:=fun (v:Value)=>hx3.grown (ai w1 g 0 v) (fun h0 a ha e=>hx2 h0 a ha (Option.some.inj e));clear hm hre;go_wp2_with fail;go_ret2;exact Hok.out _ ⟨_,_,Hm.out⟩ (aV hgb (ai _ _ _ _)) hr3 (hr4 _)
   have hcf2:¬cap-f=0:=by omega
   have hre:=nz hrd1 (f:=f) (by omega);have hm:=Hmv.out _ ⟨b1,o1+f,none⟩ (cap-f) rfl hre (fun _=>rfl);have Hm:=Lib.hid hm;have hr3:=eU hr2 (ai w1 g 0 (.slice (some ⟨b1,o1+f,none⟩) (l.length-f) (cap-f))) (fun h0 a ha e=>hx2 h0 a ha (Option.some.inj e));have hr4:=fun (v:Value)=>hx3.grown (ai w1 g 0 v) (fun h0 a ha e=>hx2 h0 a ha (Option.some.inj e));clear hm hre;go_wp2_with fail;go_ret2;exact Hok.out _ ⟨_,_,Hm.out⟩ (aV hgb (ai _ _ _ _)) hr3 (hr4 _)
  have f1:(((hd1 l).1.toNat:Int) != (t.toNat:Int))=true:=by simp;exact fun h=>htg (UInt8.toNat_inj.1 (by omega))
  have f2:((fs l:Int)==0)=false:=by simp;omega
  have Hb:=Lib.hid (hbad (fun h=>htg h.2));clear hbad;go_wp2_with fail;go_ret2;exact Hb.out
end Go.Proofs.YtfmmandlmbcncaaGreatDoor.Tlv
