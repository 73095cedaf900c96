/-
  A part of the proof.
-/
import Derived.Test.YtfmmandlmbcncaaGreatDoorKdap
import Derived.Test.YtfmmandlmbcncaaGreatDoorKdan
set_option maxHeartbeats 40000000
set_option maxRecDepth 100000
namespace Go.Proofs.YtfmmandlmbcncaaGreatDoor.Tlv
open Go.RowKit Mem
def RS.bytes (s:RS)(t:UInt8):List UInt8×RS:=((s.take t).1.getD [],(s.take t).2)
def iP (b:List UInt8):Nat->Nat
 | 0=>0
 | k+1=>iP b k*256+(b[k]?.getD 0).toNat
theorem ni (b:List UInt8):∀k,iP b k<256 ^ k
 | 0=>by simp[iP]
 | k+1=>by
  have ih:=ni b k;have hc:(b[k]?.getD 0).toNat<256:=UInt8.toNat_lt _;rw[iP,Nat.pow_succ];omega
def RS.num (s:RS)(t:UInt8):Nat×RS:=
 match (s.take t).1 with
 | none=>(0,(s.take t).2)
 | some b=>if b.length=8 then (iP b 8,(s.take t).2) else (0,⟨(s.take t).2.l,true⟩)
def RS.flag (s:RS)(t:UInt8):Bool×RS:=
 match (s.take t).1 with
 | none=>(false,(s.take t).2)
 | some b=>if b.length=1/\(b[0]?.getD 0).toNat<=1 then (decide ((b[0]?.getD 0).toNat=1),(s.take t).2) else (false,⟨(s.take t).2.l,true⟩)
def RS.tag (s:RS):UInt8:=if s.bad=true then 0 else if fs s.l=0 then 0 else (hd1 s.l).1
def RS.ends (s:RS):Int:=if s.bad=true\/0<s.l.length then 4 else 0
def iE (B g:Nat)(v:Value)(s:RS)(W:World)(e:Ending)(w':World):Prop:=e=.returned v/\RdS B g s w'/\W.grownBy w' (some g)
theorem Ez (B g:Nat)(s:RS)(t:UInt8)(W:World)(hr:RdS B g s W)(hl:s.l.length<=100000000):Calls Tryz.prog 194 #[.pointer (some ⟨g,0,none⟩),.int .u8 (t.toNat:Int)] W fun e w'=>
  ∃ao cap,e=.returned (.slice ao (s.bytes t).1.length cap)/\Rd w' 1 ao (s.bytes t).1.length cap (byV (s.bytes t).1)/\RdS B g (s.bytes t).2 w'/\W.grownBy w' (some g):=by
 have hc:=take_any B g s t W hr hl;unfold iV at hc;unfold RS.bytes;generalize s.take t=tk at *;obtain⟨ox,s'⟩:=tk;cases ox with
 | none=>
  go_in;go_wp2_with fail;refine hc.mono ?_;rintro e w' ⟨h1,h2,rfl⟩;go_wp2;go_ret;exact⟨none,0,rfl,Rd.nil _ _,h1,h2⟩
 | some x=>
  go_in;go_wp2_with fail;refine hc.mono ?_;rintro e w' ⟨h1,h2,ao,cap,rfl,h4,_⟩;go_wp2;go_ret;exact⟨ao,cap,rfl,h4,h1,h2⟩
theorem jb (B g:Nat)(s:RS)(t:UInt8)(W:World)(hr:RdS B g s W)(hl:s.l.length<=100000000):Calls Tryz.prog 238 #[.pointer (some ⟨g,0,none⟩),.int .u8 (t.toNat:Int)] W
  (iE B g (.string ⟨(s.bytes t).1.toArray⟩) (s.bytes t).2 W):=by
 have hc:=Ez B g s t W hr hl;generalize s.bytes t=r at *;go_in;go_wp2_with fail;refine hc.mono ?_;rintro e w' ⟨ao,cap,rfl,h1,h2,h3⟩;have hs:=lV ao _ cap _ w' h1;go_wp2;go_ret;exact⟨rfl,h2,h3⟩
theorem JO (B g:Nat)(s:RS)(W:World)(hr:RdS B g s W)(hl:s.l.length<=100000000):Calls Tryz.prog 113 #[.pointer (some ⟨g,0,none⟩)] W fun e w'=>e=.returned (.int .u8 (s.tag.toNat:Int))/\Below W.heap.size W w':=by
 have hth:=jc B g s W hr;obtain⟨ao,cap,hr⟩:=hr;obtain⟨l,bad⟩:=s;cases bad with
 | true=>
  go_in;go_wp2_with fail;refine hth.mono ?_;rintro e w' ⟨rfl,rfl⟩;go_wp2;go_ret;exact⟨rfl,Below.refl _ _⟩
 | false=>
  have hat:=hr.at_;dsimp only at hat hl hth;have c0:W.cell? ⟨g,0,none⟩=some (.slice ao l.length cap):=by simp[World.cell?,hat]
  go_in;go_wp2_with fail;refine hth.mono ?_;rintro e w' ⟨rfl,rfl⟩;go_wp2_with fail;refine (first_any ao l.length cap l _ hr.rd (by omega)).mono ?_;rintro e w1 ⟨hb1,⟨h0,rfl⟩ | ⟨h0,ao2,cap2,rfl,hr2,hbk⟩⟩
  ·have ht:RS.tag ⟨l,false⟩=0:=by unfold RS.tag;rw[if_neg (by simp),if_pos h0]
   go_wp2;go_ret;exact⟨by rw[ht];rfl,hb1⟩
  have ht:RS.tag ⟨l,false⟩=(hd1 l).1:=by unfold RS.tag;rw[if_neg (by simp),if_neg h0]
  go_wp2;go_ret;exact⟨by rw[ht];rfl,hb1⟩
theorem nJ (B g:Nat)(s:RS)(W:World)(hr:RdS B g s W):Calls Tryz.prog 114 #[.pointer (some ⟨g,0,none⟩)] W fun e w'=>e=.returned (.int .i64 s.ends)/\W=w':=by
 obtain⟨ao,cap,hr⟩:=hr;obtain⟨l,bad⟩:=s;have hat:=hr.at_;dsimp only at hat;have c0:W.cell? ⟨g,0,none⟩=some (.slice ao l.length cap):=by simp[World.cell?,hat]
 have c1:W.cell? ⟨g,1,none⟩=some (.bool bad):=by simp[World.cell?,hat]
 have c2:W.cell? ⟨g,2,none⟩=some (.bool true):=by simp[World.cell?,hat]
 have hpe:∀(w:World),Sem.run Tryz.prog (binOp BinOp.eql 181 (.pointer (some ⟨g,0,none⟩)) (.pointer none)) w=.ok (.bool false) w:=fun _=>by kernel_rfl
 cases bad with
 | true=>
  go_in;go_wp2;go_ret;exact⟨rfl,rfl⟩
 | false=>
  by_cases h0:0<l.length
  ·have f0:decide ((0:Int)<(l.length:Int))=true:=decide_eq_true (by omega);have he:RS.ends ⟨l,false⟩=4:=if_pos (.inr h0);rw[he];go_in;go_wp2;go_ret;exact⟨rfl,rfl⟩
  have f0:decide ((0:Int)<(l.length:Int))=false:=decide_eq_false (by omega);have he:RS.ends ⟨l,false⟩=0:=if_neg (by simp at h0 ⊢;exact h0);rw[he];go_in;go_wp2;go_ret;exact⟨rfl,rfl⟩
theorem nT (ao:Option Addr)(n cap:Nat)(l:List UInt8)(W:World)(hr:Rd W 1 ao n cap (byV l))(hn:n<=1000000000):Calls Tryz.prog 110 #[.slice ao n cap] W fun e w'=>
  ∃g,e=.returned (.pointer (some ⟨g,0,none⟩))/\RdS W.heap.size g ⟨l,false⟩ w'/\Below W.heap.size W w':=by
 go_in;go_wp2_with fail;refine (uu ao n cap l W hr hn).mono ?_;rintro e w1 ⟨v1,rfl,ho1,hb1⟩;obtain⟨ao1,cap1,rfl,hr1⟩:=Rd.of_own ho1;go_wp2;go_ret;have hb2:Below w1.heap.size w1 (w1.alloc (.cells #[.slice ao1 l.length cap1,.bool false,.bool true] 237)):=(Below.refl _ _).alloc (Nat.le_refl _) _;refine⟨w1.heap.size,rfl,⟨ao1,cap1,?_,hb1.size,hr1.later hb2,(Ty8.of_own ho1).later hb2⟩,hb1.trans (hb2.mono hb1.size)⟩;show (w1.heap.push _)[w1.heap.size]?=some _;simp
theorem nK (B g:Nat)(s:RS)(t:UInt8)(W:World)(hr:RdS B g s W)(hl:s.l.length<=100000000):Calls Tryz.prog 148 #[.pointer (some ⟨g,0,none⟩),.int .u8 (t.toNat:Int)] W
  (iE B g (.int .u64 ((s.num t).1:Int)) (s.num t).2 W):=by
 have hc:=take_any B g s t W hr hl;unfold iV at hc;unfold RS.num;generalize s.take t=tk at *;obtain⟨ox,s'⟩:=tk;cases ox with
 | none=>
  go_in;go_wp2_with fail;refine hc.mono ?_;rintro e w' ⟨h1,h2,rfl⟩;go_wp2
  go_loop [7,27] (fun v p=>v=.int .u64 0/\p=.int .i64 0) (fun _ _=>0)
  case atStart=>exact⟨rfl,rfl⟩
  case round=>
   obtain⟨rfl,rfl⟩:=hrel;go_wp2;go_ret;exact⟨rfl,h1,h2⟩
 | some x=>
  dsimp only at hc ⊢;by_cases h8:x.length=8
  ·have hc2:Calls Tryz.prog 180 #[.pointer (some ⟨g,0,none⟩),.int .u8 (t.toNat:Int)] W fun e w'=>∃b o cap,e=.returned (.tuple #[.slice (some ⟨b,o,none⟩) 8 cap,.bool true])/\(∀k,k<8->w'.cell? ⟨b,o+k,none⟩=some (.int .u8 ((x[k]?.getD 0).toNat:Int)))/\RdS B g s' w'/\W.grownBy w' (some g):=by
    refine hc.mono ?_;rintro e w' ⟨h1,h2,ao,cap,rfl,h4,_⟩;have hle:=h4.le;obtain⟨b,o,rfl,_,hcc⟩:=h4.some (by omega);exact⟨b,o,cap,by rw[h8],fun k hk=>hcc k _ (fQ x k (by omega)),h1,h2⟩
   rw[if_pos h8];have hk:=ni x;have hv:∀k:Nat,Hid ((x[k]?.getD 0).toNat<256):=fun k=>UInt8.toNat_lt _;have hsx:∀k:Nat,Hid (iP x (k+1)=iP x k*256+(x[k]?.getD 0).toNat):=fun k=>rfl;clear hc h8;go_in;go_wp2_with fail;refine hc2.mono ?_;rintro e w' ⟨b,o,cap,rfl,hcell,h1,h2⟩;have Hcell:=Lib.hid hcell;have Hk:=Lib.hid hk;clear hcell hk;go_wp2
   go_loop [7,27] (fun v p=>∃k:Nat,k<=8/\v=.int .u64 (iP x k:Int)/\p=.int .i64 (k:Int)) (fun _ p=>(8-intOf p).toNat)
   case atStart=>exact⟨0,by omega,rfl,rfl⟩
   case round=>
    obtain⟨k,hk8,rfl,rfl⟩:=hrel;by_cases hk9:k=8
    ·subst hk9;go_wp2;go_ret;exact⟨rfl,h1,h2⟩
    have hk7:k<8:=by omega
    have hc3:=Hcell.out k hk7;have hlt:=Hk.out k;have hpow:256 ^ k<=256 ^ 7:=Nat.pow_le_pow_right (by decide) (by omega);have hv1:=(hv k).out;have hs1:=(hsx k).out;have Hs1:=Lib.hid hs1;clear hs1;generalize iP x k=q at *;generalize (x[k]?.getD 0).toNat=c at *;have hq7:q<72057594037927936:=Nat.lt_of_lt_of_le hlt hpow;clear hlt hpow;have j0:IntKind.u64.wrap ((q:Int)*256)=(q:Int)*256:=by rw[IntWalk.u64_in]<;>omega
    have j1:bits BinOp.or IntKind.u64 ((q:Int)*256) (c:Int)=(q:Int)*256+(c:Int):=bits_join .u64 64 (by decide) (fun n h0 h1=>by rw[IntWalk.u64_in]<;>omega) 8 _ _ (by omega) (by omega) (by omega) (by omega) (by omega) (by omega);go_wp2
    case roundEnd=>exact⟨⟨k+1,by omega,by rw[Hs1.out];go_num,by go_num⟩,by simp[intOf];omega⟩
  rw[if_neg h8];have f8:((x.length:Int) != 8)=true:=by simp;omega
  go_in;go_wp2_with fail;refine hc.mono ?_;rintro e w' ⟨⟨ao1,cap1,h1⟩,h2,ao,cap,rfl,_,_⟩;have hat:=h1.at_;have c1:w'.cell? ⟨g,1,none⟩=some (.bool s'.bad):=by simp[World.cell?,hat]
  have z1:w'.frozen? ⟨g,1,none⟩=false:=by simp[World.frozen?,hat]
  go_wp2;go_ret;exact⟨rfl,⟨ao1,cap1,h1.fail⟩,aV h2 (ai _ _ _ _)⟩
theorem xM (B g:Nat)(s:RS)(t:UInt8)(W:World)(hr:RdS B g s W)(hl:s.l.length<=100000000):Calls Tryz.prog 212 #[.pointer (some ⟨g,0,none⟩),.int .u8 (t.toNat:Int)] W
  (iE B g (.bool (s.flag t).1) (s.flag t).2 W):=by
 have hc:=take_any B g s t W hr hl;unfold iV at hc;unfold RS.flag;generalize s.take t=tk at *;obtain⟨ox,s'⟩:=tk;cases ox with
 | none=>
  go_in;go_wp2_with fail;refine hc.mono ?_;rintro e w' ⟨h1,h2,rfl⟩;go_wp2;go_ret;exact⟨rfl,h1,h2⟩
 | some x=>
  dsimp only at hc ⊢;by_cases h1l:x.length=1
  ·have hc2:Calls Tryz.prog 180 #[.pointer (some ⟨g,0,none⟩),.int .u8 (t.toNat:Int)] W fun e w'=>∃b o cap,e=.returned (.tuple #[.slice (some ⟨b,o,none⟩) 1 cap,.bool true])/\w'.cell? ⟨b,o,none⟩=some (.int .u8 ((x[0]?.getD 0).toNat:Int))/\RdS B g s' w'/\W.grownBy w' (some g):=by
    refine hc.mono ?_;rintro e w' ⟨h1,h2,ao,cap,rfl,h4,_⟩;have hle:=h4.le;obtain⟨b,o,rfl,_,hcc⟩:=h4.some (by omega);exact⟨b,o,cap,by rw[h1l],hcc 0 _ (fQ x 0 (by omega)),h1,h2⟩
   by_cases hx:(x[0]?.getD 0).toNat<=1
   ·rw[if_pos ⟨h1l,hx⟩];clear hc h1l;generalize (x[0]?.getD 0).toNat=c at *;have f1:decide ((1:Int)<(c:Int))=false:=decide_eq_false (by omega);have f2:((c:Int)==1)=decide (c=1):=by rw[Bool.eq_iff_iff];simp;omega
    have F2:=Lib.hid f2;clear f2;go_in;go_wp2_with fail;refine hc2.mono ?_;rintro e w' ⟨b,o,cap,rfl,hcell,h1,h2⟩;go_wp2;go_ret;refine⟨?_,h1,h2⟩;rw[<-F2.out];rfl
   rw[if_neg (fun h=>hx h.2)];clear hc h1l;generalize (x[0]?.getD 0).toNat=c at *;have f1:decide ((1:Int)<(c:Int))=true:=decide_eq_true (by omega);go_in;go_wp2_with fail;refine hc2.mono ?_;rintro e w' ⟨b,o,cap,rfl,hcell,⟨ao1,cap1,h1⟩,h2⟩;have hat:=h1.at_;have c1:w'.cell? ⟨g,1,none⟩=some (.bool s'.bad):=by simp[World.cell?,hat]
   have z1:w'.frozen? ⟨g,1,none⟩=false:=by simp[World.frozen?,hat]
   go_wp2;go_ret;exact⟨rfl,⟨ao1,cap1,h1.fail⟩,aV h2 (ai _ _ _ _)⟩
  rw[if_neg (fun h=>h1l h.1)];have f8:((x.length:Int) != 1)=true:=by simp;omega
  go_in;go_wp2_with fail;refine hc.mono ?_;rintro e w' ⟨⟨ao1,cap1,h1⟩,h2,ao,cap,rfl,_,_⟩;have hat:=h1.at_;have c1:w'.cell? ⟨g,1,none⟩=some (.bool s'.bad):=by simp[World.cell?,hat]
  have z1:w'.frozen? ⟨g,1,none⟩=false:=by simp[World.frozen?,hat]
  go_wp2;go_ret;exact⟨rfl,⟨ao1,cap1,h1.fail⟩,aV h2 (ai _ _ _ _)⟩
end Go.Proofs.YtfmmandlmbcncaaGreatDoor.Tlv
namespace Go.Proofs.YtfmmandlmbcncaaGreatDoor.Tlv
theorem gu (n:Nat)(x:UInt8)(h:n % 256=x.toNat):UInt8.ofNat n=x:=by
 apply UInt8.toNat_inj.1;rw[UInt8.toNat_ofNat'];exact h
theorem yA (l:List UInt8)(h:fs l≠0):l=val (hd1 l).1 (hd1 l).2++l.drop (fs l)/\0<(hd1 l).1.toNat/\(hd1 l).2.length<=4194304:=by
 have hc:¬(l.length<5\/l[0]?.getD 0=0\/4194304<ln l\/l.length-5<ln l):=fun hh=>h (xN hh);have hf:=xw hc;have hl:=nI l h;have hle:=jU l;have h0:¬l[0]?.getD 0=0:=fun e=>hc (.inr (.inl e));have hq:¬4194304<ln l:=fun e=>hc (.inr (.inr (.inl e)))
 match l,hle,hc with
 | a::b::c::d::e::r,hle,hc=>
  have hln:ln (a::b::c::d::e::r)=16777216*b.toNat+65536*c.toNat+256*d.toNat+e.toNat:=rfl;have hb:=b.toNat_lt;have hcc:=c.toNat_lt;have hd:=d.toNat_lt;have he:=e.toNat_lt;have hx:(hd1 (a::b::c::d::e::r)).2=r.take (ln (a::b::c::d::e::r)):=by
   show ((a::b::c::d::e::r).drop 5).take (fs _-5)=_;rw[hf,show 5+ln (a::b::c::d::e::r)-5=ln (a::b::c::d::e::r) by omega];rfl
  have hn:(hd1 (a::b::c::d::e::r)).2.length=ln (a::b::c::d::e::r):=by omega
  refine⟨?_,?_,by omega⟩
  ·have hdr:(a::b::c::d::e::r).drop (fs (a::b::c::d::e::r))=r.drop (ln (a::b::c::d::e::r)):=by rw[hf,Nat.add_comm];rfl
   rw[hdr];unfold val;rw[hn,hx];generalize hqq:ln (a::b::c::d::e::r)=q at *;rw[gu (q / 16777216) b (by omega),gu (q / 65536) c (by omega),gu (q / 256) d (by omega),gu q e (by omega)];show _=[a,b,c,d,e]++List.take q r++List.drop q r;rw[List.append_assoc,List.take_append_drop];rfl
  have:(hd1 (a::b::c::d::e::r)).1=a:=rfl;rw[this];have h1:¬a=0:=h0;have:¬a.toNat=0:=fun e=>h1 (UInt8.toNat_inj.1 e);omega
 | [],_,hc=>exact absurd (.inl (by simp)) hc
 | [_],_,hc=>exact absurd (.inl (by simp)) hc
 | [_,_],_,hc=>exact absurd (.inl (by simp)) hc
 | [_,_,_],_,hc=>exact absurd (.inl (by simp)) hc
 | [_,_,_,_],_,hc=>exact absurd (.inl (by simp)) hc
theorem vZ (t:UInt8)(b rest:List UInt8)(ht:0<t.toNat)(hb:b.length<=4194304):RS.take ⟨val t b++rest,false⟩ t=(some b,⟨rest,false⟩):=by
 have hh:=xZ t b rest ht hb;have hf:=xk t b rest ht hb;unfold RS.take;rw[if_neg (by simp),if_pos ⟨by dsimp only;omega,by dsimp only;rw[hh]⟩];dsimp only;rw[hh,hf,<-ae t b];simp
theorem dJ {s:RS}{t:UInt8}{x:List UInt8}{s':RS}(h:s.take t=(some x,s')):s.bad=false/\s'.bad=false/\s.l=val t x++s'.l/\x.length<=4194304/\0<t.toNat:=by
 unfold RS.take at h;split at h
 ·cases h
 rename_i hb;split at h
 ·rename_i h2;have e1:=Option.some.inj (congrArg Prod.fst h);have e2:=congrArg Prod.snd h;dsimp only at e1 e2;obtain⟨h3,h4,h5⟩:=yA s.l h2.1;subst e1 e2;refine⟨by simpa using hb,rfl,?_,h5,by rw[<-h2.2];exact h4⟩;rw[h2.2] at h3;exact h3
 cases h
theorem tV {s:RS}{t:UInt8}{s':RS}(h:s.take t=(none,s')):s'.bad=true:=by
 unfold RS.take at h;split at h
 ·rename_i hb;have:=congrArg Prod.snd h;dsimp only at this;rw[<-this];exact hb
 split at h
 ·cases h
 have:=congrArg Prod.snd h;dsimp only at this;rw[<-this]
theorem jD (n k:Nat)(hk:k<8):((az n)[k]?.getD 0).toNat=n / 256 ^ (7-k) % 256:=by
 simp[az,List.getElem?_map,List.getElem?_range hk,UInt8.toNat_ofNat']
theorem oV (n:Nat)(hn:n<18446744073709551616):iP (az n) 8=n:=by
 have h0:=jD n 0 (by omega);have h1:=jD n 1 (by omega);have h2:=jD n 2 (by omega);have h3:=jD n 3 (by omega);have h4:=jD n 4 (by omega);have h5:=jD n 5 (by omega);have h6:=jD n 6 (by omega);have h7:=jD n 7 (by omega);simp only[iP,h0,h1,h2,h3,h4,h5,h6,h7];omega
theorem Iu (b:List UInt8)(hb:b.length=8):az (iP b 8)=b:=by
 match b,hb with
 | [b0,b1,b2,b3,b4,b5,b6,b7],_=>
  have t0:=b0.toNat_lt;have t1:=b1.toNat_lt;have t2:=b2.toNat_lt;have t3:=b3.toNat_lt;have t4:=b4.toNat_lt;have t5:=b5.toNat_lt;have t6:=b6.toNat_lt;have t7:=b7.toNat_lt;have hq:iP [b0,b1,b2,b3,b4,b5,b6,b7] 8=((((((b0.toNat*256+b1.toNat)*256+b2.toNat)*256+b3.toNat)*256+b4.toNat)*256+b5.toNat)*256+b6.toNat)*256+b7.toNat:=by
   simp only[iP];simp
  rw[hq];generalize hqq:((((((b0.toNat*256+b1.toNat)*256+b2.toNat)*256+b3.toNat)*256+b4.toNat)*256+b5.toNat)*256+b6.toNat)*256+b7.toNat=q;show [UInt8.ofNat (q / 256 ^ (7-0)),UInt8.ofNat (q / 256 ^ (7-1)),UInt8.ofNat (q / 256 ^ (7-2)),UInt8.ofNat (q / 256 ^ (7-3)),UInt8.ofNat (q / 256 ^ (7-4)),UInt8.ofNat (q / 256 ^ (7-5)),UInt8.ofNat (q / 256 ^ (7-6)),UInt8.ofNat (q / 256 ^ (7-7))]=_;rw[gu _ b0 (by omega),gu _ b1 (by omega),gu _ b2 (by omega),gu _ b3 (by omega),gu _ b4 (by omega),gu _ b5 (by omega),gu _ b6 (by omega),gu _ b7 (by omega)]
theorem KN {s s':RS}{t:UInt8}(h:s.take t=(none,s')):s.num t=(0,s'):=by unfold RS.num;rw[h]
theorem IK {s s':RS}{t:UInt8}{b:List UInt8}(h:s.take t=(some b,s'))(hb:b.length=8):s.num t=(iP b 8,s'):=by unfold RS.num;rw[h];exact if_pos hb
theorem Nr {s s':RS}{t:UInt8}{b:List UInt8}(h:s.take t=(some b,s'))(hb:¬b.length=8):s.num t=(0,⟨s'.l,true⟩):=by unfold RS.num;rw[h];exact if_neg hb
theorem GR {s s':RS}{t:UInt8}(h:s.take t=(none,s')):s.flag t=(false,s'):=by unfold RS.flag;rw[h]
theorem Kr {s s':RS}{t:UInt8}{b:List UInt8}(h:s.take t=(some b,s'))(hb:b.length=1/\(b[0]?.getD 0).toNat<=1):s.flag t=(decide ((b[0]?.getD 0).toNat=1),s'):=by unfold RS.flag;rw[h];exact if_pos hb
theorem JD {s s':RS}{t:UInt8}{b:List UInt8}(h:s.take t=(some b,s'))(hb:¬(b.length=1/\(b[0]?.getD 0).toNat<=1)):s.flag t=(false,⟨s'.l,true⟩):=by unfold RS.flag;rw[h];exact if_neg hb
theorem ak {t:UInt8}{a b r r':List UInt8}(ht:0<t.toNat)(ha:a.length<=4194304)(hb:b.length<=4194304)(h:val t a++r=val t b++r'):a=b/\r=r':=by
 have h1:=vZ t a r ht ha;have h2:=vZ t b r' ht hb;rw[h,h2] at h1;have e1:=Option.some.inj (congrArg Prod.fst h1);have e2:=congrArg RS.l (congrArg Prod.snd h1);exact⟨e1.symm,e2.symm⟩
structure Took {α:Type}(body:α->List UInt8)(may good:α->Prop)(s:RS)(y:α)(s':RS):Prop where
 yes:s'.bad=false->s.bad=false/\s.l=body y++s'.l/\good y
 no:s'.bad=true->s.bad=true\/∀z rest,may z->s.l≠body z++rest
 le:s'.l.length<=s.l.length
theorem iG (s:RS)(t:UInt8)(ht:0<t.toNat):(∃x rest,s.take t=(some x,⟨rest,false⟩)/\s.bad=false/\s.l=val t x++rest/\x.length<=4194304) \/
  (∃s',s.take t=(none,s')/\s'.bad=true/\s'.l=s.l/\(s.bad=true\/∀(z rest:List UInt8),z.length<=4194304->s.l≠val t z++rest)):=by
 cases h:s.take t with
 | mk ox s'=>
  cases ox with
  | some x=>
   obtain⟨h1,h2,h3,h4,_⟩:=dJ h;obtain⟨l,b⟩:=s';dsimp only at h2 h3;subst h2;exact .inl ⟨x,l,rfl,h1,h3,h4⟩
  | none=>
   refine .inr ⟨s',rfl,tV h,?_,?_⟩
   ·unfold RS.take at h;split at h
    ·have:=congrArg Prod.snd h;dsimp only at this;rw[<-this]
    split at h
    ·cases h
    have:=congrArg Prod.snd h;dsimp only at this;rw[<-this]
   cases hb:s.bad with
   | true=>exact .inl rfl
   | false=>
    refine .inr fun z rest hz e=>?_;obtain⟨l,b⟩:=s;dsimp only at hb e;subst hb e;rw[vZ t z rest ht hz] at h;cases h
theorem fJ (t:UInt8)(b r:List UInt8):r.length<=(val t b++r).length:=by rw[List.length_append];omega
theorem bI (s:RS)(t:UInt8)(ht:0<t.toNat):Took (val t) (fun z=>z.length<=4194304) (fun z=>z.length<=4194304) s (s.bytes t).1 (s.bytes t).2:=by
 unfold RS.bytes;rcases iG s t ht with ⟨x,rest,h,h1,h2,h3⟩ | ⟨s',h,h1,h2,h3⟩
 ·rw[h];exact⟨fun _=>⟨h1,h2,h3⟩,fun e=>(by cases e),(by rw[h2];exact fJ _ _ _)⟩
 rw[h];exact⟨fun e=>(by rw[show s'.bad=true from h1] at e;cases e),fun _=>h3,Nat.le_of_eq (congrArg List.length h2)⟩
theorem jH (s:RS)(t:UInt8)(ht:0<t.toNat):Took (fun n:Nat=>val t (az n)) (fun n=>n<18446744073709551616) (fun n=>n<18446744073709551616) s (s.num t).1 (s.num t).2:=by
 rcases iG s t ht with ⟨x,rest,h,h1,h2,h3⟩ | ⟨s',h,h1,h2,h3⟩
 ·by_cases h8:x.length=8
  ·rw[IK h h8];refine⟨fun _=>⟨h1,?_,ni x 8⟩,fun e=>(by cases e),?_⟩
   ·dsimp only;rw[Iu x h8];exact h2
   rw[h2];exact fJ _ _ _
  rw[Nr h h8];refine⟨fun e=>(by cases e),fun _=>.inr fun z r hz e=>?_,?_⟩
  ·rw[h2] at e;have:=(ak ht h3 (by rw[ah];omega) e).1;rw[this,ah] at h8;exact h8 rfl
  rw[h2];exact fJ _ _ _
 rw[KN h];exact⟨fun e=>(by rw[show s'.bad=true from h1] at e;cases e),fun _=>h3.imp id (fun h z r _=>h _ r (by rw[ah];omega)),Nat.le_of_eq (congrArg List.length h2)⟩
theorem sO (s:RS)(t:UInt8)(ht:0<t.toNat):Took (fun b:Bool=>val t [if b then 1 else 0]) (fun _=>True) (fun _=>True) s (s.flag t).1 (s.flag t).2:=by
 rcases iG s t ht with ⟨x,rest,h,h1,h2,h3⟩ | ⟨s',h,h1,h2,h3⟩
 ·by_cases h8:x.length=1/\(x[0]?.getD 0).toNat<=1
  ·rw[Kr h h8];refine⟨fun _=>⟨h1,?_,trivial⟩,fun e=>(by cases e),?_⟩
   ·dsimp only;rw[h2]
    congr 2
    obtain⟨h8,h9⟩:=h8
    match x,h8,h9 with
    | [a],_,h9=>
     have h9:a.toNat<=1:=h9;show [a]=[if decide (a.toNat=1)=true then 1 else 0];by_cases ha:a.toNat=1
     ·rw[decide_eq_true ha,if_pos rfl,show a=1 from UInt8.toNat_inj.1 ha]
     rw[decide_eq_false ha,if_neg (by decide),show a=0 from UInt8.toNat_inj.1 (by show a.toNat=0;omega)]
   rw[h2];exact fJ _ _ _
  rw[JD h h8];refine⟨fun e=>(by cases e),fun _=>.inr fun z r _ e=>?_,?_⟩
  ·rw[h2] at e;have:=(ak ht h3 (by simp) e).1;rw[this] at h8;exact h8 (by cases z<;>simp)
  rw[h2];exact fJ _ _ _
 rw[GR h];exact⟨fun e=>(by rw[show s'.bad=true from h1] at e;cases e),fun _=>h3.imp id (fun h z r _=>h _ r (by simp)),Nat.le_of_eq (congrArg List.length h2)⟩
end Go.Proofs.YtfmmandlmbcncaaGreatDoor.Tlv
namespace Go.Proofs.YtfmmandlmbcncaaGreatDoor.Msg
open Go.RowKit Go.Lib Mem Tlv
def yN (b:List UInt8):Prop:=∀W v c,OpAt W v c->aB v c=true->opL v c≠b
def tg (l:UInt8):UInt8:=if l=110 then 2 else if l=116 then 3 else if l=97 then 4 else if l=112 then 5 else if l=99 then 6 else 7
def bd (v:OV)(c:OC)(l:UInt8):List UInt8:=
 if l=110 then v.name.data.toList else if l=116 then v.to.data.toList else if l=97 then aC c.attrs else if l=112 then dS c.parts else if l=99 then c.cursor else az v.n.toNat
theorem OH (l:UInt8):0<(tg l).toNat:=by
 unfold tg
 repeat' split
 all_goals decide
theorem uZ (v:OV)(c:OC)(l:UInt8):gJ v c l=val (tg l) (bd v c l):=by
 unfold gJ tg bd
 repeat' split
 all_goals rfl
theorem Lm (v:OV)(c:OC)(l:UInt8):(gJ v c l).length=5+(bd v c l).length:=by rw[uZ,ae]
theorem strip {f g:UInt8->List UInt8}{r r':List UInt8}:∀(ls:List UInt8),(∀l∈ls,(f l).length<=4194304/\(g l).length<=4194304) ->
  ls.flatMap (fun l=>val (tg l) (f l))++r=ls.flatMap (fun l=>val (tg l) (g l))++r'->(∀l∈ls,f l=g l)/\r=r'
 | [],_,h=>⟨fun _ h=>absurd h List.not_mem_nil,h⟩
 | l::ls,hl,h=>by
  rw[List.flatMap_cons,List.flatMap_cons,List.append_assoc,List.append_assoc] at h;obtain⟨h1,h2⟩:=ak (OH l) (hl l (by simp)).1 (hl l (by simp)).2 h;obtain⟨h3,h4⟩:=strip ls (fun x hx=>hl x (by simp[hx])) h2;refine⟨fun x hx=>?_,h4⟩;rcases List.mem_cons.1 hx with rfl | hx
  ·exact h1
  exact h3 x hx
theorem dK (u:ByteArray×ByteArray)(x:List (ByteArray×ByteArray)):aC (u::x)=val 3 (val 1 u.1.data.toList++val 2 u.2.data.toList)++aC x:=rfl
theorem fF (u:ByteArray)(x:List ByteArray):dS (u::x)=val 1 u.data.toList++dS x:=rfl
theorem kP {a b:ByteArray}(h:a.data.toList=b.data.toList):a=b:=by
 cases a;cases b;simpa using h
theorem lK:∀(x y:List (ByteArray×ByteArray)),(aC x).length<=4194304->(aC y).length<=4194304->aC x=aC y->x=y
 | [],[],_,_,_=>rfl
 | [],u::y,_,_,h=>by
  have:=congrArg List.length h;rw[dK,List.length_append,ae] at this;have e0:(aC []).length=0:=rfl;omega
 | u::x,[],_,_,h=>by
  have:=congrArg List.length h;rw[dK,List.length_append,ae] at this;have e0:(aC []).length=0:=rfl;omega
 | u::x,u'::y,hx,hy,h=>by
  rw[dK] at h hx hy;rw[dK] at h;rw[List.length_append,ae] at hx hy;obtain⟨h1,h2⟩:=ak (by decide) (by omega) (by omega) h;have hx1:=hx;have hy1:=hy;rw[List.length_append,ae,ae] at hx1 hy1;obtain⟨h3,h4⟩:=ak (t:=1) (by decide) (by omega) (by omega) h1;have h5:=(ak (t:=2) (a:=u.2.data.toList) (b:=u'.2.data.toList) (r:=[]) (r':=[]) (by decide) (by omega) (by omega) (by rw[List.append_nil,List.append_nil];exact h4)).1;rw[lK x y (by omega) (by omega) h2,show u=u' from Prod.ext (kP h3) (kP h5)]
theorem AU:∀(x y:List ByteArray),(dS x).length<=4194304->(dS y).length<=4194304->dS x=dS y->x=y
 | [],[],_,_,_=>rfl
 | [],u::y,_,_,h=>by
  have:=congrArg List.length h;rw[fF,List.length_append,ae] at this;have e0:(dS []).length=0:=rfl;omega
 | u::x,[],_,_,h=>by
  have:=congrArg List.length h;rw[fF,List.length_append,ae] at this;have e0:(dS []).length=0:=rfl;omega
 | u::x,u'::y,hx,hy,h=>by
  rw[fF] at h hx hy;rw[fF] at h;rw[List.length_append,ae] at hx hy;obtain⟨h1,h2⟩:=ak (by decide) (by omega) (by omega) h;rw[AU x y (by omega) (by omega) h2,kP h1]
theorem gV {n m:Nat}(hn:n<18446744073709551616)(hm:m<18446744073709551616)(h:az n=az m):n=m:=by
 rw[<-oV n hn,<-oV m hm,h]
def FN (v:OV)(c:OC)(v':OV)(c':OC)(l:UInt8):Prop:=
 if l=110 then v.name=v'.name else if l=116 then v.to=v'.to else if l=97 then c.attrs=c'.attrs else if l=112 then c.parts=c'.parts else if l=99 then c.cursor=c'.cursor else v.n=v'.n
theorem Jo {v v':OV}{c c':OC}{l:UInt8}(h1:(bd v c l).length<=4194304)(h2:(bd v' c' l).length<=4194304)(n0:0<=v.n)(n1:v.n<9223372036854775808)(m0:0<=v'.n)(m1:v'.n<9223372036854775808)(h:bd v c l=bd v' c' l):FN v c v' c' l:=by
 unfold bd at h h1 h2;unfold FN;split
 ·rename_i e;rw[if_pos e,if_pos e] at h;exact kP h
 rename_i e1;rw[if_neg e1] at h1 h2;rw[if_neg e1,if_neg e1] at h;split
 ·rename_i e;rw[if_pos e,if_pos e] at h;exact kP h
 rename_i e2;rw[if_neg e2] at h1 h2;rw[if_neg e2,if_neg e2] at h;split
 ·rename_i e;rw[if_pos e,if_pos e] at h;rw[if_pos e] at h1 h2;exact lK _ _ h1 h2 h
 rename_i e3;rw[if_neg e3] at h1 h2;rw[if_neg e3,if_neg e3] at h;split
 ·rename_i e;rw[if_pos e,if_pos e] at h;rw[if_pos e] at h1 h2;exact AU _ _ h1 h2 h
 rename_i e4;rw[if_neg e4,if_neg e4] at h;split
 ·rename_i e;rw[if_pos e,if_pos e] at h;exact h
 rename_i e5;rw[if_neg e5,if_neg e5] at h;have:=gV (by omega) (by omega) h;omega
structure OnlyL (ls:List UInt8)(v:OV)(c:OC):Prop where
 name:110∉ls->v.name=⟨#[]⟩
 to_:116∉ls->v.to=⟨#[]⟩
 attrs:97∉ls->c.attrs=[]
 parts:112∉ls->c.parts=[]
 cursor:99∉ls->c.cursor=[]
 n:107∉ls->v.n=0
theorem OnlyL.of_may {v:OV}{c:OC}(h:aB v c=true):OnlyL (fieldsOf v.k) v c:=by
 unfold aB dV at h;simp only[Bool.and_eq_true,decide_eq_true_eq,Bool.not_eq_true'] at h;obtain⟨⟨⟨⟨⟨⟨h1,h2⟩,h3⟩,h4⟩,h5⟩,h6⟩,h7⟩:=h;unfold bK at h2;simp only[decide_eq_true_eq] at h2;obtain⟨-,e2,e3,e4,e5,e6,e7⟩:=h2;refine⟨fun h=>?_,fun h=>?_,fun h=>?_,fun h=>?_,fun h=>?_,fun h=>?_⟩
 ·rw[e2];unfold eF;exact if_neg h
 ·rw[e3];unfold eF;exact if_neg h
 ·rw[e4];unfold jC;exact if_neg h
 ·rw[e5];unfold jC;exact if_neg h
 ·rw[e6];unfold jC;exact if_neg h
 rw[e7];unfold eF;exact if_neg h
theorem zq {v v':OV}{c c':OC}{ls:List UInt8}(hk:v.k=v'.k)(h:OnlyL ls v c)(h':OnlyL ls v' c')(hs:∀l∈ls,FN v c v' c' l):bK v c v' c'=true:=by
 refine KL ⟨hk,?_,?_,?_,?_,?_,?_⟩
 ·by_cases hm:110∈ls
  ·exact hs _ hm
  rw[h.name hm,h'.name hm]
 ·by_cases hm:116∈ls
  ·exact hs _ hm
  rw[h.to_ hm,h'.to_ hm]
 ·by_cases hm:97∈ls
  ·exact hs _ hm
  rw[h.attrs hm,h'.attrs hm]
 ·by_cases hm:112∈ls
  ·exact hs _ hm
  rw[h.parts hm,h'.parts hm]
 ·by_cases hm:99∈ls
  ·exact hs _ hm
  rw[h.cursor hm,h'.cursor hm]
 by_cases hm:107∈ls
 ·exact hs _ hm
 rw[h.n hm,h'.n hm]
theorem Fg {v:OV}{c:OC}(h:aB v c=true):1<=v.k/\v.k<=8:=by
 unfold aB dV at h;simp only[Bool.and_eq_true,decide_eq_true_eq,Bool.not_eq_true'] at h;have h1:=h.1.1.1.1.1.1;rcases sQ v.k with hf | ⟨hk,hf⟩ | ⟨hk,hf⟩ | ⟨hk,hf⟩ | ⟨hk,hf⟩ | ⟨hk,hf⟩ | ⟨hk,hf⟩ | ⟨hk,hf⟩ | ⟨hk,hf⟩
 ·exact absurd hf h1
 all_goals omega
theorem pX {W:World}{v:OV}{c:OC}(ho:OpAt W v c)(h:aB v c=true):(∀l,(bd v c l).length<=200000)/\0<=v.n/\v.n<=1000:=by
 obtain⟨h1,h2,h3⟩:=mr W ho h;exact⟨fun l=>by have:=h3 l;rw[Lm] at this;omega,h1.n0,h1.n1⟩
theorem qi (v:OV)(c:OC)(ls:List UInt8):ig v c ls=val 1 (az v.k.toNat)++ls.flatMap (fun l=>val (tg l) (bd v c l)):=by
 unfold ig;rw[show gJ v c=fun l=>val (tg l) (bd v c l) from funext (uZ v c)]
theorem front {W:World}{v v':OV}{c c':OC}{ls more r:List UInt8}(hk0:0<=v.k)(hk1:v.k<9223372036854775808)(hg:∀l∈ls,(bd v c l).length<=4194304)(ho:OpAt W v' c')(hm:aB v' c'=true)(hf:fieldsOf v.k=ls++more)
  (h:opL v' c'=ig v c ls++r):v.k=v'.k/\(∀l∈ls,bd v c l=bd v' c' l)/\r=more.flatMap (fun l=>val (tg l) (bd v' c' l)):=by
 obtain⟨hb,hn0,hn1⟩:=pX ho hm;have hk:=Fg hm;unfold opL at h;rw[qi,qi,List.append_assoc] at h;obtain⟨h1,h2⟩:=ak (by decide) (by rw[ah];omega) (by rw[ah];omega) h;have h3:=gV (by omega) (by omega) h1;have h4:v.k=v'.k:=by omega
 rw[<-h4,hf,List.flatMap_append] at h2;obtain⟨h5,h6⟩:=strip (f:=bd v' c') (g:=bd v c) ls (fun l hl=>⟨by have:=hb l;omega,hg l hl⟩) h2;exact⟨h4,fun l hl=>(h5 l hl).symm,h6.symm⟩
structure Part (b:List UInt8)(v:OV)(c:OC)(ls:List UInt8)(s:RS):Prop where
 k0:0<=v.k
 k1:v.k<9223372036854775808
 only:OnlyL ls v c
 n0:0<=v.n
 n1:v.n<9223372036854775808
 good:∀l∈ls,s.bad=false->(bd v c l).length<=4194304
 yes:s.bad=false->b=ig v c ls++s.l
 no:s.bad=true->yN b
 le:s.l.length<=b.length
theorem Part.step {b:List UInt8}{v v':OV}{c c':OC}{ls more:List UInt8}{s s':RS}{x:UInt8}(h:Part b v c ls s)(hk:v'.k=v.k)(hf:fieldsOf v.k=ls++x::more)(heq:∀l∈ls,bd v' c' l=bd v c l)(honly:OnlyL (ls++[x]) v' c')
  (n0:0<=v'.n) (n1:v'.n<9223372036854775808) (hle:s'.l.length<=s.l.length)
  (hyes:s'.bad=false->s.bad=false/\s.l=gJ v' c' x++s'.l/\(bd v' c' x).length<=4194304)
  (hno:s'.bad=true->s.bad=true\/∀W v2 c2 rest,OpAt W v2 c2->aB v2 c2=true->s.l≠gJ v2 c2 x++rest):Part b v' c' (ls++[x]) s' where
 k0:=by rw[hk];exact h.k0
 k1:=by rw[hk];exact h.k1
 only:=honly
 n0:=n0
 n1:=n1
 good:=fun l hl hb=>by
  obtain⟨h1,h2,h3⟩:=hyes hb;rcases List.mem_append.1 hl with hl | hl
  ·rw[heq l hl];exact h.good l hl h1
  rw[List.mem_singleton.1 hl];exact h3
 yes:=fun hb=>by
  obtain⟨h1,h2,h3⟩:=hyes hb;rw[h.yes h1,h2,qi,qi,hk,List.flatMap_append,List.flatMap_cons,List.flatMap_nil,List.append_nil,uZ];rw[show ls.flatMap (fun l=>val (tg l) (bd v' c' l))=ls.flatMap (fun l=>val (tg l) (bd v c l)) from by
   rw[List.flatMap_def,List.flatMap_def]
   congr 1
   exact List.map_congr_left (fun l hl=>by rw[heq l hl])]
  simp only[List.append_assoc]
 no:=fun hb=>by
  rcases hno hb with h1 | h1
  ·exact h.no h1
  intro W v2 c2 ho hm e;cases hs:s.bad with
  | true=>exact h.no hs W v2 c2 ho hm e
  | false=>
   have h2:=h.yes hs;obtain⟨_,_,h5⟩:=front h.k0 h.k1 (fun l hl=>h.good l hl hs) ho hm hf (e.trans h2);refine h1 W v2 c2 (more.flatMap (fun l=>val (tg l) (bd v2 c2 l))) ho hm ?_;rw[h5,List.flatMap_cons,uZ]
 le:=Nat.le_trans hle h.le
theorem Part.done {b:List UInt8}{v:OV}{c:OC}{s:RS}(h:Part b v c (fieldsOf v.k) s)(hb:s.bad=false)(hl:s.l=[]):opL v c=b:=by
 have:=h.yes hb;rw[hl,List.append_nil] at this;exact this.symm
theorem Part.left {b:List UInt8}{v:OV}{c:OC}{s:RS}(h:Part b v c (fieldsOf v.k) s)(hl:s.bad=true\/0<s.l.length):yN b:=by
 cases hb:s.bad with
 | true=>exact h.no hb
 | false=>
  intro W v2 c2 ho hm e;have h2:=h.yes hb;obtain⟨_,_,h5⟩:=front (more:=[]) h.k0 h.k1 (fun l hl=>h.good l hl hb) ho hm (by simp) (e.trans h2);rcases hl with hl | hl
  ·rw[hb] at hl;cases hl
  rw[h5] at hl;simp at hl
theorem CJ {W W':World}{v v':OV}{c c':OC}(ho:OpAt W v c)(ho':OpAt W' v' c')(h:bK v c v' c'=true):aB v c=aB v' c':=by
 have la:c.attrs.length=v.an:=by have:=ho.a.1;rw[fE] at this;omega
 have lb:c.parts.length=v.bn:=by have:=ho.b.1;rw[iZ] at this;omega
 have lc:c.cursor.length=v.cn:=by have:=ho.c.1;rw[aS] at this;omega
 have la':c'.attrs.length=v'.an:=by have:=ho'.a.1;rw[fE] at this;omega
 have lb':c'.parts.length=v'.bn:=by have:=ho'.b.1;rw[iZ] at this;omega
 have lc':c'.cursor.length=v'.cn:=by have:=ho'.c.1;rw[aS] at this;omega
 unfold bK at h;simp only[decide_eq_true_eq] at h;obtain⟨e1,e2,e3,e4,e5,e6,e7⟩:=h;unfold aB dV nO bK eF jC;rw[<-la,<-lb,<-lc,<-la',<-lb',<-lc'];simp only[e1,e2,e3,e4,e5,e6,e7]
theorem Part.notMay {W:World}{b:List UInt8}{v:OV}{c:OC}{s:RS}(h:Part b v c (fieldsOf v.k) s)(hb:s.bad=false)(hl:s.l=[])(ho:OpAt W v c)(hm:aB v c=false):yN b:=by
 intro W2 v2 c2 ho2 hm2 e;have h2:=h.yes hb;rw[hl] at h2;obtain⟨h3,h4,_⟩:=front (more:=[]) h.k0 h.k1 (fun l hl=>h.good l hl hb) ho2 hm2 (by simp) (e.trans h2);obtain⟨hbd,m0,m1⟩:=pX ho2 hm2;have hs:bK v c v2 c2=true:=by
  refine zq h3 h.only (by rw[h3];exact OnlyL.of_may hm2) (fun l hl=>?_);exact Jo (h.good l hl hb) (by have:=hbd l;omega) h.n0 h.n1 m0 (by omega) (h4 l hl)
 rw[CJ ho ho2 hs,hm2] at hm;cases hm
theorem OJ {W W':World}{v v':OV}{c c':OC}(ho:OpAt W v c)(ho':OpAt W' v' c')(hm:aB v c=true)(hm':aB v' c'=true)(h:opL v c=opL v' c'):bK v c v' c'=true:=by
 have hk:=Fg hm;obtain⟨hbd,n0,n1⟩:=pX ho hm;obtain⟨hbd',m0,m1⟩:=pX ho' hm';obtain⟨h3,h4,_⟩:=front (v:=v) (c:=c) (ls:=fieldsOf v.k) (more:=[]) (r:=[]) (by omega) (by omega) (fun l _=>by have:=hbd l;omega) ho' hm' (by simp) (by rw[<-h];unfold opL;simp);refine zq h3 (OnlyL.of_may hm) (by rw[h3];exact OnlyL.of_may hm') (fun l hl=>?_);exact Jo (by have:=hbd l;omega) (by have:=hbd' l;omega) n0 (by omega) m0 (by omega) (h4 l hl)
theorem Ai {k:Int}{j:Nat}{x:UInt8}(h:(fieldsOf k)[j]?=some x):fieldsOf k=(fieldsOf k).take j++x::(fieldsOf k).drop (j+1)/\(fieldsOf k).take (j+1)=(fieldsOf k).take j++[x]/\x∉(fieldsOf k).take j:=by
 have hj:j<(fieldsOf k).length:=(List.getElem?_eq_some_iff.1 h).1;have hx:(fieldsOf k)[j]=x:=(List.getElem?_eq_some_iff.1 h).2;refine⟨?_,?_,?_⟩
 ·rw[<-hx,<-List.drop_eq_getElem_cons hj,List.take_append_drop]
 ·rw[List.take_succ_eq_append_getElem hj,hx]
 rcases sQ k with hf | ⟨_,hf⟩ | ⟨_,hf⟩ | ⟨_,hf⟩ | ⟨_,hf⟩ | ⟨_,hf⟩ | ⟨_,hf⟩ | ⟨_,hf⟩ | ⟨_,hf⟩
 all_goals
  rw[hf] at h ⊢;rcases j with _ | _ | _ | j<;>simp at h<;>subst h<;>decide
end Go.Proofs.YtfmmandlmbcncaaGreatDoor.Msg
namespace Go.Proofs.YtfmmandlmbcncaaGreatDoor.Tlv
open Go.RowKit Mem
theorem oW (B g:Nat)(s:RS)(t:UInt8)(f:FuncId)(caps:Array Value)(W:World)(hr:RdS B g s W)(hl:s.l.length<=100000000)
  (hf:∀args w,(callFunc f args).run Tryz.prog w=.ok (.enter f args) w)
  (Inv:Nat->List UInt8->List UInt8->World->Prop) (Bad:List UInt8->World->Prop)
  (hbad:∀rest w',Bad rest w'->RdS B g ⟨rest,false⟩ w') (hib:∀q rest b w',Inv q rest b w'->RdS q q ⟨b,false⟩ w')
  (hinit:∀x rest ao cap w1,s.take t=(some x,⟨rest,false⟩)->W.grownBy w1 (some g)->RdS B g ⟨rest,false⟩ w1->Rd w1 1 ao x.length cap (byV x)->Ty8 w1 ao cap ->
   Inv w1.heap.size rest x (w1.alloc (.cells #[.slice ao x.length cap,.bool false,.bool true] 237)))
  (hstep:∀q rest b wr,0<b.length->Inv q rest b wr->Calls Tryz.prog f (#[.pointer (some ⟨q,0,none⟩)]++caps) wr fun e w'=>∃r s',e=.returned (.bool r)/\RdS q q s' w'/\s'.l.length<=b.length/\(¬(r=true/\s'.bad=false/\s'.l.length<b.length)->Bad rest w') /\
   (r=true->s'.bad=false->s'.l.length<b.length->Inv q rest s'.l w')) :
  Calls Tryz.prog 207 #[.pointer (some ⟨g,0,none⟩),.int .u8 (t.toNat:Int),.func (.func f) #[] caps] W fun e w'=>
   ((s.take t).1=none/\e=.returned (.bool false)/\RdS B g (s.take t).2 w'/\W.grownBy w' (some g)) \/
   ∃x rest,s.take t=(some x,⟨rest,false⟩)/\((e=.returned (.bool true)/\∃q,Inv q rest [] w')\/(e=.returned (.bool false)/\∃wx,Bad rest wx/\w'=wx.setCell ⟨g,1,none⟩ (.bool true))):=by
 have hc:=take_any B g s t W hr hl;unfold iV at hc;have hlen:∀x rest,s.take t=(some x,⟨rest,false⟩)->x.length<=s.l.length:=by
  intro x rest h;unfold RS.take at h;split at h
  ·cases h
  split at h
  ·rename_i h1 h2;have:=Option.some.inj (congrArg Prod.fst h);rw[<-this];have h5:=nI s.l h2.1;have:=jU s.l;omega
  cases h
 have hshape:∀x s',s.take t=(some x,s')->s'.bad=false:=by
  intro x s' h;unfold RS.take at h;split at h
  ·cases h
  split at h
  ·have:=congrArg Prod.snd h;dsimp only at this;rw[<-this]
  cases h
 generalize s.take t=tk at *;obtain⟨ox,s'⟩:=tk;have hfn:∀(w:World),Sem.run Tryz.prog (binOp BinOp.eql 274 (.func (.func f) #[] caps) .nilFunc) w=.ok (.bool false) w:=fun _=>by kernel_rfl
 cases ox with
 | none=>
  clear hinit hstep hbad hib hfn;go_in;go_wp2_with fail;refine hc.mono ?_;rintro e w' ⟨h1,h2,rfl⟩;go_wp2;go_ret;exact .inl ⟨by first | rfl | trivial,rfl,h1,h2⟩
 | some x=>
  have hb:=hshape x s' rfl;obtain⟨rest,bad⟩:=s';dsimp only at hb hc;subst hb;have hxl:=hlen x rest rfl;have Hinit:=Lib.hid (fun ao cap w1=>hinit x rest ao cap w1 rfl);have Hstep:=Lib.hid hstep;have Hbad:=Lib.hid hbad;have Hib:=Lib.hid hib;clear hinit hstep hbad hib hlen hshape;go_in;go_wp2_with fail;refine hc.mono ?_;rintro e w1 ⟨h1,h2,ao,cap,rfl,h4,h5⟩;have hi0:=Hinit.out ao cap w1 h2 h1 h4 h5;go_wp2;go_loopw [] (fun wr=>∃b:List UInt8,b.length<=x.length/\Inv w1.heap.size rest b wr) (fun wr=>match wr.cell? ⟨w1.heap.size,0,none⟩ with | some (.slice _ n _)=>n | _=>0)
  case atStart=>exact⟨x,Nat.le_refl _,hi0⟩
  case round=>
   obtain⟨b,hbl,hi⟩:=hrel;obtain⟨aoi,capi,hri⟩:=Hib.out _ _ _ _ hi;have hati:=hri.at_;dsimp only at hati;have d0:wr.cell? ⟨w1.heap.size,0,none⟩=some (.slice aoi b.length capi):=by simp[World.cell?,hati]
   by_cases hb0:0<b.length
   ·have f0:decide ((0:Int)<(b.length:Int))=true:=decide_eq_true (by omega);go_wp2_with fail;refine (Hstep.out _ _ _ wr hb0 hi).mono ?_;rintro e w2 ⟨r,⟨l2,bad2⟩,rfl,⟨ao2,cap2,hr2⟩,hle2,hB,hnext⟩;have hat2:=hr2.at_;dsimp only at hat2 hle2 hnext;have e0:w2.cell? ⟨w1.heap.size,0,none⟩=some (.slice ao2 l2.length cap2):=by simp[World.cell?,hat2]
    have e1:w2.cell? ⟨w1.heap.size,1,none⟩=some (.bool bad2):=by simp[World.cell?,hat2]
    cases r with
    | false=>
     clear hnext;have hB:=hB (by rintro⟨h,_⟩;cases h);obtain⟨aog,capg,hg⟩:=Hbad.out _ _ hB;have hatg:=hg.at_;have c1:w2.cell? ⟨g,1,none⟩=some (.bool false):=by simp[World.cell?,hatg]
     have z1:w2.frozen? ⟨g,1,none⟩=false:=by simp[World.frozen?,hatg]
     have HB:=Lib.hid hB;clear hB;go_wp2;go_ret;exact .inr ⟨x,rest,rfl,.inr ⟨rfl,w2,HB.out,rfl⟩⟩
    | true=>
     cases bad2 with
     | true=>
      clear hnext;have hB:=hB (by rintro⟨_,h,_⟩;cases h);obtain⟨aog,capg,hg⟩:=Hbad.out _ _ hB;have hatg:=hg.at_;have c1:w2.cell? ⟨g,1,none⟩=some (.bool false):=by simp[World.cell?,hatg]
      have z1:w2.frozen? ⟨g,1,none⟩=false:=by simp[World.frozen?,hatg]
      have HB:=Lib.hid hB;clear hB;go_wp2;go_ret;exact .inr ⟨x,rest,rfl,.inr ⟨rfl,w2,HB.out,rfl⟩⟩
     | false=>
      by_cases hlt:l2.length<b.length
      ·have f5:((l2.length:Int)==(b.length:Int))=false:=by simp;omega
       have hI:=hnext rfl rfl hlt;clear hnext hB;go_wp2;go_roundw
       case rel=>exact⟨l2,by omega,hI⟩
       case measure=>simp only[e0,d0];omega
      have f5:((l2.length:Int)==(b.length:Int))=true:=by simp;omega
      clear hnext;have hB:=hB (by rintro⟨_,_,h⟩;exact hlt h);obtain⟨aog,capg,hg⟩:=Hbad.out _ _ hB;have hatg:=hg.at_;have c1:w2.cell? ⟨g,1,none⟩=some (.bool false):=by simp[World.cell?,hatg]
      have z1:w2.frozen? ⟨g,1,none⟩=false:=by simp[World.frozen?,hatg]
      have HB:=Lib.hid hB;clear hB;go_wp2;go_ret;exact .inr ⟨x,rest,rfl,.inr ⟨rfl,w2,HB.out,rfl⟩⟩
   have f0:decide ((0:Int)<(b.length:Int))=false:=decide_eq_false (by omega);have hbn:b=[]:=List.eq_nil_of_length_eq_zero (by omega);go_wp2_with fail;go_ret;subst hbn;exact .inr ⟨x,rest,rfl,.inl ⟨rfl,_,hi⟩⟩
end Go.Proofs.YtfmmandlmbcncaaGreatDoor.Tlv
