/-A part of the proof.-/
import Derived.WalkSpells
import Derived.WalkLawsBesides
import Derived.OwnWalkIn
import Derived.ProofKit
import Derived.Deep.RegionHeld3
import Derived.Deep.DrawnRows
import Derived.Deep.QuietTactic
import Derived.BigQuiet
import Derived.Deep.RegionLaw
import Derived.Deep.DeepCutAuto
import Derived.Deep.CutBlock
import Derived.RangeFuncNested
import Derived.RangeFuncBound
import Derived.RangeFuncCalls
import Derived.RangeFuncLeaves
import Derived.RangeFuncBox
import Derived.Shelf.Abstract
import Derived.Shelf.RegionOpen
import Derived.TacticsInMore
import Derived.LoopNIn
import Derived.LoopIn
import Derived.Test.YtfmmandlmbcncaaGreatDoorRows
import Derived.Test.YtfmmandlmbcncaaGreatDoorKfaa
set_option maxHeartbeats 40000000
set_option maxRecDepth 100000
set_option linter.all false
namespace Go.Proofs.YtfmmandlmbcncaaGreatDoor
namespace Utf
def bt (l:List UInt8)(i:Nat):Int:=((l.getD i 0).toNat:Int)
theorem jk (l:List UInt8)(i:Nat):0<=bt l i:=by unfold bt;omega
theorem jV (l:List UInt8)(i:Nat):bt l i<256:=by unfold bt;have:=ybo (l.getD i 0);omega
theorem U5 (c:UInt8)(l:List UInt8):bt (c::l) 0=(c.toNat:Int):=rfl
def may (r:Int):Bool:=decide (0<=r)&&(decide (r<=1114111)&&(decide (r<55296)||decide (57343<r)))
theorem jL (r:Int):may r=true↔0<=r/\r<=1114111/\(r<55296\/57343<r):=by simp[may]
theorem Lu (r:Int):may r=false↔¬(0<=r/\r<=1114111/\(r<55296\/57343<r)):=by rw[<-jL];simp
def size (r:Int):Int:=if may r=false then 0 else if r<128 then 1 else if r<2048 then 2 else if r<65536 then 3 else 4
def oU (c:Int):Int:=if c<128 then c else if 194<=c/\c<224 then c % 32 else if 224<=c/\c<240 then c % 16 else if 240<=c/\c<245 then c % 8 else 0
def jH (c:Int):Int:=if c<128 then 0 else if 194<=c/\c<224 then 1 else if 224<=c/\c<240 then 2 else if 240<=c/\c<245 then 3 else -1
def nums (r:Int):List Int:=
 if r<=127 then [r] else if r<=2047 then [192+r / 64,128+r % 64]
 else if r<=65535 then [224+r / 4096,128+r / 64 % 64,128+r % 64]
 else [240+r / 262144,128+r / 4096 % 64,128+r / 64 % 64,128+r % 64]
def ofN (n:Int):UInt8:=UInt8.ofNat n.toNat
theorem Bj (n:Int)(h0:0<=n)(h1:n<256):((ofN n).toNat:Int)=n:=by
 unfold ofN;rw[yaT];omega
theorem Ry (c:UInt8)(n:Int)(h:(c.toNat:Int)=n):c=ofN n:=by
 unfold ofN;subst h;simp
def enc (r:Int):List UInt8:=(nums r).map ofN
def v3 (l:List UInt8):Int:=(bt l 0 % 16*64+bt l 1 % 64)*64+bt l 2 % 64
def v4 (l:List UInt8):Int:=((bt l 0 % 8*64+bt l 1 % 64)*64+bt l 2 % 64)*64+bt l 3 % 64
def nx (l:List UInt8):Int×Nat:=
 if 1<=l.length/\bt l 0<128 then (bt l 0,1)
 else if 2<=l.length/\194<=bt l 0/\bt l 0<224/\bt l 1 / 64=2 then (bt l 0 % 32*64+bt l 1 % 64,2)
 else if 3<=l.length/\224<=bt l 0/\bt l 0<240/\bt l 1 / 64=2/\bt l 2 / 64=2/\2048<=v3 l/\(v3 l<55296\/57343<v3 l) then (v3 l,3)
 else if 4<=l.length/\240<=bt l 0/\bt l 0<245/\bt l 1 / 64=2/\bt l 2 / 64=2/\bt l 3 / 64=2/\65536<=v4 l/\v4 l<=1114111 then (v4 l,4)
 else (0,0)
theorem qm (r:Int):(nums r).length=(if r<=127 then 1 else if r<=2047 then 2 else if r<=65535 then 3 else 4):=by
 unfold nums;repeat (split<;>try rfl)
theorem jf (r:Int):(enc r).length=(nums r).length:=by simp[enc]
theorem xn (r:Int):1<=(enc r).length:=by rw[jf,qm];repeat (split<;>try omega)
theorem yS (r:Int):(enc r).length<=4:=by rw[jf,qm];repeat (split<;>try omega)
theorem Oi (r:Int)(h:may r=true):size r=((enc r).length:Int):=by
 rw[jf,qm];unfold size;rw[h];simp only[Bool.true_eq_false,if_false]
 repeat (first | (split<;>try omega))
theorem Js (a b:List UInt8)(i:Nat)(h:i<a.length):bt (a++b) i=bt a i:=by
 unfold bt;rw[yaW,ybe h,<-yaW]
theorem KG (r:Int)(i:Nat)(h:i<(nums r).length)(h0:∀n∈nums r,0<=n/\n<256):bt (enc r) i=(nums r).getD i 0:=by
 unfold bt enc;have hi:i<((nums r).map ofN).length:=by simpa using h
 rw[yaW,yac hi,yaW,yac h];simp only[ybD,List.getElem_map];have:=h0 _ (ybK h);exact Bj _ this.1 this.2
theorem Ag (r:Int)(h:may r=true):∀n∈nums r,0<=n/\n<256:=by
 rw[jL] at h;obtain⟨h0,h1,h2⟩:=h;unfold nums;intro n hn
 repeat' split at hn
 all_goals (simp at hn;omega)
theorem KY (r:Int)(t:List UInt8)(h:may r=true):nx (enc r++t)=(r,(enc r).length):=by
 have hb:=Ag r h;have h':=h;rw[jL] at h';obtain⟨h0,h1,h2⟩:=h';have hl:=qm r;have hlen:(nums r).length<=(enc r++t).length:=by simp[enc]
 have hB:∀i,i<(nums r).length->bt (enc r++t) i=(nums r).getD i 0:=fun i hi=>by
  rw[Js _ _ _ (by rw[jf];exact hi),KG r i hi hb]
 have hel:=jf r;by_cases c1:r<=127
 ·have hn:nums r=[r]:=by unfold nums;rw[if_pos c1]
  rw[hn] at hB hlen hel;have b0:=hB 0 (by simp);simp at b0 hel;simp only[yaF,ybj] at hlen;unfold nx;rw[if_pos ⟨by omega,by omega⟩,b0,hel]
 by_cases c2:r<=2047
 ·have hn:nums r=[192+r / 64,128+r % 64]:=by unfold nums;rw[if_neg c1,if_pos c2]
  rw[hn] at hB hlen hel;have b0:=hB 0 (by simp);have b1:=hB 1 (by simp);simp at b0 b1 hel;simp only[yaF,ybj] at hlen;unfold nx;rw[if_neg (by omega),if_pos ⟨by omega,by omega,by omega,by omega⟩,b0,b1,hel];exact Prod.ext (by show _=r;omega) rfl
 by_cases c3:r<=65535
 ·have hn:nums r=[224+r / 4096,128+r / 64 % 64,128+r % 64]:=by unfold nums;rw[if_neg c1,if_neg c2,if_pos c3]
  rw[hn] at hB hlen hel;have b0:=hB 0 (by simp);have b1:=hB 1 (by simp);have b2:=hB 2 (by simp);simp at b0 b1 b2 hel;simp only[yaF,ybj] at hlen;have hv:v3 (enc r++t)=r:=by unfold v3;rw[b0,b1,b2];omega
  unfold nx;rw[if_neg (by omega),if_neg (by omega),if_pos ⟨by omega,by omega,by omega,by omega,by omega,by omega,by omega⟩,hv,hel]
 have hn:nums r=[240+r / 262144,128+r / 4096 % 64,128+r / 64 % 64,128+r % 64]:=by unfold nums;rw[if_neg c1,if_neg c2,if_neg c3]
 rw[hn] at hB hlen hel;have b0:=hB 0 (by simp);have b1:=hB 1 (by simp);have b2:=hB 2 (by simp);have b3:=hB 3 (by simp);simp at b0 b1 b2 b3 hel;simp only[yaF,ybj] at hlen;have hv:v4 (enc r++t)=r:=by unfold v4;rw[b0,b1,b2,b3];omega
 unfold nx;rw[if_neg (by omega),if_neg (by omega),if_neg (by omega),if_pos ⟨by omega,by omega,by omega,by omega,by omega,by omega,by omega,by omega⟩,hv,hel]
theorem Dl (l:List UInt8)(h:1<=l.length):l.take 1=[ofN (bt l 0)]:=by
 match l,h with
 | a::t,_=>simp only[List.take,U5];rw[Ry a _ rfl];simp[ofN]
theorem jC (l:List UInt8)(k:Nat)(h:k<l.length):l.take (k+1)=l.take k++[ofN (bt l k)]:=by
 rw[yau h]
 congr 2
 apply Ry;unfold bt;rw[yaW,yac h];rfl
theorem sQ (l:List UInt8)(r:Int)(n:Nat)(h:nx l=(r,n))(hn:n≠0):may r=true/\n=(enc r).length/\n<=l.length/\l.take n=enc r:=by
 have l0:=jk l 0;have g0:=jV l 0;have l1:=jk l 1;have g1:=jV l 1;have l2:=jk l 2;have g2:=jV l 2;have l3:=jk l 3;have g3:=jV l 3;unfold nx at h;split at h
 ·rename_i c;obtain⟨rfl,rfl⟩:=Prod.mk.inj h;have e:nums (bt l 0)=[bt l 0]:=by unfold nums;rw[if_pos (by omega)]
  refine⟨by rw[jL];omega,by rw[jf,e];rfl,c.1,?_⟩;rw[jC _ _ (by omega)];simp[enc,e]
 split at h
 ·rename_i _ c;obtain⟨rfl,rfl⟩:=Prod.mk.inj h;have e:nums (bt l 0 % 32*64+bt l 1 % 64)=[bt l 0,bt l 1]:=by
   unfold nums;rw[if_neg (by omega),if_pos (by omega)];congr 1;· omega
   congr 1;omega
  refine⟨by rw[jL];omega,by rw[jf,e];rfl,c.1,?_⟩;rw[jC _ _ (by omega),jC _ _ (by omega)];simp[enc,e]
 split at h
 ·rename_i _ _ c;obtain⟨rfl,rfl⟩:=Prod.mk.inj h;obtain⟨c1,c2,c3,c4,c5,c6,c7⟩:=c;have hv:v3 l=(bt l 0 % 16*64+bt l 1 % 64)*64+bt l 2 % 64:=rfl;have e:nums (v3 l)=[bt l 0,bt l 1,bt l 2]:=by
   unfold nums;rw[if_neg (by omega),if_neg (by omega),if_pos (by omega)];congr 1;· omega
   congr 1;· omega
   congr 1;omega
  refine⟨by rw[jL];omega,by rw[jf,e];rfl,c1,?_⟩;rw[jC _ _ (by omega),jC _ _ (by omega),jC _ _ (by omega)];simp[enc,e]
 split at h
 ·rename_i _ _ _ c;obtain⟨rfl,rfl⟩:=Prod.mk.inj h;obtain⟨c1,c2,c3,c4,c5,c6,c7,c8⟩:=c;have hv:v4 l=((bt l 0 % 8*64+bt l 1 % 64)*64+bt l 2 % 64)*64+bt l 3 % 64:=rfl;have e:nums (v4 l)=[bt l 0,bt l 1,bt l 2,bt l 3]:=by
   unfold nums;rw[if_neg (by omega),if_neg (by omega),if_neg (by omega)];congr 1;· omega
   congr 1;· omega
   congr 1;· omega
   congr 1;omega
  refine⟨by rw[jL];omega,by rw[jf,e];rfl,c1,?_⟩;rw[jC _ _ (by omega),jC _ _ (by omega),jC _ _ (by omega),jC _ _ (by omega)];simp[enc,e]
 obtain⟨rfl,rfl⟩:=Prod.mk.inj h;exact absurd rfl hn
theorem uK (l:List UInt8)(r:Int)(n:Nat)(hm:may r=true)(he:enc r=l.take n)(hn:n<=l.length):nx l=(r,n):=by
 have hl:(enc r).length=n:=by rw[he,yaV];omega
 have:l=enc r++l.drop n:=by rw[he,ybf]
 rw[this,KY r _ hm,hl]
theorem lD (l:List UInt8)(h:(nx l).2=0):nx l=(0,0):=by
 rcases hx:nx l with ⟨r,n⟩;rw[hx] at h;obtain rfl:n=0:=h;unfold nx at hx
 repeat' split at hx
 all_goals first | exact hx.symm | (exfalso;have:=(Prod.mk.inj hx).2;omega)
theorem DJ (l:List UInt8):(nx l).2<=4:=by
 by_cases h:(nx l).2=0
 ·omega
 have:=(sQ l (nx l).1 (nx l).2 rfl h).2.1;have:=yS (nx l).1;omega
end Utf
namespace Utf
open Go.RowKit
variable{a a' b b':Int}{k l:IntKind}
theorem NW(h:a=b):Ending.returned (.int k a)=.returned (.int k b):=by rw[h]
theorem Na{a b:Bool}(h:a=b):Ending.returned (.bool a)=.returned (.bool b):=by rw[h]
theorem Nu(h:a=a')(g:b=b'):Ending.returned (.tuple #[.int k a,.int l b])=.returned (.tuple #[.int k a',.int l b']):=by rw[h,g]
theorem IJ{m:IntKind}{c c':Int}(h:a=a')(g:b=b')(i:c=c'):Ending.returned (.tuple #[.int k a,.int l b,.int m c])=.returned (.tuple #[.int k a',.int l b',.int m c']):=by rw[h,g,i]
theorem MK(c:Int)(w:World)(h0:0<=c)(h1:c<256) :
  Calls Tryz.prog 235 #[.int .u8 c] w fun e w'=>e=.returned (.tuple #[.int .i32 (oU c),.int .i64 (jH c)])/\w=w':=by
 go_in;go_wp2
 all_goals
  go_ret2;exact⟨Nu (by unfold oU;repeat (first | rw[if_pos (by omega)] | rw[if_neg (by omega)])) (by unfold jH;repeat (first | rw[if_pos (by omega)] | rw[if_neg (by omega)])),rfl⟩
theorem FY(r:Int)(w:World) :
  Calls Tryz.prog 226 #[.int .i32 r] w fun e w'=>e=.returned (.bool (may r))/\w=w':=by
 go_in;go_wp2
 all_goals
  go_ret;refine⟨Na ?_,rfl⟩;rw[ybk,jL];simp;omega
theorem Dh(r:Int)(w:World) :
  Calls Tryz.prog 184 #[.int .i32 r] w fun e w'=>e=.returned (.bool (may r))/\w=w':=by
 go_in;go_wp2
 all_goals
  go_ret;refine⟨Na ?_,rfl⟩;rw[ybk,jL];simp;omega
theorem size_any(r:Int)(w:World) :
  Calls Tryz.prog 182 #[.int .i32 r] w fun e w'=>e=.returned (.int .i64 (size r))/\w=w':=by
 cases hm:may r
 ·have H:Hid (may r=false):=hm;go_in;go_wp2_with (go_at_call 226;refine (FY _ _).mono ?_;rintro e w' ⟨rfl,rfl⟩);go_ret;exact⟨NW (by unfold size;rw[if_pos H.out]),rfl⟩
 have H:Hid (may r=true):=hm;go_in;go_wp2_with (go_at_call 226;refine (FY _ _).mono ?_;rintro e w' ⟨rfl,rfl⟩)
 all_goals
  go_ret;exact⟨NW (by unfold size;rw[if_neg (by rw[H.out];decide)];repeat (first | rw[if_pos (by omega)] | rw[if_neg (by omega)])),rfl⟩
theorem tJ(s:ByteArray)(i:Nat)(h:i<s.size):((s[i].toNat:Nat):Int)=bt s.data.toList i:=by
 unfold bt;rw[yaW,yac (by simpa using h)];rfl
theorem dI(s:ByteArray):s.data.toList.length=s.size:=by simp
def acc (l:List UInt8):Nat->Int
 | 0=>oU (bt l 0)
 | k+1=>acc l k*64+bt l (k+1) % 64
def Jmp (s:ByteArray)(w:World)(a':Act)(w':World):Prop:=w=w'/\(nx s.data.toList).2=0/\∃u1 u2 u3 u4 u5 u6 u7 u8 u9 u10 u11 u12 u13 u14 u15 u16 u17 u18 u19 u20 u21 u22 u23 u24 u25 u26 u27 u28 u29 u30 u31 u32 u33 u34 u35 u36 u37 u38 u39 u40 u41 u42 u43 u44 u45 u46 u47 u48 u49 u50 u51:Value,a'={ tmps:=#[Value.string s,u1,u2,u3,u4,u5,u6,u7,u8,u9,u10,u11,u12,u13,u14,u15,u16,u17,u18,u19,u20,u21,u22,u23,u24,u25,u26,u27,u28,u29,u30,u31,u32,u33,u34,u35,u36,u37,u38,u39,u40,u41,u42,u43,u44,u45,u46,u47,u48,u49,u50,u51],defers:=[] }
theorem yO(l:List UInt8)(h:l=[]\/jH (bt l 0)<0\/(l.length:Int)<=jH (bt l 0)):(nx l).2=0:=by
 have l0:=jk l 0;have hk:l.length=0\/jH (bt l 0)<0\/(l.length:Int)<=jH (bt l 0):=by
  rcases h with h | h | h
  ·exact .inl (by rw[h];rfl)
  ·exact .inr (.inl h)
  exact .inr (.inr h)
 unfold nx;unfold jH at hk
 repeat' split at hk
 all_goals
  repeat (first | rw[if_neg (by omega)])
theorem QU(l:List UInt8)(k:Nat)(hk:(k:Int)<jH (bt l 0))(h:bt l (k+1) / 64≠2):(nx l).2=0:=by
 have l0:=jk l 0;unfold jH at hk;unfold nx
 repeat' split at hk
 ·omega
 ·obtain rfl:k=0:=by omega
  have h':bt l 1 / 64≠2:=h
  repeat (first | rw[if_neg (by omega)])
 ·rcases (by omega:k=0\/k=1) with rfl|rfl
  ·have h':bt l 1 / 64≠2:=h
   repeat (first | rw[if_neg (by omega)])
  have h':bt l 2 / 64≠2:=h
  repeat (first | rw[if_neg (by omega)])
 ·rcases (by omega:k=0\/k=1\/k=2) with rfl|rfl|rfl
  ·have h':bt l 1 / 64≠2:=h
   repeat (first | rw[if_neg (by omega)])
  ·have h':bt l 2 / 64≠2:=h
   repeat (first | rw[if_neg (by omega)])
  have h':bt l 3 / 64≠2:=h
  repeat (first | rw[if_neg (by omega)])
 omega
theorem Ti(l:List UInt8)(n:Nat)(hn:jH (bt l 0)=(n:Int))(hl:n<l.length)(hc:∀j,j<n->bt l (j+1) / 64=2) :
  nx l=if size (acc l n)=(n:Int)+1 then (acc l n,n+1) else (0,0):=by
 have l0:=jk l 0;have g0:=jV l 0;have l1:=jk l 1;have g1:=jV l 1;have l2:=jk l 2;have g2:=jV l 2;have l3:=jk l 3;have g3:=jV l 3;have hsz:∀r:Int,size r=if ¬(0<=r/\r<=1114111/\(r<55296\/57343<r)) then 0 else if r<128 then 1 else if r<2048 then 2 else if r<65536 then 3 else 4:=by
  intro r;unfold size;by_cases h:may r=false
  ·rw[if_pos h,if_pos ((Lu r).1 h)]
  rw[if_neg h,if_neg (fun hh=>h ((Lu r).2 hh))]
 unfold jH at hn;have h3:v3 l=(bt l 0 % 16*64+bt l 1 % 64)*64+bt l 2 % 64:=rfl;have h4:v4 l=((bt l 0 % 8*64+bt l 1 % 64)*64+bt l 2 % 64)*64+bt l 3 % 64:=rfl;unfold nx;by_cases c1:bt l 0<128
 ·rw[if_pos c1] at hn;obtain rfl:n=0:=by omega
  have ha:acc l 0=bt l 0:=by unfold acc oU;rw[if_pos c1]
  have hs:size (bt l 0)=1:=by rw[hsz,if_neg (by omega),if_pos c1]
  rw[if_pos ⟨by omega,c1⟩,ha,hs,if_pos (by omega)]
 rw[if_neg c1] at hn;by_cases c2:194<=bt l 0/\bt l 0<224
 ·rw[if_pos c2] at hn;obtain rfl:n=1:=by omega
  have ha:acc l 1=bt l 0 % 32*64+bt l 1 % 64:=by unfold acc acc oU;rw[if_neg c1,if_pos c2]
  have k0:bt l 1 / 64=2:=hc 0 (by omega);have hs:size (bt l 0 % 32*64+bt l 1 % 64)=2:=by rw[hsz,if_neg (by omega),if_neg (by omega),if_pos (by omega)]
  rw[if_neg (by omega),if_pos ⟨by omega,by omega,by omega,by omega⟩,ha,hs,if_pos (by omega)]
 rw[if_neg c2] at hn;by_cases c3:224<=bt l 0/\bt l 0<240
 ·rw[if_pos c3] at hn;obtain rfl:n=2:=by omega
  have ha:acc l 2=v3 l:=by unfold acc acc acc oU v3;rw[if_neg c1,if_neg c2,if_pos c3]
  have k0:bt l 1 / 64=2:=hc 0 (by omega);have k1:bt l 2 / 64=2:=hc 1 (by omega);rw[if_neg (by omega),if_neg (by omega),ha];by_cases hv:2048<=v3 l/\(v3 l<55296\/57343<v3 l)
  ·have hs:size (v3 l)=3:=by rw[hsz,if_neg (by omega),if_neg (by omega),if_neg (by omega),if_pos (by omega)]
   rw[if_pos ⟨by omega,by omega,by omega,by omega,by omega,hv.1,hv.2⟩,hs,if_pos (by omega)]
  have hs:size (v3 l)≠(2:Nat)+1:=by
   rw[hsz];repeat' split
   all_goals omega
  rw[if_neg (by omega),if_neg (by omega),if_neg hs]
 rw[if_neg c3] at hn;by_cases c4:240<=bt l 0/\bt l 0<245
 ·rw[if_pos c4] at hn;obtain rfl:n=3:=by omega
  have ha:acc l 3=v4 l:=by unfold acc acc acc acc oU v4;rw[if_neg c1,if_neg c2,if_neg c3,if_pos c4]
  have k0:bt l 1 / 64=2:=hc 0 (by omega);have k1:bt l 2 / 64=2:=hc 1 (by omega);have k2:bt l 3 / 64=2:=hc 2 (by omega);rw[if_neg (by omega),if_neg (by omega),if_neg (by omega),ha];by_cases hv:65536<=v4 l/\v4 l<=1114111
  ·have hs:size (v4 l)=4:=by rw[hsz,if_neg (by omega),if_neg (by omega),if_neg (by omega),if_neg (by omega)]
   rw[if_pos ⟨by omega,by omega,by omega,by omega,by omega,by omega,hv.1,hv.2⟩,hs,if_pos (by omega)]
  have hs:size (v4 l)≠(3:Nat)+1:=by
   rw[hsz];repeat' split
   all_goals omega
  rw[if_neg (by omega),if_neg hs]
 rw[if_neg c4] at hn;omega
theorem Ji(l:List UInt8):∀k,k<=3->0<=acc l k/\acc l k<256*64 ^ k
 | 0,_=>by
  have:=jk l 0;have:=jV l 0;unfold acc oU;repeat' split
  all_goals omega
 | k+1,h=>by
  have ih:=Ji l k (by omega);have:=jk l (k+1);have:=jV l (k+1);rw[acc,Int.pow_succ];omega
theorem AX(b:Int)(h0:0<=b)(h1:b<256):bits .and .u8 b 192=b / 64*64:=by
 rw[u8_and b 192 h0 h1 (by omega) (by omega)];obtain⟨n,rfl⟩:=Int.eq_ofNat_of_zero_le h0;have hn:n<256:=by omega
 have:∀m:Fin 256,(m.val &&& 192)=m.val / 64*64:=by decide +kernel
 have h:=this ⟨n,hn⟩;simp only[yct] at h ⊢;rw[show (192:Int).toNat=192 from rfl,h];omega
theorem O4(b:Int)(h0:0<=b)(h1:b<256)(h:(bits .and .u8 b 192 != 128)=true):b / 64≠2:=by
 rw[AX b h0 h1,bne_iff_ne] at h;omega
theorem Qj(b:Int)(h0:0<=b)(h1:b<256)(h:(bits .and .u8 b 192 != 128)=false):b / 64=2:=by
 rw[AX b h0 h1,bne_eq_false_iff_eq] at h;omega
theorem NK(l:List UInt8)(k:Nat)(h0:0<=bt l (k+1))(h1:bt l (k+1)<256)(ha:0<=acc l k/\acc l k<256*64 ^ k)(hk:k<3) :
  bits .or .i32 (wrap32 (acc l k*64)) (wrap32 (bits .and .u8 (bt l (k+1)) 63))=acc l (k+1):=by
 have hb:acc l k<1048576:=by
  rcases (by omega:k=0\/k=1\/k=2) with rfl|rfl|rfl<;>omega
 have e1:wrap32 (acc l k*64)=acc l k*64:=by unfold wrap32;omega
 have e2:wrap32 (bt l (k+1) % 64)=bt l (k+1) % 64:=by unfold wrap32;omega
 rw[u8_and63 _ h0 h1,e1,e2,i32_or6 _ _ (by omega) (by omega) (by omega) (by omega) (by omega)];rfl
theorem next_any(s:ByteArray)(w:World)(hs:s.size<=maxLen)(hpos:0<s.size) :
  Calls Tryz.prog 225 #[.string s] w fun e w'=>e=.returned (.tuple #[.int .i32 (nx s.data.toList).1,.int .i64 ((nx s.data.toList).2:Int),.int .i64 (if (nx s.data.toList).2=0 then 5 else 0)])/\w=w':=by
 unfold maxLen at hs;have hne:s.toList.isEmpty=false:=by
  rw[ybq];cases h:s.data.toList with
  | nil=>have:=dI s;rw[h] at this;simp at this;omega
  | cons a t=>rfl
 have h0:=Lib.hid (tJ s 0 hpos);go_in;go_wp2;refine wp_scope_jumps 0 (Jmp s w) (fun _ _=>0) rfl ?_ ?_
 ·go_wp2_with fail;rw[h0.out];have l0:=jk s.data.toList 0;have g0:=jV s.data.toList 0;refine (MK _ _ l0 g0).mono ?_;rintro e w' ⟨rfl,rfl⟩;have hd:=dI s;by_cases c1:jH (bt s.data.toList 0)<0\/(s.size:Int)<=jH (bt s.data.toList 0)
  ·have hb:=Lib.hid (yO s.data.toList (by rw[hd];exact .inr c1));clear hd;go_wp2
   all_goals go_step3
   all_goals exact⟨rfl,rfl,hb.out,_,_,_,_,_,_,_,_,_,_,_,_,_,_,_,_,_,_,_,_,_,_,_,_,_,_,_,_,_,_,_,_,_,_,_,_,_,_,_,_,_,_,_,_,_,_,_,_,_,_,_,rfl⟩
  obtain⟨n,hn⟩:∃n:Nat,jH (bt s.data.toList 0)=(n:Int):=⟨(jH (bt s.data.toList 0)).toNat,by omega⟩
  have hn3:n<=3:=by unfold jH at hn;repeat' split at hn<;>omega
  have hns:n<s.size:=by omega
  rw[hn];have Hn:=Lib.hid hn;have e0:oU (bt s.data.toList 0)=acc s.data.toList 0:=rfl;rw[e0];clear hn c1 hd e0 l0 g0;have d1:decide ((n:Int)<0)=false:=by simp
  have d2:decide (s.size<=n)=false:=by simp;omega
  go_wp2
  go_loop [5,25] (fun r i=>∃k:Nat,k<=n/\i=.int .i64 k/\r=.int .i32 (acc s.data.toList k)/\Hid (∀j,j<k->bt s.data.toList (j+1) / 64=2)) (fun _ i=>n-(intOf i).toNat)
  case atStart=>exact⟨0,yam _,rfl,rfl,Lib.hid (fun j hj=>by omega)⟩
  case round=>
   obtain⟨k,hk,rfl,rfl,Hc⟩:=hrel;by_cases hlt:k<n
   ·have hb:=Lib.hid (tJ s (k+1) (by omega));have l1:=jk s.data.toList (k+1);have g1:=jV s.data.toList (k+1);have hacc:=Ji s.data.toList k (by omega);go_wp2
    ·have ht:(bits BinOp.and IntKind.u8 (((s[k+1]'(by omega)).toNat:Nat):Int) 192 != 128)=true:=by assumption
     rw[hb.out] at ht
     go_step3
     exact⟨rfl,rfl,QU _ k (by rw[Hn.out];omega) (O4 _ l1 g1 ht),_,_,_,_,_,_,_,_,_,_,_,_,_,_,_,_,_,_,_,_,_,_,_,_,_,_,_,_,_,_,_,_,_,_,_,_,_,_,_,_,_,_,_,_,_,_,_,_,_,_,_,rfl⟩
    have ht:(bits BinOp.and IntKind.u8 (((s[k+1]'(by omega)).toNat:Nat):Int) 192 != 128)=false:=by assumption
    rw[hb.out] at ht
    go_round
    case rel=>
     refine⟨k+1,by omega,by go_num,?_,Lib.hid fun j hj=>?_⟩
     ·exact congrArg (Value.int .i32) (by rw[hb.out];exact NK _ k l1 g1 hacc (by omega))
     rcases ycH.1 hj with h | rfl
     ·exact Hc.out j h
     exact Qj _ l1 g1 ht
    case measure=>simp[intOf];omega
   have hkn:k=n:=by omega
   subst hkn;have hE:=Lib.hid (Ti s.data.toList k Hn.out (by rw[dI];exact hns) Hc.out);go_wp2_with fail;refine (size_any _ _).mono ?_;rintro e w' ⟨rfl,rfl⟩;by_cases hz:size (acc s.data.toList k)=(k:Int)+1
   ·have hz':=Lib.hid hz;rw[hz];clear hz;go_wp2;simp only[Exit.jump]
    go_ret3
    exact⟨IJ (by rw[hE.out,if_pos hz'.out]) (by rw[hE.out,if_pos hz'.out];rfl) (by rw[hE.out,if_pos hz'.out];rfl),rfl⟩
   have hz':=Lib.hid hz;have hz2:(size (acc s.data.toList k)==(k:Int)+1)=false:=by simpa using hz
   clear hz;go_wp2
   go_step3
   go_wp2;simp only[Exit.jump]
   go_ret3
   exact⟨IJ (by rw[hE.out,if_neg hz'.out]) (by rw[hE.out,if_neg hz'.out];rfl) (by rw[hE.out,if_neg hz'.out];rfl),rfl⟩
 rintro a' w' ⟨rfl,hz,u1,u2,u3,u4,u5,u6,u7,u8,u9,u10,u11,u12,u13,u14,u15,u16,u17,u18,u19,u20,u21,u22,u23,u24,u25,u26,u27,u28,u29,u30,u31,u32,u33,u34,u35,u36,u37,u38,u39,u40,u41,u42,u43,u44,u45,u46,u47,u48,u49,u50,u51,rfl⟩;have Hz:=Lib.hid hz;clear hz;go_wp2;simp only[Exit.jump]
 go_ret3
 exact⟨IJ (by rw[lD _ Hz.out]) (by rw[lD _ Hz.out];rfl) (by rw[lD _ Hz.out];rfl),rfl⟩
theorem NF(s:ByteArray)(w:World)(hz:s.size=0) :
  Calls Tryz.prog 225 #[.string s] w fun e w'=>e=.returned (.tuple #[.int .i32 (nx s.data.toList).1,.int .i64 ((nx s.data.toList).2:Int),.int .i64 (if (nx s.data.toList).2=0 then 5 else 0)])/\w=w':=by
 have hl:s.data.toList=[]:=by apply yat;rw[dI,hz]
 have hne:s.toList.isEmpty=true:=by rw[ybq,hl];rfl
 have hn:=Lib.hid (lD _ (yO s.data.toList (.inl hl)));have hj:=Lib.hid (yO s.data.toList (.inl hl));clear hl hz;go_in;go_wp2;refine wp_scope_jumps 0 (Jmp s w) (fun _ _=>0) rfl ?_ ?_
 ·go_wp2
  go_step3
  exact⟨rfl,rfl,hj.out,_,_,_,_,_,_,_,_,_,_,_,_,_,_,_,_,_,_,_,_,_,_,_,_,_,_,_,_,_,_,_,_,_,_,_,_,_,_,_,_,_,_,_,_,_,_,_,_,_,_,_,rfl⟩
 rintro a' w' ⟨rfl,hz,u1,u2,u3,u4,u5,u6,u7,u8,u9,u10,u11,u12,u13,u14,u15,u16,u17,u18,u19,u20,u21,u22,u23,u24,u25,u26,u27,u28,u29,u30,u31,u32,u33,u34,u35,u36,u37,u38,u39,u40,u41,u42,u43,u44,u45,u46,u47,u48,u49,u50,u51,rfl⟩;clear hz;go_wp2;simp only[Exit.jump]
 go_ret3
 exact⟨IJ (by rw[hn.out]) (by rw[hn.out];rfl) (by rw[hn.out];rfl),rfl⟩
theorem FZ(s:ByteArray)(w:World)(hs:s.size<=maxLen) :
  Calls Tryz.prog 225 #[.string s] w fun e w'=>e=.returned (.tuple #[.int .i32 (nx s.data.toList).1,.int .i64 ((nx s.data.toList).2:Int),.int .i64 (if (nx s.data.toList).2=0 then 5 else 0)])/\w=w':=by
 by_cases h:s.size=0
 ·exact NF s w h
 exact next_any s w hs (by omega)
end Utf
namespace Mem
open Go.RowKit
variable{a:Act}{ao:Option Addr}{base cap n size:Nat}{e:TypeId}{o:Oper}{ops:Array Oper}{rest:List Oper}{v:Value}{w':World}{xs:List Value}
def Rd (w:World)(size:Nat)(ao:Option Addr)(n cap:Nat)(xs:List Value):Prop:=
 xs.length=n*size/\n<=cap/\cap<=maxLen/\(ao=none->cap=0) /\
  (0<cap->∀a,ao=some a->a.spot=none/\a.block<w.heap.size/\∀j u,xs[j]?=some u->w.cell? ⟨a.block,a.off+j,none⟩=some u)
theorem Rd.nil(w:World)(size:Nat):Rd w size none 0 0 []:=⟨by simp,yag _,yam _,fun _=>rfl,fun _ _ h=>by cases h⟩
theorem Rd.len{w:World}(h:Rd w size ao n cap xs):xs.length=n*size:=h.1
theorem Rd.le{w:World}(h:Rd w size ao n cap xs):n<=cap:=h.2.1
theorem Rd.empty{w:World}(h:Rd w size ao n cap xs)(h0:cap=0):n=0/\xs=[]:=by
 have hn:n=0:=by have:=h.2.1;omega
 subst hn;exact⟨rfl,yat (by simpa using h.1)⟩
theorem Rd.lt{w:World}(h:Rd w size ao n cap xs)(h0:0<cap):∀a,ao=some a->a.block<w.heap.size:=fun a ha=>(h.2.2.2.2 h0 a ha).2.1
theorem Rd.below{w:World}{B:Nat}(h:Rd w size ao n cap xs)(hb:Below B w w')(hlt:0<cap->∀a,ao=some a->a.block<B):Rd w' size ao n cap xs:=by
 obtain⟨h1,h2,h3,h4,h5⟩:=h;refine⟨h1,h2,h3,h4,fun h0 a ha=>?_⟩;obtain⟨s,l,c⟩:=h5 h0 a ha;exact⟨s,yaz l hb.size,fun j u hu=>(hb.cell (p:=⟨a.block,a.off+j,none⟩) (hlt h0 a ha)).trans (c j u hu)⟩
theorem Rd.later{w:World}(h:Rd w size ao n cap xs)(hb:Below w.heap.size w w'):Rd w' size ao n cap xs:=h.below hb h.lt
theorem Rd.some{w:World}(h:Rd w size ao n cap xs)(hn:0<cap):∃b off,ao=some ⟨b,off,none⟩/\b<w.heap.size/\∀j u,xs[j]?=Option.some u->w.cell? ⟨b,off+j,none⟩=Option.some u:=by
 cases ao with
 | none=>have:=h.2.2.2.1 rfl;omega
 | some a=>
  obtain⟨s,l,c⟩:=h.2.2.2.2 hn a rfl;obtain⟨b,off,sp⟩:=a;dsimp only at s l c;subst s;exact⟨b,off,rfl,l,c⟩
theorem Rd.of_own{w:World}(h:w.ownsRow base e size v n xs):∃ao cap,v=.slice ao n cap/\Rd w size ao n cap xs:=by
 have h':=h;obtain⟨h1,h2⟩:=h;rcases h2 with ⟨rfl,rfl⟩ | ⟨g,cap,cur,rfl,hb,hg,hn,hc,hs,ht⟩
 ·exact⟨none,0,rfl,by simpa using h1,yag _,yam _,fun _=>rfl,fun _ _ h=>by cases h⟩
 refine⟨_,cap,rfl,h1,hn,hc,(fun h=>by cases h),fun _ a ha=>?_⟩;cases ha;refine⟨rfl,(lA hg),fun j u hu=>?_⟩;have:=h'.cells (g:=g) rfl j u hu;rw[ycI] at this;exact this
theorem Rd.of_own_slice{w:World}(h:w.ownsRow base e size (.slice ao n cap) n xs):Rd w size ao n cap xs:=by
 obtain⟨a',c',he,hr⟩:=Rd.of_own h;cases he;exact hr
theorem ag{w:World}(h:w.ownsRow base e size v n xs)(hb:Below w.heap.size w w'):w'.ownsRow base e size v n xs:=by
 obtain⟨h1,h2⟩:=h;refine⟨h1,?_⟩;rcases h2 with h2 | ⟨g,cap,cur,hv,hbg,hg,rest⟩
 ·exact .inl h2
 exact .inr ⟨g,cap,cur,hv,hbg,(hb.block g (lA hg)).trans hg,rest⟩
theorem Rd.new(w:World)(xs:List Value)(t:TypeId)(fr:Nat×Nat)(size n:Nat)(hl:xs.length=n*size)(hm:n<=maxLen):Rd (w.alloc (.cells xs.toArray t fr)) size (Option.some ⟨w.heap.size,0,none⟩) n n xs:=by
 refine⟨hl,yag _,hm,(fun h=>by cases h),fun _ a ha=>?_⟩;cases ha;refine⟨rfl,by simp,fun j u hu=>?_⟩;rw[ybL,yco];simpa using hu
structure SliceT (P:Program)(t e:TypeId)(z:Value)(size bytes:Nat):Prop where
 ht:P.underlying t=some (.slice e)
 info:(P.info? e).map (fun i=>(i.zero,i.size,i.bytes))=some (some z,size,bytes)
 hzs:z.cells.size=size
 hsz:0<size
section
variable {P:Program} (w:World)
theorem Rd.adds{w:World}{a:Addr}(h:Rd w size (Option.some a) n cap xs):∀j u,xs[j]?=Option.some u->w.cell? (a.add j)=Option.some u:=by
 intro j u hu;by_cases h0:cap=0
 ·rw[(h.empty h0).2] at hu;cases hu
 obtain⟨s,l,cc⟩:=h.2.2.2.2 (by omega) a rfl;have:=cc j u hu;obtain⟨b,off,sp⟩:=a;dsimp only at s;subst s;rw[ycI];exact this
theorem xk(base:Nat)(t ty e:TypeId)(z:Value)(size bytes:Nat)(T:SliceT P t e z size bytes)
  (v:Value) (n:Nat) (xs:List Value) (hown:w.ownsRow base e size v n xs) (ao:Option Addr) (m c:Nat) (news:List Value) (hr:Rd w size ao m c news) (h1:∀u∈news,u.oneCell'=true)
  (h63:n+m<=maxLen) (hbytes:(n+m)*bytes<=140737488355328) (hbase:base<=w.heap.size) :
  ∃ao' cap' w',(Builtin.append_ #[t,t] ty #[v,.slice ao m c]).run P w=.ok (.slice ao' (n+m) cap') w'/\w'.ownsRow base e size (.slice ao' (n+m) cap') (n+m) (xs++news)/\w.grownBy w' v.ownBlock/\Below base w w' /\
   (ao'=none↔v=.slice none 0 0/\m=0):=by
 obtain⟨i,hi,hz,hs,hby⟩:=info_parts T.info;have key:∃v' w',(Builtin.append_ #[t,t] ty #[v,.slice ao m c]).run P w=.ok v' w'/\w'.ownsRow base e size v' (n+m) (xs++news)/\w.grownBy w' v.ownBlock/\(v'=.slice none 0 0↔v=.slice none 0 0/\m=0):=by
  cases ao with
  | none=>
   have h0:c=0:=hr.2.2.2.1 rfl;have hm:m=0:=by have:=hr.2.1;omega
   subst h0;subst hm;have:news=[]:=yat (by simpa using hr.1);subst this;exact⟨v,w,run_append_owned_none (P:=P) w base t ty e i size T.ht hi v n xs hown,by simpa using hown,World.grownBy.refl _ _,by simp⟩
  | some a=>
   exact run_append_own (P:=P) w base t ty e i z size bytes T.ht hi hz hs hby T.hzs T.hsz v n xs hown a m c news hr.1 hr.adds h1 h63 hbytes hbase
 obtain⟨v',w',hrun,ho,hg,hn⟩:=key;obtain⟨ao',cap',rfl,hr'⟩:=Rd.of_own ho;refine⟨ao',cap',w',hrun,ho,hg,(yaj base w).grown hg hbase (fun k hk=>(hown.lt k hk).1),?_⟩;rw[<-hn];constructor
 ·rintro rfl;have hc0:=hr'.2.2.2.1 rfl;have:=hr'.2.1;have hz0:n+m=0:=by omega
  rw[hz0,hc0]
 intro h;exact (ybC h).1
theorem NR(t ty e:TypeId)(z:Value)(size bytes:Nat)(T:SliceT P t e z size bytes)(ao0:Option Addr)(n cap:Nat)(xs:List Value)(hr0:Rd w size ao0 n cap xs)
  (ao:Option Addr) (m c:Nat) (news:List Value) (hr:Rd w size ao m c news) (h1:∀u∈news,u.oneCell'=true) (hg:cap<n+m) (h63:n+m<=maxLen) (hbytes:(n+m)*bytes<=140737488355328) :
  ∃g cap' w',(Builtin.append_ #[t,t] ty #[.slice ao0 n cap,.slice ao m c]).run P w=.ok (.slice (some ⟨g,0,none⟩) (n+m) cap') w'/\w'.ownsRow w.heap.size e size (.slice (some ⟨g,0,none⟩) (n+m) cap') (n+m) (xs++news)/\Below w.heap.size w w':=by
 obtain⟨i,hi,hz,hs,hby⟩:=info_parts T.info;have hm:0<m:=by have:=hr0.2.1;omega
 obtain⟨b,off,rfl,_,hc⟩:=hr.some (by have:=hr.2.1;omega);have hc':∀j u,news[j]?=some u->w.cell? ((⟨b,off,none⟩:Addr).add j)=some u:=fun j u hu=>by rw[ycI];exact hc j u hu
 cases ao0 with
 | none=>
  have h0:cap=0:=hr0.2.2.2.1 rfl;have hn:n=0:=by have:=hr0.2.1;omega
  subst h0;subst hn;have hx:xs=[]:=yat (by simpa using hr0.1);subst hx;obtain⟨v',w',hrun,ho,hgr,hnil⟩:=run_append_own (P:=P) w w.heap.size t ty e i z size bytes T.ht hi hz hs hby T.hzs T.hsz (.slice none 0 0) 0 [] (yaC _ _ _ _) ⟨b,off,none⟩ m c news hr.1 hc'
   h1 h63 hbytes (yag _)
  rcases ho.2 with ⟨rfl,h0⟩ | ⟨g,cap',cur,rfl,_⟩
  ·omega
  exact⟨g,cap',w',hrun,by simpa using ho,(yaj _ w).grown hgr (yag _) (fun k hk=>by cases hk)⟩
 | some a0=>
  obtain⟨v',w',hrun,ho,hgr⟩:=run_append_arg_grows (P:=P) w t ty e i z size bytes T.ht hi hz hs hby T.hzs T.hsz a0 n cap xs hr0.1 hr0.adds ⟨b,off,none⟩ m c news hr.1 hc' hg h63 hbytes;rcases ho.2 with ⟨rfl,h0⟩ | ⟨g,cap',cur,rfl,_⟩
  ·omega
  exact⟨g,cap',w',hrun,ho,(yaj _ w).grown hgr (yag _) (fun k hk=>by cases hk)⟩
theorem dZ{Q:Exit->Act->World->Prop}(hgd:o.guard=none)(s x:Operand)(t:TypeId)
  (ho:o.op=.call { callee:=.builtin .append,args:=#[s,x],argTypes:=#[t,t] }) (base:Nat) (e:TypeId) (z:Value) (size bytes:Nat) (T:SliceT P t e z size bytes)
  (v:Value) (n:Nat) (xs:List Value) (hs:a.eval s=v) (hown:w.ownsRow base e size v n xs) (ao:Option Addr) (m c:Nat) (news:List Value) (hx:a.eval x=.slice ao m c) (hr:Rd w size ao m c news) (h1:∀u∈news,u.oneCell'=true)
  (h63:n+m<=maxLen) (hbytes:(n+m)*bytes<=140737488355328) (hbase:base<=w.heap.size)
  (h:∀ao' cap' w',w'.ownsRow base e size (.slice ao' (n+m) cap') (n+m) (xs++news)->w.grownBy w' v.ownBlock->Below base w w'->(ao'=none↔v=.slice none 0 0/\m=0)->wpList P ops Q rest (a.put o.dst (.slice ao' (n+m) cap')) w') :
  wpList P ops Q (o::rest) a w:=by
 refine wpList_plain hgd fun K hK=>?_;obtain⟨ao',cap',w',hrun,r1,r2,r3,r4⟩:=xk (P:=P) w base t o.type e z size bytes T v n xs hown ao m c news hr h1 h63 hbytes hbase;unfold Oper.wp execOp;simp only[ho,resolve,invoke,builtin,yaY,ybp,ycu,ycD,ybS,List.map_nil,hs,hx,hrun];exact hK _ _ (h ao' cap' w' r1 r2 r3 r4)
theorem fM{Q:Exit->Act->World->Prop}(hgd:o.guard=none)(s x:Operand)(t:TypeId)
  (ho:o.op=.call { callee:=.builtin .append,args:=#[s,x],argTypes:=#[t,t] }) (base:Nat) (e:TypeId) (z:Value) (size bytes:Nat) (T:SliceT P t e z size bytes) (hby:bytes<=10000)
  (v:Value) (n:Nat) (xs:List Value) (hs:a.eval s=v) (hown:w.ownsRow base e size v n xs) (m:Nat) (news:List Value) (hx:a.eval x=.slice (some ⟨w.heap.size,0,none⟩) m m) (hl:news.length=m*size) (h1:∀u∈news,u.oneCell'=true)
  (hbase:base<=w.heap.size) (hN:n+m<=10000000000)
  (h:∀ao' cap' w',w'.ownsRow base e size (.slice ao' (n+m) cap') (n+m) (xs++news)->(w.alloc (.cells news.toArray e)).grownBy w' v.ownBlock->Below base w w'->(ao'=none↔v=.slice none 0 0/\m=0)->wpList P ops Q rest (a.put o.dst (.slice ao' (n+m) cap')) w') :
  wpList P ops Q (o::rest) a (w.alloc (.cells news.toArray e)):=by
 have hb:(n+m)*bytes<=140737488355328:=by
  have:=Nat.mul_le_mul hN hby;omega
 refine dZ _ hgd s x t ho base e z size bytes T v n xs hs (hown.alloc _) _ m m news hx (Rd.new w news e (0,0) size m hl (by unfold maxLen;omega)) h1 (by unfold maxLen;omega) hb (by simp;omega) ?_;intro ao' cap' w' h1' h2' h3' h4';exact h ao' cap' w' h1' h2' (((yaj base w).alloc hbase _).trans h3') h4'
theorem one1(x:Value)(h:x.oneCell'=true):∀u∈[x],u.oneCell'=true:=by
 intro u hu;rw[yah] at hu;subst hu;exact h
def byV (l:List UInt8):List Value:=l.map fun c=>.int .u8 (c.toNat:Int)
theorem aV(l:List UInt8):(byV l).length=l.length:=by simp[byV]
theorem dS(a b:List UInt8):byV (a++b)=byV a++byV b:=by simp[byV]
theorem bM(l:List UInt8):∀u∈byV l,u.oneCell'=true:=by
 intro u hu;simp only[byV,ybM] at hu;obtain⟨c,_,rfl⟩:=hu;rfl
theorem Ak(src dst e:TypeId)(hs:P.underlying src=some (.slice e))(he:P.underlying e=some (.int .u8))(hd:P.underlying dst=some .string)(ao:Option Addr)(n cap:Nat)(l:List UInt8)(hr:Rd w 1 ao n cap (byV l)) :
  (convert src dst (.slice ao n cap)).run P w=.ok (.string ⟨l.toArray⟩) w:=by
 have hl:l.length=n:=by have:=hr.1;rw[aV] at this;omega
 subst hl;cases ao with
 | none=>
  have h0:cap=0:=hr.2.2.2.1 rfl;have hz:l=[]:=yat (by have:=hr.2.1;omega);subst hz;subst h0;exact run_convert_bytes_nil w src e hs he 0 0 dst hd
 | some a=>
  refine run_convert_bytes_back w src dst e _ cap l hs he hd (fun j hj=>?_);exact hr.adds j _ (by simp[byV,hj])
end
theorem Ql{H:Type}{enc:TypeId×Value->H}{P:Program}{W:World}{t:TypeId}{k:IntKind}{d:DataW H}{ps:List MemPlace}(ht:P.underlying t=some (.slice e))(he:P.underlying e=some (.int k))(hc:P.cellsOf e=1)
  (h:DataW.Trod enc P W 0 (fun _=>true) true t (.slice ao n cap) d ps):∃zs:List Int,Rd W 1 ao n cap (zs.map (Value.int k))/\∀z∈zs,(Lit.int k z).wf=true:=by
 obtain⟨fuel,hf⟩:=h;rcases ChangeShapes.open_ints ht he hc hf with ⟨hcs,_⟩ | ⟨a,l,c,zs,hcs,_,hl,hm,hz,hx,hcell,hwz⟩
 ·simp[Value.cells] at hcs;obtain⟨rfl,rfl,rfl⟩:=hcs;exact⟨[],Rd.nil _ _,fun _ h=>by cases h⟩
 simp[Value.cells] at hcs;obtain⟨rfl,rfl,rfl⟩:=hcs;simp only[if_true] at hz;refine⟨zs.take n,⟨by rw[ybl,yaV];omega,hl,hm,(fun h=>by cases h),fun h0 a' ha=>?_⟩,fun z hz'=>hwz z (ycz hz')⟩;cases ha;have hc0:=hcell 0 (by omega);have hs:a.spot=none:=by simpa [Addr.add] using World.cell?_spot hc0
 obtain⟨b,off,sp⟩:=a;dsimp only at hs;subst hs;refine⟨rfl,yaO W _ hc0,fun j u hu=>?_⟩;have hj:j<n:=by
  rcases Nat.lt_or_ge j n with h | h
  ·exact h
  rw[ybm (by rw[ybl,yaV];omega)] at hu;cases hu
 have:=hcell j (by omega);rw[ycI] at this;rw[this];rw[ybh,ybI hj] at hu;rw[yaW];rw[yac (by omega)] at hu ⊢;simpa using hu
end Mem
namespace Utf
open Go.RowKit Mem
variable{l:List UInt8}
attribute [local go_sem ↓] Go.wp_at_zero Go.wp_at_succ
theorem byT:SliceT Tryz.prog 34 5 (.int .u8 0) 1 1:=⟨Tryz.underlying34,by kernel_rfl,rfl,by decide⟩
def GivesB (w:World)(l:List UInt8)(e:Ending)(w':World):Prop:=∃ao cap,e=.returned (.slice ao l.length cap)/\Rd w' 1 ao l.length cap (byV l)/\Below w.heap.size w w'
theorem OY(r:Int)(h:may r=true):byV (enc r)=(nums r).map (Value.int .u8):=by
 unfold byV enc;rw[List.map_map];refine ycE fun n hn=>?_;have:=Ag r h n hn;simp only[Function.comp];rw[Bj n this.1 this.2]
theorem NE(r:Int)(w:World)(hm:may r=true) :
  Calls Tryz.prog 185 #[.int .i32 r] w (GivesB w (enc r)):=by
 obtain⟨m0,m1,m2⟩:=(jL r).1 hm;have H:=Lib.hid hm;have key:∀(c:List Int),nums r=c->c.length<=4->GivesB w (enc r) (.returned (.slice (some ⟨w.heap.size,0,none⟩) c.length c.length)) (w.alloc (.cells ((c.map (Value.int .u8)).toArray) 5)):=by
  intro c hc h4;have hl:(enc r).length=c.length:=by rw[jf,hc]
  refine⟨_,_,by rw[hl],?_,bN _ _⟩;rw[OY r H.out,hc,hl];exact Rd.new w _ _ _ 1 c.length (by simp) (by unfold maxLen;omega)
 have K:=Lib.hid key;clear hm m2 key;go_in;go_wp2
 ·go_ret;exact K.out [r] (by unfold nums;rw[if_pos (by assumption)]) (by simp)
 ·go_ret;exact K.out [192+r / 64,128+r % 64] (by unfold nums;rw[if_neg (by omega),if_pos (by omega)]) (by simp)
 ·go_ret;exact K.out [224+r / 4096,128+r / 64 % 64,128+r % 64] (by unfold nums;rw[if_neg (by omega),if_neg (by omega),if_pos (by omega)]) (by simp)
 go_ret;exact K.out [240+r / 262144,128+r / 4096 % 64,128+r / 64 % 64,128+r % 64] (by unfold nums;rw[if_neg (by omega),if_neg (by omega),if_neg (by omega)]) (by simp)
theorem gG(n:Int)(h₀:0<=n)(h₁:n<2 ^ 63):IntKind.i64.wrap n=n:=by rw[yaP];omega
def ruV (l:List Int):List Value:=l.map (Value.int .i32)
def dJ (l:List Int):List UInt8:=l.flatMap enc
theorem EC(l:List Int)(r:Int):dJ (l++[r])=dJ l++enc r:=by simp[dJ]
theorem xH(l:List Int)(r:Int):dJ (r::l)=enc r++dJ l:=by simp[dJ]
theorem take_at(l:List Int)(k:Nat)(h:k<l.length):l.take (k+1)=l.take k++[l[k]?.getD 0]:=by
 rw[yau h,yac h];rfl
theorem Ez(l:List Int)(k:Nat)(h:k<l.length):dJ (l.take (k+1))=dJ (l.take k)++enc (l[k]?.getD 0):=by
 rw[take_at l k h,EC]
def JU (l:List Int):Prop:=∀r∈l,may r=true
attribute [local go_sem ↓] Go.wp_at_zero Go.wp_at_succ
def md (n:Nat):Int:=if n=2 then 32 else if n=3 then 16 else if n=4 then 8 else 1
def cj (l:List UInt8)(n j:Nat):Int:=if j=0 then (if 1<n then bt l 0 % md n else bt l 0) else bt l j % 64
def rv (l:List UInt8)(n:Nat):Nat->Int
 | 0=>0
 | j+1=>64*rv l n j+cj l n j
theorem Tv(l:List UInt8)(n j:Nat):0<=cj l n j/\cj l n j<256:=by
 have:=jk l 0;have:=jV l 0;have:=jk l j;have:=jV l j;unfold cj md;repeat' split
 all_goals omega
theorem Sr(l:List UInt8)(n j:Nat)(h:0<j):cj l n j<64:=by
 have:=jk l j;have:=jV l j;unfold cj;rw[if_neg (by omega)];omega
theorem OL(l:List UInt8)(n:Nat):∀j,j<=4->0<=rv l n j/\rv l n j<8*64 ^ j
 | 0,_=>⟨Int.le_refl _,by rw[rv];decide⟩
 | j+1,h=>by
  have ih:=OL l n j (by omega);have hc:=Tv l n j;rw[rv,Int.pow_succ];by_cases hj:j=0
  ·subst hj;simp only[rv] at ih ⊢;omega
  have:=Sr l n j (by omega);omega
def found (l:List UInt8)(n:Nat):Prop:=may (rv l n n)=true/\enc (rv l n n)=l.take n
theorem RD(l:List UInt8)(r:Int)(n:Nat)(hm:may r=true)(he:l.take n=enc r)(hn:n=(enc r).length)(hnl:n<=l.length):rv l n n=r:=by
 have hb:=Ag r hm;have h':=hm;rw[jL] at h';obtain⟨h0,h1,h2⟩:=h';rw[jf] at hn;have hB:∀i,i<(nums r).length->bt l i=(nums r).getD i 0:=fun i hi=>by
  have h1:l=enc r++l.drop n:=by rw[<-he,ybf]
  rw[h1,Js _ _ _ (by rw[jf];exact hi),KG r i hi hb]
 have hl:=qm r;by_cases c1:r<=127
 ·have hn2:nums r=[r]:=by unfold nums;rw[if_pos c1]
  rw[hn2] at hB hn;have b0:=hB 0 (by simp);simp at b0 hn;subst hn;simp[rv,cj,b0]
 by_cases c2:r<=2047
 ·have hn2:nums r=[192+r / 64,128+r % 64]:=by unfold nums;rw[if_neg c1,if_pos c2]
  rw[hn2] at hB hn;have b0:=hB 0 (by simp);have b1:=hB 1 (by simp);simp at b0 b1 hn;subst hn;simp[rv,cj,md,b0,b1];omega
 by_cases c3:r<=65535
 ·have hn2:nums r=[224+r / 4096,128+r / 64 % 64,128+r % 64]:=by unfold nums;rw[if_neg c1,if_neg c2,if_pos c3]
  rw[hn2] at hB hn;have b0:=hB 0 (by simp);have b1:=hB 1 (by simp);have b2:=hB 2 (by simp);simp at b0 b1 b2 hn;subst hn;simp[rv,cj,md,b0,b1,b2];omega
 have hn2:nums r=[240+r / 262144,128+r / 4096 % 64,128+r / 64 % 64,128+r % 64]:=by unfold nums;rw[if_neg c1,if_neg c2,if_neg c3]
 rw[hn2] at hB hn;have b0:=hB 0 (by simp);have b1:=hB 1 (by simp);have b2:=hB 2 (by simp);have b3:=hB 3 (by simp);simp at b0 b1 b2 b3 hn;subst hn;simp[rv,cj,md,b0,b1,b2,b3];omega
theorem NC(l:List UInt8)(n:Nat)(h:found l n)(hn:n<=l.length):nx l=(rv l n n,n):=uK l _ n h.1 h.2 hn
theorem Qy(l:List UInt8)(h:∀n,1<=n->n<=4->n<=l.length->¬found l n):nx l=(0,0):=by
 apply lD;by_cases h0:(nx l).2=0
 ·exact h0
 obtain⟨a,b,c,d⟩:=sQ l (nx l).1 (nx l).2 rfl h0;have hr:=RD l (nx l).1 (nx l).2 a d b c;exact absurd ⟨by rw[hr];exact a,by rw[hr];exact d.symm⟩ (h (nx l).2 (by omega) (DJ l) c)
theorem Np(s:ByteArray)(i:Nat)(h:l=(s.extract 0 i).toList):l=s.data.toList.take i:=by
 rw[h,ybq];simp[ByteArray.extract,ByteArray.copySlice]
theorem JE(s:ByteArray)(i:Nat)(h:l=s.data.toList.take i):l=(s.extract 0 i).toList:=by
 rw[h,ybq];simp[ByteArray.extract,ByteArray.copySlice]
theorem Lp(r:Int)(w:World)(h:may r=false):Calls Tryz.prog 184 #[.int .i32 r] w fun e w'=>e=.returned (.bool false)/\w'=w:=
 (Dh r w).mono fun e w' ⟨he,hw⟩=>⟨by rw[he,h],hw.symm⟩
theorem N9(r:Int)(w:World)(h:may r=true):Calls Tryz.prog 184 #[.int .i32 r] w fun e w'=>e=.returned (.bool true)/\w=w':=
 (Dh r w).mono fun e w' ⟨he,hw⟩=>⟨by rw[he,h],hw⟩
theorem BC(s:ByteArray)(w:World)(hs:s.size<=maxLen) :
  Calls Tryz.prog 156 #[.string s] w fun e w'=>e=.returned (.tuple #[.int .i32 (nx s.data.toList).1,.int .i64 ((nx s.data.toList).2:Int)])/\Below w.heap.size w w':=by
 unfold maxLen at hs;go_in;go_wp2;go_loopw [4] (fun i wr=>∃k:Nat,1<=k/\k<=5/\i=.int .i64 k/\Hid (∀n,1<=n->n<k->n<=s.data.toList.length->¬found s.data.toList n)/\Below w.heap.size w wr) (fun i _=>5-(intOf i).toNat)
 case atStart=>exact⟨1,yag _,by omega,rfl,Lib.hid (fun n h1 h2=>by omega),yaj _ _⟩
 case round=>
  obtain⟨k,hk1,hk5,rfl,Hf,hbel⟩:=hrel;by_cases hlt:k<=4/\k<=s.size
  ·obtain⟨hk4,hks⟩:=hlt;have t1:decide ((k:Int)<=4)=true:=by simp;omega
   have t2:decide ((k:Int)<=(s.size:Int))=true:=by simp;omega
   go_wp2;obtain⟨wo,hwo⟩:∃wo:World,wo=wr:=⟨_,rfl⟩
   subst hwo;go_loopw [5,6] (fun r j wi=>∃i:Nat,i<=k/\j=.int .i64 i/\r=.int .i32 (rv s.data.toList k i)/\Below w.heap.size w wi) (fun _ j _=>k-(intOf j).toNat)
   case atStart=>exact⟨0,yam _,rfl,rfl,hbel⟩
   case round=>
    obtain⟨i,hik,rfl,rfl,hbi⟩:=hrel;by_cases hil:i<k
    ·have hb:=Lib.hid (tJ s i (by omega));have hu0:(0:Int)<=((s[i]'(by omega)).toNat:Int):=by omega
     have hu1:((s[i]'(by omega)).toNat:Int)<256:=by have:=ybo (s[i]'(by omega));omega
     have hrb:=OL s.data.toList k i (by omega);have hp:(64:Int) ^ i<=262144:=by
      rcases (by omega:i=0\/i=1\/i=2\/i=3) with rfl|rfl|rfl|rfl<;>decide
     have hr8:rv s.data.toList k i<2097152:=by omega
     have hr0:0<=rv s.data.toList k i:=hrb.1;have hstep:=Lib.hid (show rv s.data.toList k (i+1)=64*rv s.data.toList k i+cj s.data.toList k i from rfl);have hmd1:1<=md k:=by unfold md;repeat' split<;>omega
     have hmd2:md k<=32:=by unfold md;repeat' split<;>omega
     clear hrb hp;have hq0:0<=((s[i]'(by omega)).toNat:Int) % md k:=Int.emod_nonneg _ (by omega);have hq1:((s[i]'(by omega)).toNat:Int) % md k<32:=Int.lt_of_lt_of_le (Int.emod_lt_of_pos _ (by omega)) hmd2;by_cases hi0:i=0
     ·have z1:decide ((i:Int)=0)=true:=by simp;omega
      have z2:((i:Int)==0)=true:=by simp;omega
      have z3:i<=0:=by omega
      by_cases hk2:1<k
      ·have hcell:(wr.alloc (Obj.cells #[.int .i32 1,.int .i32 1,.int .i32 32,.int .i32 16,.int .i32 8] 21)).cell? ⟨wr.heap.size,k,none⟩=some (.int .i32 (md k)):=by
        rw[yco];rcases (by omega:k=2\/k=3\/k=4) with rfl|rfl|rfl<;>rfl
       have hc:=Lib.hid (show cj s.data.toList k i=bt s.data.toList i % md k by unfold cj;rw[if_pos hi0,if_pos hk2,hi0]);clear hi0;go_wp2;go_roundw
       case rel=>exact⟨i+1,by omega,by go_num,congrArg (Value.int .i32) (by rw[hstep.out,hc.out,hb.out]),hbi.alloc hbi.size _⟩
       case measure=>simp[intOf];omega
      have hc:=Lib.hid (show cj s.data.toList k i=bt s.data.toList i by unfold cj;rw[if_pos hi0,if_neg hk2,hi0]);clear hi0;go_wp2;go_roundw
      case rel=>exact⟨i+1,by omega,by go_num,congrArg (Value.int .i32) (by rw[hstep.out,hc.out,hb.out]),hbi⟩
      case measure=>simp[intOf];omega
     have z1:decide ((i:Int)=0)=false:=by simp;omega
     have z2:((i:Int)==0)=false:=by simp;omega
     have z3:0<i:=by omega
     have hc:=Lib.hid (show cj s.data.toList k i=bt s.data.toList i % 64 by unfold cj;rw[if_neg hi0]);clear hi0;go_wp2;go_roundw
     case rel=>exact⟨i+1,by omega,by go_num,congrArg (Value.int .i32) (by rw[hstep.out,hc.out,hb.out]),hbi⟩
     case measure=>simp[intOf];omega
    have hkn:i=k:=by omega
    subst hkn;have hd:=dI s;have Hd:=Lib.hid hd;clear hd;generalize hr:rv s.data.toList i i=r at *;have Hr:=Lib.hid hr;clear hr;cases hm:may r
    ·have Hm:=Lib.hid hm;clear hm;go_wp2
     go_quiet ((go_at_call 184;refine Calls.quiet_of_same (Lp _ _ Hm.out)))
     go_wp2;go_roundw
     case rel=>exact⟨i+1,by omega,by omega,by go_num,Lib.hid (fun n h1 h2 h3=>by
       rcases ycH.1 h2 with h | rfl
       ·exact Hf.out n h1 h h3
       intro hf;rw[found,Hr.out,Hm.out] at hf;cases hf.1),below_drewN hbi _⟩
     case measure=>simp[intOf];omega
    have Hm:=Lib.hid hm;clear hm;go_wp2
    go_region_law ((first | (go_simp;go_at_call 184;refine (N9 _ _ Hm.out).mono ?_;rintro e w' ⟨rfl,rfl⟩;dsimp only) | (go_simp;go_at_call 185;refine (NE _ _ Hm.out).mono ?_;rintro e w1 ⟨ao1,cap1,rfl,hrd1,hb1⟩;have hcv:=Ak (P:=Tryz.prog) w1 34 9 5 Tryz.underlying34 Tryz.underlying5 Tryz.underlying9 ao1 _ cap1 _ hrd1;dsimp only)))
    have hbw:Below w.heap.size w w1:=hbi.drew.trans (hb1.mono hbi.size);go_wp2
    ·have ht:(enc r==(s.extract 0 i).toList)=true:=by assumption
     have he:=Np s i (eq_of_beq ht);have hx:=NC s.data.toList i ⟨by rw[Hr.out];exact Hm.out,by rw[Hr.out];exact he⟩ (by rw[Hd.out];omega);go_ret2;exact⟨Nu (by rw[hx,Hr.out]) (by rw[hx]),hbw⟩
    have ht:(enc r==(s.extract 0 i).toList)=false:=by assumption
    go_roundw
    case rel=>exact⟨i+1,by omega,by omega,by go_num,Lib.hid (fun n h1 h2 h3=>by
      rcases ycH.1 h2 with h | rfl
      ·exact Hf.out n h1 h h3
      intro hf;rw[found,Hr.out] at hf;have:=JE s n hf.2;rw[this,beq_self_eq_true] at ht;cases ht),hbw⟩
    case measure=>simp[intOf];omega
  go_wp2
  all_goals
   go_ret2;have hz:=Qy s.data.toList (fun n h1 h2 h3=>Hf.out n h1 (by rw[dI] at h3;omega) h3);exact⟨Nu (by rw[hz]) (by rw[hz];rfl),hbel⟩
end Utf
namespace Utf
open Go.RowKit
theorem drop_at (l:List Int)(k:Nat)(h:k<l.length):l.drop k=(l[k]?.getD 0)::l.drop (k+1):=by
 rw[ycc h,yac h];rfl
theorem KQ (a:List Int)(i:Nat)(hi:i<a.length):(dJ (a.take (i+1))).length=(dJ (a.take i)).length+(enc (a[i]?.getD 0)).length:=by
 rw[Ez a i hi,yab]
theorem Jg (a:List Int)(i:Nat):(dJ (a.take i)).length<=(dJ a).length:=by
 have:dJ a=dJ (a.take i)++dJ (a.drop i):=by
  rw[dJ,dJ,dJ,<-ybV,ybf]
 rw[this,yab];omega
end Utf
namespace Utf
open Go.RowKit Mem
theorem N8 (l:List UInt8)(m:Nat):((ByteArray.mk l.toArray).extract m l.length).data.toList=l.drop m:=by
 simp[ByteArray.extract,ByteArray.copySlice];rw[yak (by simp)]
end Utf
namespace Utf
open Go.RowKit Go.Shelf Mem
variable{b:Nat}
attribute [local go_sem] Oper.semAt_some
def Gf:Nat->List UInt8->List Int
 | 0,_=>[]
 | f+1,l=>if (nx l).2=0 then [] else (nx l).1::Gf f (l.drop (nx l).2)
def runes (l:List UInt8):List Int:=Gf l.length l
def Dec (l:List UInt8)(rs:List Int):Prop:=JU rs/\(∃t,l=dJ rs++t/\nx t=(0,0))
theorem D6:∀(f:Nat) (l:List UInt8),l.length<=f->Dec l (Gf f l)
 | 0,l,h=>by
  have:l=[]:=yat (by omega);subst this;exact⟨fun r hr=>(by cases hr),[],rfl,lD _ (yO [] (.inl rfl))⟩
 | f+1,l,h=>by
  rw[Gf];by_cases h0:(nx l).2=0
  ·rw[if_pos h0];exact⟨fun r hr=>(by cases hr),l,rfl,lD l h0⟩
  rw[if_neg h0];obtain⟨a,b,c,d⟩:=sQ l (nx l).1 (nx l).2 rfl h0;obtain⟨e,t,g,i⟩:=D6 f (l.drop (nx l).2) (by rw[yaM];omega);refine⟨fun r hr=>?_,t,?_,i⟩
  ·rcases yas.1 hr with rfl | hr
   ·exact a
   exact e r hr
  rw[xH,<-d,yav,<-g,ybf]
theorem qP(l:List UInt8):Dec l (runes l):=D6 _ _ (yag _)
theorem KL(l:List UInt8):JU (runes l):=(qP l).1
def wh (l:List UInt8):Nat:=(dJ (runes l)).length
theorem I8(l:List UInt8):wh l<=l.length:=by
 obtain⟨_,t,h,_⟩:=qP l;have:=congrArg List.length h;rw[yab] at this;unfold wh;omega
theorem Jm(l:List UInt8):(runes l).length<=l.length:=by
 have h1:∀rs:List Int,rs.length<=(dJ rs).length:=by
  intro rs;induction rs with
  | nil=>simp
  | cons r rs ih=>have:=xn r;rw[xH,yab,yaF];omega
 have:=h1 (runes l);have:=I8 l;unfold wh at this;omega
def pl (rs:List Int)(k:Nat):Nat:=(dJ (rs.take k)).length
theorem Ac(rs:List Int)(k:Nat)(h:k<rs.length):pl rs (k+1)=pl rs k+(enc (rs[k]?.getD 0)).length:=KQ rs k h
theorem Ad(rs:List Int)(k:Nat)(h:rs.length<=k):pl rs k=(dJ rs).length:=by unfold pl;rw[yak h]
theorem OI(rs:List Int)(k:Nat):pl rs k<=(dJ rs).length:=Jg rs k
theorem OH(l:List UInt8)(k:Nat)(h:k<(runes l).length):nx (l.drop (pl (runes l) k))=((runes l)[k]?.getD 0,(enc ((runes l)[k]?.getD 0)).length)/\pl (runes l) k<l.length:=by
 obtain⟨hm,t,hl,_⟩:=qP l;generalize runes l=rs at *;subst hl;have e1:dJ rs=dJ (rs.take k)++(enc (rs[k]?.getD 0)++dJ (rs.drop (k+1))):=by
  conv=>lhs;rw[<-ybf k rs,drop_at _ k h]
  simp[dJ]
 have e2:(dJ rs++t).drop (pl rs k)=enc (rs[k]?.getD 0)++(dJ (rs.drop (k+1))++t):=by
  rw[e1];unfold pl;rw[yav,List.drop_left,yav]
 have hmr:may (rs[k]?.getD 0)=true:=hm _ (by rw[yac h];exact ybK _);refine⟨by rw[e2];exact KY _ _ hmr,?_⟩;have h2:=congrArg List.length e2;rw[yaM,yab] at h2;have:=xn (rs[k]?.getD 0);rw[yab] at *;omega
theorem FD(l:List UInt8):nx (l.drop (wh l))=(0,0):=by
 obtain⟨hm,t,hl,ht⟩:=qP l;unfold wh;generalize runes l=rs at *;subst hl;rw[List.drop_left];exact ht
abbrev PR:={ x:Nat×Int // x.1<=1099511627776/\may x.2=true }
def prV (x:PR):Array Value:=#[.int .i64 (x.1.1:Int),.int .i32 x.1.2]
def kM (rs:List Int)(k:Nat)(pre:List PR):Prop:=pre.length=k/\∀j,j<k->∃x,pre[j]?=some x/\x.1=(pl rs j,rs[j]?.getD 0)
attribute [local go_sem] Oper.semAt_some
theorem ww(s:ByteArray)(m:Nat):(s.extract m s.size).data.toList=s.data.toList.drop m:=by
 have:=N8 s.data.toList m;rw[dI] at this;simpa using this
theorem AC(s:ByteArray)(m:Nat):(s.extract m s.size).size=s.size-m:=by
 rw[<-dI,ww,yaM,dI]
def pU (b:Nat)(W W':World):Prop:=W'.heap[b]?=W.heap[b]?
theorem O9{A B C:World}(h:pU b A B)(k:pU b B C):pU b A C:=Eq.trans k h
theorem Ox{w:World}(hb:b<w.heap.size)(W:World)(l:Nat)(o o':Obj)(hl:w.heap.size<=l)(_:W.heap[l]?=some o)(_:o.isCells=false)(_:o.isWalk=false):pU b W (W.putObj l o'):=
 World.putObj_heap_other (by omega)
theorem J4(W:World)(p:Addr)(v:Value)(h:b≠p.block):pU b W (W.setCell p v):=yaA W p v b h
theorem vH{rs:List Int}{k:Nat}{pre:List PR}{x:PR}(h:kM rs k pre)(hx:x.1=(pl rs k,rs[k]?.getD 0)):kM rs (k+1) (pre++[x]):=by
 refine⟨by simp[h.1],fun j hj=>?_⟩;by_cases hjk:j<k
 ·obtain⟨y,hy,hy2⟩:=h.2 j hjk;exact⟨y,by rw[ybe (by rw[h.1];exact hjk)];exact hy,hy2⟩
 obtain rfl:j=k:=by omega
 exact⟨x,by rw[<-h.1];simp,hx⟩
theorem Jy(n:Nat)(hn:1<=n)(l Bn:Nat)(s:ByteArray)(hs:s.size<=1099511627776)(J Jx:List PR->World->Prop)
  (hY:∀pre x W,J pre W->pre.length<(runes s.data.toList).length->YieldAt Fence.wide (n-1) Tryz.prog l (prV x) W fun e W'=>
   (e=.returned (.bool true)/\J (pre++[x]) W'/\pU Bn W W')\/(e=.returned (.bool false)/\Jx (pre++[x]) W'))
  (W:World) (hBn:W.cell? ⟨Bn,0,none⟩=some (.string s)) (h0:J [] W) :
  CallsIn Fence.wide n Tryz.prog 224 #[.func (.yield l) #[] #[],.pointer (some ⟨Bn,0,none⟩)] W fun e W'=>(∃v,e=.returned v) /\
   ((∃xs,kM (runes s.data.toList) (runes s.data.toList).length xs/\J xs W')\/(∃pre,(∃k,1<=k/\k<=(runes s.data.toList).length/\kM (runes s.data.toList) k pre)/\Jx pre W')):=by
 have hsz:=dI s;have HS:=Lib.hid hsz;have hRm:=Lib.hid (KL s.data.toList);have hNx:=Lib.hid (fun k=>OH s.data.toList k);have hLast:=Lib.hid (FD s.data.toList);have hwl:=I8 s.data.toList;unfold wh at hLast hwl;have hpl:=Lib.hid (fun k=>OI (runes s.data.toList) k);have hpf:=Lib.hid (Ad (runes s.data.toList) (runes s.data.toList).length (yag _));have hps:=Lib.hid (fun k=>Ac (runes s.data.toList) k);rw[hsz] at hwl;clear hsz;have hJ:=Lib.hid hY;clear hY;generalize hrs:runes s.data.toList=rs at *;have Hrs:=Lib.hid hrs;clear hrs;refine callsIn_of_wp Tryz.func224 rfl trivial ?_ rfl;simp only[Tryz.ntmps224,List.size_toArray,yaF,ybj,Nat.reduceAdd,Nat.reduceSub,ycA,ycB,List.push_toArray,ycF,ybO,ybE]
 gi_wp2
 gi_loopw [3] (fun p wr=>∃(k:Nat) (pre:List PR),k<=rs.length/\p=.int .i64 ((pl rs k:Nat):Int)/\kM rs k pre/\J pre wr/\wr.cell? ⟨Bn,0,none⟩=some (.string s)) (fun p _=>s.size-(intOf p).toNat)
 case atStart=>exact⟨0,[],yam _,rfl,⟨rfl,fun j hj=>by omega⟩,h0,hBn⟩
 case round=>
  obtain⟨k,pre,hk,rfl,hp,hj,hcell⟩:=hrel;by_cases hkr:k<rs.length
  ·obtain⟨hx,hlt2⟩:=hNx.out k hkr;rw[HS.out] at hlt2;have Hx:=Lib.hid hx;clear hx;have hmr:=hRm.out (rs[k]?.getD 0) (by rw[yac hkr];exact ybK _);have Hps:=Lib.hid (hps.out k hkr);have hle:=yS (rs[k]?.getD 0);have hpo:=xn (rs[k]?.getD 0);have hple:=hpl.out (k+1);rw[Hps.out] at hple;obtain⟨x,hx⟩:∃x:PR,x.1=(pl rs k,rs[k]?.getD 0):=⟨⟨(pl rs k,rs[k]?.getD 0),⟨by dsimp only;omega,hmr⟩⟩,rfl⟩
   have hY:=hJ.out pre x wr hj (by rw[hp.1];exact hkr);obtain⟨x,hx2⟩:=x;dsimp only at hx;subst hx;obtain⟨fn,tmps,assign,body,hy,hR⟩:=hY;dsimp only[prV] at hy;have HR:=Lib.hid hR;clear hR;have hd:=Lib.hid (ww s (pl rs k));have he:=AC s (pl rs k);generalize hr:rs[k]?.getD 0=r at *;have Hr:=Lib.hid hr;clear hr;generalize hq:(enc r).length=q at *;have Hq:=Lib.hid hq;clear hq
   gi_wp2_with (refine⟨trivial,?_⟩;gi_at_call 225;refine (ych.2 (FZ _ _ (by unfold maxLen;omega))).mono ?_;rintro e w' ⟨rfl,rfl⟩;rw[hd.out,Hx.out])
   refine HR.out.mono ?_;rintro e W' (⟨rfl,hJ',hk'⟩ | ⟨rfl,hJx'⟩)
   ·have hc':=(yaK (a:=⟨Bn,0,none⟩) hk').trans hcell
    gi_wp2
    go_roundw
    case rel=>exact⟨k+1,pre++[_],by omega,by rw[Hps.out];simp,vH hp (by simp[Hr.out]),hJ',hc'⟩
    case measure=>simp[intOf];omega
   gi_wp2
   refine yay (yaJ rfl _ _ _) rfl ?_;exact⟨⟨_,rfl⟩,.inr ⟨pre++[_],⟨k+1,by omega,by omega,vH hp (by simp[Hr.out])⟩,hJx'⟩⟩
  obtain rfl:k=rs.length:=by omega
  have hL:=hLast.out;rw[<-hpf.out] at hL hwl;have HL:=Lib.hid hL;clear hL;have hd:=Lib.hid (ww s (pl rs rs.length));have he:=AC s (pl rs rs.length);have hend:(∃v,Ending.returned (.tuple #[])=.returned v)/\((∃xs,kM rs rs.length xs/\J xs wr)\/(∃pre,(∃k,1<=k/\k<=rs.length/\kM rs k pre)/\Jx pre wr)):=⟨⟨_,rfl⟩,.inl ⟨pre,hp,hj⟩⟩
  have Hend:=Lib.hid hend;clear hend hk hkr;generalize pl rs rs.length=p at *;by_cases hps':p<s.size
  ·gi_wp2_with (refine⟨trivial,?_⟩;gi_at_call 225;refine (ych.2 (FZ _ _ (by unfold maxLen;omega))).mono ?_;rintro e w' ⟨rfl,rfl⟩;rw[hd.out,HL.out])
   refine⟨fun _ h=>(by cases h),?_⟩
   gi_wp2
   refine yay (yaJ rfl _ _ _) rfl ?_;exact Hend.out
  gi_wp2
  go_end0
  exact Hend.out
attribute [local go_sem] Oper.semAt_some
theorem EY(n:Nat)(hn:1<=n)(Bn:Nat)(s:ByteArray)(hs:s.size<=1099511627776)(w:World)(hBn:w.cell? ⟨Bn,0,none⟩=some (.string s)) :
  SeqStopsK Fence.wide n Tryz.prog 224 #[.pointer (some ⟨Bn,0,none⟩)] prV (pU Bn) (fun xs=>kM (runes s.data.toList) (runes s.data.toList).length xs)
   (fun pre=>∃k,1<=k/\k<=(runes s.data.toList).length/\kM (runes s.data.toList) k pre) (runes s.data.toList).length w:=
 fun l J Jx W hW _ _ hY h0=>Jy n hn l Bn s hs J Jx (fun pre x W1 hj hl=>hY pre x W1 hj hl) W ((hW.cell (p:=⟨Bn,0,none⟩) (yaO w _ hBn)).trans hBn) h0
theorem IM(s:ByteArray)(w:World):Calls Tryz.prog 181 #[.string s] w fun e w'=>e=.returned (.func (.func 224) #[] #[.pointer (some ⟨w.heap.size,0,none⟩)])/\w.alloc (.cells #[.string s] 9)=w':=by
 go_in;go_wp2;go_ret;exact⟨rfl,rfl⟩
def endOf (pre:List PR):Int:=match pre.getLast? with | none=>0 | some x=>(x.1.1:Int)+((enc x.1.2).length:Int)
theorem GR(pre:List PR)(x:PR):endOf (pre++[x])=(x.1.1:Int)+((enc x.1.2).length:Int):=by simp[endOf]
theorem MB(rs:List Int)(xs:List PR)(h:kM rs rs.length xs):endOf xs=((dJ rs).length:Int):=by
 by_cases h0:rs.length=0
 ·have hr:rs=[]:=yat h0;have hx:xs=[]:=yat (by rw[h.1,h0]);subst hr;subst hx;rfl
 obtain⟨k,hk⟩:∃k,rs.length=k+1:=⟨rs.length-1,by omega⟩
 obtain⟨x,hx,hx2⟩:=h.2 k (by omega);have hl:xs.getLast?=some x:=by rw[List.getLast?_eq_getElem?,h.1,hk];exact hx
 unfold endOf;rw[hl];simp only[hx2];have:=Ac rs k (by omega);rw[<-hk,Ad rs rs.length (yag _)] at this;rw[this];simp
theorem Jp(s:ByteArray)(w:World)(hs:s.size<=1099511627776) :
  Calls Tryz.prog 153 #[.string s] w fun e w'=>e=.returned (.int .i64 (wh s.data.toList:Nat))/\Below w.heap.size w w':=by
 refine (ych (n:=9)).1 ?_;refine callsIn_of_wp_marks Tryz.func153 rfl trivial ?_ rfl;simp only[Tryz.ntmps153,List.size_toArray,yaF,ybj,Nat.reduceAdd,Nat.reduceSub,ycA,ycB,List.push_toArray,ycF,ybO,ybE]
 gi_wp2_with (refine⟨trivial,?_⟩;gi_at_call 181;refine (ych.2 (IM _ _)).mono ?_;rintro e w' ⟨rfl,rfl⟩)
 have hb:=(Boxed.new (w.alloc (.cells #[.int .i64 0] 3)) 9 (.string s)).cell;rw[ybF] at hb;have he:=Boxed.new w 3 (.int .i64 0);refine wpIn_rangeFunc_ownF (F:=Fence.wide) (n:=9) rfl (by omega) (gf:=224) (lb:=#[.pointer (some ⟨w.heap.size+1,0,none⟩)]) rfl trivial (enters_of Tryz.func224 (by kernel_rfl) rfl)
  (EY 8 (by omega) (w.heap.size+1) s hs _ hb) O9 (Ox (by simp)) (yaj _ _) (fun _=>rfl)
  (fun pre W=>Boxed W w.heap.size 3 (.int .i64 (endOf pre))/\(endOf pre<=1099511627780/\0<=endOf pre)/\Below w.heap.size w W)
  (fun _ _ _=>False) ?hI (fun _ _ _ _ _ h _ _=>h) ?h0 ?a1 ?assign ?body ?done ?stop
 case hI=>exact OwnFrom.and (Own.from (boxed_own _ _ _) _) (OwnFrom.and (ownFrom_pure _ _) (ownFrom_below (yag _) (by simp;omega)))
 case h0=>exact⟨he.alloc _,⟨by decide,by decide⟩,((yaj _ w).alloc (yag _) _).alloc (by simp) _⟩
 case assign=>
  intro l x W K hK;simp only[prV]
  gi_wp2
  exact hK
 case body=>
  rintro l pre x W ⟨hbx,_,hbel⟩ _;have hc:=hbx.cell;have hf:=hbx.frozen;have hs:=GR pre x;have hle:=yS x.1.2;have hx1:=x.2.1;have hsz:=Oi x.1.2 x.2.2;have Hs:=Lib.hid hs;have Hz:=Lib.hid hsz;clear hs hsz
  gi_wp2_with (refine⟨trivial,?_⟩;gi_at_call 182;refine (CallsIn.inRound l (ych.2 (size_any _ _))).mono ?_;rintro e w' ⟨rfl,rfl⟩;rw[Hz.out])
  exact⟨KeepsOthers.setCell _ _ _,J4 _ _ _ (by simp),by rw[Hs.out];exact hbx.set _,⟨by rw[Hs.out];omega,by rw[Hs.out];omega⟩,hbel.setCell (p:=⟨w.heap.size,0,none⟩) (yag _) _⟩
 case done=>
  rintro D xs W hD hS ⟨hbx,_,hbel⟩ hK;have hc:=hbx.cell;have hend:=Lib.hid (MB _ xs hS)
  gi_wp2
  refine⟨by simp,.inl ⟨_,_,rfl,run_takeDeferred hK,?_⟩⟩;exact⟨_,results_tmp (t:=2) rfl _ _ _,(by show Ending.returned (.int .i64 (endOf xs))=_;exact NW hend.out),hbel.trans (belowK_b (w:=w) (yag _) W D _ _ (by simp at hD;omega) hK rfl rfl)⟩
 case stop=>
  rintro D c pre W _ _ h _;exact h.elim
attribute [local go_sem] Oper.semAt_some
theorem KX(s:ByteArray)(w:World)(hs:s.size<=1099511627776) :
  Calls Tryz.prog 118 #[.string s] w fun e w'=>e=.returned (.bool (decide (wh s.data.toList=s.size)))/\Below w.heap.size w w':=by
 go_in;go_wp2_with (go_at_call 153;refine (Jp s _ hs).mono ?_;rintro e w' ⟨rfl,hb⟩);go_ret;exact⟨Na (by rw[ybk];simp;omega),hb⟩
theorem ruT:SliceT Tryz.prog 211 21 (.int .i32 0) 1 4:=⟨Tryz.underlying211,by kernel_rfl,rfl,by decide⟩
theorem MS(l:List Int)(r:Int):ruV (l++[r])=ruV l++[.int .i32 r]:=by simp[ruV]
def jm (w:World)(l:List Int)(e:Ending)(w':World):Prop:=∃ao cap,e=.returned (.tuple #[.slice ao l.length cap,.int .i64 0])/\Rd w' 1 ao l.length cap (ruV l)/\Below w.heap.size w w'
theorem Cm(l:List UInt8):nx (l.take 4)=nx l:=by
 by_cases h:(nx l).2=0
 ·rw[lD l h];apply lD;by_cases h2:(nx (l.take 4)).2=0
  ·exact h2
  obtain⟨a,b,c,d⟩:=sQ (l.take 4) (nx (l.take 4)).1 (nx (l.take 4)).2 rfl h2;have hl:(nx (l.take 4)).2<=4:=DJ _;have:=uK l (nx (l.take 4)).1 (nx (l.take 4)).2 a (by rw[<-d,List.take_take,Nat.min_eq_left hl]) (by rw[yaV] at c;omega);rw[this] at h;exact absurd h h2
 obtain⟨a,b,c,d⟩:=sQ l (nx l).1 (nx l).2 rfl h;have hl:(nx l).2<=4:=DJ _;exact uK (l.take 4) (nx l).1 (nx l).2 a (by rw[List.take_take,Nat.min_eq_left hl,d]) (by rw[yaV];omega)
end Utf
namespace Utf
open Go.RowKit Mem
theorem Ba (s:ByteArray)(m e:Nat):(s.extract m e).data.toList=(s.data.toList.drop m).take (e-m):=by
 simp[ByteArray.extract,ByteArray.copySlice]
theorem qH (s:ByteArray)(m e:Nat):(s.extract m e).size<=s.size:=by
 rw[<-dI,Ba,yaV,yaM,dI];omega
theorem DR (l:List UInt8)(m:Nat)(h:4<=m\/l.length<=m):nx (l.take m)=nx l:=by
 rcases h with h | h
 ·rw[<-Cm (l.take m),List.take_take,Nat.min_eq_left h,Cm]
 rw[yak h]
def OT (w:World)(l:List Int)(n:Nat)(e:Ending)(w':World):Prop:=∃ao cap,e=.returned (.tuple #[.slice ao l.length cap,.int .i64 (n:Int)])/\Rd w' 1 ao l.length cap (ruV l)/\Below w.heap.size w w'
theorem EG (s:ByteArray)(w:World)(hs:s.size<=1000000000) :
  Calls Tryz.prog 127 #[.string s] w (OT w (runes s.data.toList) (wh s.data.toList)):=by
 have HS:=Lib.hid (dI s);have hNx:=Lib.hid (fun k=>OH s.data.toList k);have hLast:=Lib.hid (FD s.data.toList);have hwl:=I8 s.data.toList;have hrl:=Jm s.data.toList;have hwh:=Lib.hid (show wh s.data.toList=(dJ (runes s.data.toList)).length from rfl);rw[HS.out] at hwl hrl;unfold wh at hLast hwl;have hpl:=Lib.hid (fun k=>OI (runes s.data.toList) k);have hpf:=Lib.hid (Ad (runes s.data.toList) (runes s.data.toList).length (yag _));have hps:=Lib.hid (fun k=>Ac (runes s.data.toList) k);generalize hrs:runes s.data.toList=rs at *;have Hrs:=Lib.hid hrs;clear hrs;generalize wh s.data.toList=W0 at *;go_in;go_wp2;go_loopw [4,5] (fun v i wr=>∃k:Nat,k<=rs.length/\i=.int .i64 ((pl rs k:Nat):Int)/\wr.ownsRow w.heap.size 21 1 v k (ruV (rs.take k))/\Below w.heap.size w wr) (fun _ i _=>s.size-(intOf i).toNat)
 case atStart=>exact⟨0,yam _,rfl,yaC _ _ _ _,yaj _ _⟩
 case round=>
  obtain⟨k,hk,rfl,hrow,hbr⟩:=hrel;have hd:=Lib.hid (fun e=>Ba s (pl rs k) e);by_cases hkr:k<rs.length
  ·obtain⟨hx,hlt2⟩:=hNx.out k hkr;rw[HS.out] at hlt2;have Hx:=Lib.hid hx;clear hx;have Hps:=Lib.hid (hps.out k hkr);have hle:=yS (rs[k]?.getD 0);have hpo:=xn (rs[k]?.getD 0);have hple:=hpl.out (k+1);rw[Hps.out] at hple;generalize hr:rs[k]?.getD 0=r at *;have Hr:=Lib.hid hr;clear hr;generalize hq:(enc r).length=q at *;have Hq:=Lib.hid hq;clear hq;generalize hp:pl rs k=p at *;have Hp:=Lib.hid hp;clear hp;have hlk:=List.length_take_le k rs;have hls:=hd.out (p+4);have hq1:∀e:Nat,e=p+4\/(e=s.size/\s.size<=p+4)->nx (s.extract p e).data.toList=(r,q):=by
    intro e he;rw[hd.out,DR _ _ (by rw[yaM,HS.out];omega),Hx.out]
   have Hq1:=Lib.hid hq1;clear hq1 hls;have hz:=hbr.size;have e4:((p:Int)+4).toNat=p+4:=by omega
   have E4:=Lib.hid e4;clear e4;go_wp2_with fail
   all_goals
    refine (BC _ _ (by unfold maxLen;have:=qH s p s.size;have:=qH s p ((p:Int)+4).toNat;omega)).mono ?_;rintro e w1 ⟨rfl,hb1⟩
    first | rw[Hq1.out _ (by rw[E4.out];exact .inl rfl)] | rw[Hq1.out _ (.inr ⟨rfl,by omega⟩)]
    have ho1:=ag hrow hb1;have hz1:=hb1.size;have hbr1:=hbr.trans (hb1.mono hz);go_wp2_with (at_builtin;refine fM _ rfl _ _ 211 rfl w.heap.size 21 (.int .i32 0) 1 4 ruT (by decide) _ _ _ rfl ho1 1 [.int .i32 r] rfl rfl (one1 _ rfl) (by omega) (by omega) ?_;intro ao2 cap2 w2 ho2 _ hb2 _);go_roundw
    case rel=>exact⟨k+1,by omega,by rw[Hps.out];simp,by rw[take_at rs k (by omega),Hr.out,MS];exact ho2,hbr1.trans hb2⟩
    case measure=>simp[intOf];omega
  obtain rfl:k=rs.length:=by omega
  have hL:=hLast.out;rw[<-hpf.out] at hL hwl;have HL:=Lib.hid hL;clear hL;rw[ybG] at hrow;have hwp:Hid (W0=pl rs rs.length):=by have:=hwh.out;rw[hpf.out];exact this
  generalize hp:pl rs rs.length=p at *;have Hp:=Lib.hid hp;clear hp;have hq1:∀e:Nat,e=p+4\/(e=s.size/\s.size<=p+4)->nx (s.extract p e).data.toList=(0,0):=by
   intro e he;rw[hd.out,DR _ _ (by rw[yaM,HS.out];omega),HL.out]
  have Hq1:=Lib.hid hq1;clear hq1;have hz:=hbr.size;have e4:((p:Int)+4).toNat=p+4:=by omega
  have E4:=Lib.hid e4;clear e4;obtain⟨ao3,cap3,rfl,hrd⟩:=Rd.of_own hrow;by_cases hps':p<s.size
  ·go_wp2_with fail
   all_goals
    refine (BC _ _ (by unfold maxLen;have:=qH s p s.size;have:=qH s p ((p:Int)+4).toNat;omega)).mono ?_;rintro e w1 ⟨rfl,hb1⟩
    first | rw[Hq1.out _ (by rw[E4.out];exact .inl rfl)] | rw[Hq1.out _ (.inr ⟨rfl,by omega⟩)]
    go_wp2;go_ret2;exact⟨ao3,cap3,by rw[hwp.out];rfl,hrd.later hb1,hbr.trans (hb1.mono hz)⟩
  go_wp2;go_ret2;exact⟨ao3,cap3,by rw[hwp.out];rfl,hrd,hbr⟩
