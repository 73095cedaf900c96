/-
  A part of the proof.
-/
import Derived.Test.YtfmmandlmbcncaaGreatDoorKdar
set_option maxHeartbeats 40000000
set_option maxRecDepth 100000
namespace Go.Proofs.YtfmmandlmbcncaaGreatDoor.Msg
open Go.RowKit Go.Lib Mem Tlv
def OV.parts (v:OV)(a:Option Addr)(n k:Nat):OV:=⟨v.k,v.name,v.to,v.ao,v.an,v.ac,a,n,k,v.co,v.cn,v.cc,v.n⟩
def DC (q ob:Nat)(s:RS)(v:OV)(l:List ByteArray)(W:World)(e:Ending)(w':World):Prop:=∃r s' y a k,e=.returned (.bool r)/\RdS q q s' w'/\w'.heap[ob]?=some (v.parts a (l++[y]).length k).box/\w'.ownsRow q 9 1 (.slice a (l++[y]).length k) (l++[y]).length (txV (l++[y]))/\BelX q [ob] W w'/\s'.l.length<=s.l.length /\
 (r=true->s'.bad=false->l.length<8/\s.bad=false/\s.l=val 1 y.data.toList++s'.l/\y.data.toList.length<=4194304) /\
 (r=false\/s'.bad=true->s.bad=true\/8<=l.length\/∀(u:ByteArray) rest,u.data.toList.length<=4194304->s.l≠val 1 u.data.toList++rest)
theorem KX (l:List ByteArray)(y:ByteArray):txV (l++[y])=txV l++[.string y]:=by simp[txV]
def InO (ob:Nat)(v:OV)(W:World):Prop:=W.heap[ob]?=some v.box
theorem InO.step {ob:Nat}{v:OV}{W W':World}(h:InO ob v W)(hb:Below W.heap.size W W'):InO ob v W':=(hb.block _ (Array.getElem?_eq_some_iff.1 h).1).trans h
theorem InO.grown {ob:Nat}{v:OV}{W W':World}{row:Option Nat}(h:InO ob v W)(hg:W.grownBy W' row)(hne:some ob≠row):InO ob v W':=(hg.block _ (Array.getElem?_eq_some_iff.1 h).1 hne).trans h
theorem Ij (q ob:Nat)(s:RS)(v:OV)(l:List ByteArray)(W:World)(hr:RdS q q s W)(hl:s.l.length<=100000000)(ho:InO ob v W)(hown:W.ownsRow q 9 1 (.slice v.bo v.bn v.bc) v.bn (txV l))(hn:v.bn=l.length)(hln:l.length<=20000000)(hoq:ob<q) :
  Calls Tryz.prog 240 #[.pointer (some ⟨q,0,none⟩),.pointer (some ⟨ob,0,none⟩)] W (DC q ob s v l W):=by
 have hmo:Tryz.prog.follows .mixedOrders=true:=by kernel_rfl
 have T:=bI s 1 (by decide);have hc:=fun W0 h0=>jb q q s 1 W0 h0 hl;generalize s.bytes 1=y at *;obtain⟨yl,s'⟩:=y;dsimp only at hc T;obtain⟨Y,hY⟩:∃Y:ByteArray,(⟨yl.toArray⟩:ByteArray)=Y:=⟨_,rfl⟩
 have hYl:Y.data.toList=yl:=by rw[<-hY]
 rw[hY] at hc;rw[<-hYl] at T;clear hY hYl;have Hn:=hid hn;clear hn;have hob:some ob≠(Value.slice v.bo v.bn v.bc).ownBlock:=fun e=>by
  obtain⟨_,_,cur,h3⟩:=bz hown e.symm;unfold InO OV.box at ho;rw[h3] at ho;cases ho
 have hqs:q<W.heap.size:=by obtain⟨_,_,h⟩:=hr;exact h.lt
 have hd:Below W.heap.size W W.drew:=(Below.refl _ _).drew;have hr0:=hr.later hd;have s0:InO ob v W.drew:=ho.step hd;have x0:=aF hown hd;have X0:BelX q [ob] W W.drew:=(BelX.of_below hd [ob]).mono (by omega) (fun _ hk _=>hk);have z0:=hd.size;have HT:=hid T;clear hr ho hown T hd;go_in;go_upto_region 1 with fail;refine ed (k:=7) (S:=InO ob v) hmo ?_;change dh _ _ _ _ _ _ _ _ _ (World.drew W);generalize World.drew W=W0 at *;refine zTp 0 (.pointer (some ⟨ob,4,none⟩)) rfl s0 ?_;go_simp;refine zTa 1 (.slice v.bo v.bn v.bc) rfl (by rintro w h;obtain⟨c0,c1,c2,c3,c4,c5,c6,-⟩:=aO h;go_simp) s0 ?_;go_simp;refine zTp 2 (.pointer (some ⟨q,0,none⟩)) rfl s0 ?_;go_simp;refine zT1 3 rfl (fun K hK=>?_);go_simp;refine (hc W0 hr0).mono ?_;rintro e W1 ⟨rfl,hr1,hg1⟩;have s1:InO ob v W1:=s0.grown hg1 (fun e=>by have:=Option.some.inj e;omega);have x1:W1.ownsRow q 9 1 (.slice v.bo v.bn v.bc) v.bn (txV l):=dO x0 (fun k hk=>hg1.block k (bz x0 hk).2.1 (fun e=>by obtain⟨_,_,cur,h3⟩:=bz x0 hk;obtain⟨_,_,h⟩:=hr0;have h4:=h.at_;rw[<-Option.some.inj e,h3] at h4;cases h4));have X1:BelX q [ob] W W1:=X0.trans ((iI hg1 (M:=q) (by omega)).mono (Nat.le_refl _) (fun k hk h=>by rw[List.mem_singleton.1 hk] at h;omega));have z1:=Nat.le_trans z0 hg1.size;clear hc;go_simp;refine hK _ _ ⟨.inr s1,?_⟩;clear hK K;refine zT1 4 rfl (fun K hK=>?_);go_simp;generalize hg:W1.alloc _=W2;have hb2:Below W1.heap.size W1 W2:=by rw[<-hg];exact (Below.refl _ _).alloc (Nat.le_refl _) _
 have r2:Rd W2 1 (some ⟨W1.heap.size,0,none⟩) 1 1 [.string Y]:=by rw[<-hg];exact Rd.new W1 [.string Y] 9 (0,0) 1 1 rfl (by unfold maxLen;omega)
 have s2:=s1.step hb2;have x2:=aF x1 hb2;have hr2:=hr1.later hb2;have X2:BelX q [ob] W W2:=X1.trans ((BelX.of_below hb2 [ob]).mono (by omega) (fun _ hk _=>hk));have z2:=Nat.le_trans z1 hb2.size;clear hg;go_simp;refine hK _ _ ⟨.inr s2,?_⟩;clear hK K;refine zT1 5 rfl (fun K hK=>?_);refine gX rfl (.tmp 5) (.tmp 8) 33 rfl q 9 (.string ⟨#[]⟩) 1 16 xE (.slice v.bo v.bn v.bc) v.bn (txV l) rfl x2 (some ⟨W1.heap.size,0,none⟩) 1 1 [.string Y] rfl r2 (one1 _ rfl) (by have:=Hn.out;unfold maxLen;omega) (by have:=Hn.out;omega) (by omega) ?_;intro a3 k3 W3 x3 hg3 hb3 _;have s3:=s2.grown hg3 hob;have hr3:RdS q q s' W3:=uN hr2 hg3 x2 (by decide) (by decide);have X3:BelX q [ob] W W3:=X2.trans (BelX.of_below hb3 [ob]);refine hK _ _ ⟨.inr s3,?_⟩;clear hK K;refine zTp 6 (.pointer (some ⟨ob,4,none⟩)) rfl s3 ?_;go_simp;refine dH (by kernel_rfl) (by kernel_rfl) ?_;refine zA1 7 rfl (fun K hK=>?_);go_simp;obtain⟨c0,c1,c2,c3,c4,c5,c6,c7⟩:=aO s3;go_simp;refine hK _ _ ?_;clear hK K;refine wpAny_done (by kernel_rfl) ?_ _;have hB:(W3.setCell ⟨ob,4,none⟩ (.slice a3 (v.bn+1) k3)).heap[ob]?=some (v.parts a3 (v.bn+1) k3).box:=at_set s3;have hR:RdS q q s' (W3.setCell ⟨ob,4,none⟩ (.slice a3 (v.bn+1) k3)):=hr3.grown (ai _ _ _ _) s3 (fun c fr h=>by cases h) (by omega);have hX:BelX q [ob] W (W3.setCell ⟨ob,4,none⟩ (.slice a3 (v.bn+1) k3)):=X3.set _ _ _ (.inl (by simp));have hO:(W3.setCell ⟨ob,4,none⟩ (.slice a3 (v.bn+1) k3)).ownsRow q 9 1 (.slice a3 (v.bn+1) k3) (v.bn+1) (txV (l++[Y])):=by
  rw[KX];exact dO x3 (fun k hk=>Below.heap_setCell _ _ _ _ (by have:=(bz x3 hk).1;show k≠ob;omega))
 clear s3 hr3 X3 x3 hg3 hb3 s2 x2 hr2 X2 z2 hb2 r2 s1 x1 X1 z1 hg1 hr1 s0 x0 X0 z0 hr0;generalize W3.setCell _ _=W4 at *;obtain⟨-,-,-,-,c4,-,-,-⟩:=aO hB;dsimp only[OV.parts] at c4;have hG:Hid (∀b:Bool,(b=true->l.length<8)->(b=false->8<=l.length)->DC q ob s v l W (.returned (.bool b)) W4):=hid (by
  intro b h1 h2;have hn:=Hn.out;rw[hn] at hB hO;rw[<-List.length_singleton (a:=Y),<-List.length_append] at hB hO;refine⟨b,s',Y,a3,k3,rfl,hR,hB,hO,hX,HT.out.le,fun hb hs=>⟨h1 hb,HT.out.yes hs⟩,fun h=>?_⟩;cases b with
  | false=>exact .inr (.inl (h2 rfl))
  | true=>
   rcases h with h | h
   ·cases h
   exact (HT.out.no h).imp id (fun h=>.inr fun u rest hu=>h u.data.toList rest hu))
 clear hB hR hX hO HT;have HL:=Hn.out;by_cases h8:l.length<8
 ·have f0:decide ((v.bn:Int)+1<=8)=true:=decide_eq_true (by omega);clear HL;go_wp2_with fail;go_ret;exact hG.out true (fun _=>h8) (fun h=>by cases h)
 have f0:decide ((v.bn:Int)+1<=8)=false:=decide_eq_false (by omega);clear HL;go_wp2_with fail;go_ret;exact hG.out false (fun h=>by cases h) (fun _=>by omega)
theorem Hw (xs:List ByteArray)(u:ByteArray):dS (xs++[u])=dS xs++val 1 u.data.toList:=by simp[dS]
theorem wY:∀(xs ys:List ByteArray) (b:List UInt8),(dS ys).length<=4194304->dS ys=dS xs++b->∃zs,ys=xs++zs/\b=dS zs
 | [],ys,b,_,h=>⟨ys,rfl,h.symm⟩
 | u::xs,[],b,_,h=>by
  have:=congrArg List.length h;rw[fF,List.length_append,List.length_append,ae] at this;have e0:(dS []).length=0:=rfl;omega
 | u::xs,y::ys,b,hl,h=>by
  have hl2:=congrArg List.length h;rw[List.length_append,fF u xs,List.length_append,ae] at hl2;rw[fF,fF,List.append_assoc] at h;rw[fF,List.length_append,ae] at hl;rw[fF y ys,List.length_append,ae] at hl2;obtain⟨h1,h2⟩:=ak (by decide) (by omega) (by omega) h;obtain⟨zs,rfl,hb⟩:=wY xs ys b (by omega) h2;exact⟨zs,by rw[kP h1];rfl,hb⟩
theorem zx (xs:List ByteArray):xs.length<=(dS xs).length:=by
 induction xs with
 | nil=>simp
 | cons u xs ih=>rw[fF,List.length_append,ae,List.length_cons];omega
def Qu (B g ob:Nat)(t:UInt8)(s:RS)(v:OV)(W:World)(q:Nat)(rest b:List UInt8)(wr:World):Prop:=
 ∃(x:List UInt8) (w1:World) (a:Option Addr) (k:Nat) (l:List ByteArray),s.take t=(some x,⟨rest,false⟩)/\w1.heap.size=q/\RdS B g ⟨rest,false⟩ w1/\W.grownBy w1 (some g)/\BelX q [ob] w1 wr/\RdS q q ⟨b,false⟩ wr/\InO ob (v.parts a l.length k) wr /\
  wr.ownsRow q 9 1 (.slice a l.length k) l.length (txV l)/\x=dS l++b/\l.length<=8
def Qr (B g ob:Nat)(t:UInt8)(s:RS)(v:OV)(W:World)(rest:List UInt8)(wr:World):Prop:=
 ∃(x:List UInt8) (w1:World) (a:Option Addr) (k:Nat) (l:List ByteArray),s.take t=(some x,⟨rest,false⟩)/\RdS B g ⟨rest,false⟩ w1/\W.grownBy w1 (some g)/\BelX w1.heap.size [ob] w1 wr/\InO ob (v.parts a l.length k) wr /\
  wr.ownsRow w1.heap.size 9 1 (.slice a l.length k) l.length (txV l)/\l.length<=20000000/\∀ys,ys.length<=8->(dS ys).length<=4194304->dS ys≠x
def Nj (B g ob:Nat)(t:UInt8)(s:RS)(v:OV)(W:World)(e:Ending)(w':World):Prop:=
 (∃r,e=.returned r)/\∃s' a k l,RdS B g s' w'/\InO ob (v.parts a l.length k) w'/\w'.ownsRow W.heap.size 9 1 (.slice a l.length k) l.length (txV l)/\BelX W.heap.size [g,ob] W w'/\l.length<=20000000 /\
  Took (fun ys=>val t (dS ys)) (fun ys=>ys.length<=8/\(dS ys).length<=4194304) (fun ys=>(dS ys).length<=4194304) s l s'
theorem I9 (B g ob:Nat)(s:RS)(t:UInt8)(v:OV)(W:World)(ht:0<t.toNat)(hr:RdS B g s W)(hl:s.l.length<=100000000)(ho:InO ob (v.parts none 0 0) W)(hg:g≠ob) :
  Calls Tryz.prog 207 #[.pointer (some ⟨g,0,none⟩),.int .u8 (t.toNat:Int),.func (.func 240) #[] #[.pointer (some ⟨ob,0,none⟩)]] W (Nj B g ob t s v W):=by
 have hls:=(Array.getElem?_eq_some_iff.1 ho).1;have htc:=iG s t ht;have hkept:∀w1:World,W.grownBy w1 (some g)->InO ob (v.parts none 0 0) w1:=fun w1 h=>ho.grown h (fun e=>hg (Option.some.inj e).symm);have hlow:∀w1:World,W.grownBy w1 (some g)->∀k∈[ob],∃o,w1.heap[k]?=some o/\∀c fr,o≠.cells c 5 fr:=by
  intro w1 h k hk;rw[List.mem_singleton.1 hk];exact⟨_,hkept w1 h,fun c fr h=>by cases h⟩
 have hgx:g∉[ob]:=by simpa using hg
 have hX:∀(w1 w':World),W.grownBy w1 (some g)->BelX w1.heap.size [ob] w1 w'->BelX W.heap.size [g,ob] W w':=fun w1 w' h k=>
  ((BelX.of_grown h).mono (Nat.le_refl _) (fun k hk _=>by rw[List.mem_singleton.1 hk];simp)).trans (k.mono h.size (fun k hk _=>by rw[List.mem_singleton.1 hk];simp))
 refine (oW B g s t 240 #[.pointer (some ⟨ob,0,none⟩)] W hr hl (enters_of Tryz.func240 (by kernel_rfl) rfl) (Qu B g ob t s v W) (Qr B g ob t s v W) ?bad (fun q rest b w' h=>by obtain⟨x,w1,a,k,l,_,_,_,_,_,h,_⟩:=h;exact h) ?init ?step).mono ?post
 case bad=>
  rintro rest w' ⟨x,w1,a,k,l,_,k2,k3,k4,_⟩;exact RdS.belX k2 k4 hgx (hlow w1 k3)
 case init=>
  intro x rest ao cap w1 htk hgr hrg hrd hty;have hb1:Below w1.heap.size w1 (w1.alloc (.cells #[.slice ao x.length cap,.bool false,.bool true] 237)):=(Below.refl _ _).alloc (Nat.le_refl _) _;have k1:=hkept w1 hgr;refine⟨x,w1,none,0,[],htk,rfl,hrg,hgr,BelX.of_below hb1 _,⟨ao,cap,?_,Nat.le_refl _,hrd.later hb1,hty.later hb1⟩,k1.step hb1,World.ownsRow_nil _ _ _ _,rfl,Nat.zero_le _⟩;show (w1.heap.push _)[w1.heap.size]?=some _;simp
 case step=>
  rintro q rest b wr hb ⟨x,w1,a,k,l,htk,k1,k2,k3,k4,k5,k6,k7,k8,k9⟩;obtain⟨_,_,_,t4,_⟩:=dJ htk;have hxl:=t4;rw[k8,List.length_append] at hxl;have hlong:=zx l;have hlq:ob<q:=by rw[<-k1];exact Nat.lt_of_lt_of_le hls k3.size
  refine (Ij q ob ⟨b,false⟩ (v.parts a l.length k) l wr k5 (by dsimp only;omega) k6 k7 rfl (by omega) hlq).mono ?_;rintro e w' ⟨r,s',y,a',k',rfl,m1,m2,m3,m4,m5,m6,m7⟩;have hlen:(l++[y]).length<=20000000:=by rw[List.length_append,List.length_singleton];omega
  refine⟨r,s',rfl,m1,m5,fun hn=>⟨x,w1,a',k',l++[y],htk,k2,k3,?_,m2,?_,hlen,fun ys hy1 hy2 e=>?_⟩,fun hr hb' hlt=>⟨x,w1,a',k',l++[y],htk,k1,k2,k3,k4.trans m4,rM m1 hb',m2,m3,?_,?_⟩⟩
  ·rw[k1];exact k4.trans m4
  ·rw[k1];exact m3
  ·rw[k8] at e;obtain⟨zs,rfl,hz⟩:=wY l ys b hy2 e
   match zs,hz with
   | [],hz=>rw[hz] at hb;simp[dS] at hb
   | z::zs,hz=>
    have hzl:=hy2;rw[e,hz,fF,List.length_append,List.length_append,ae] at hzl;by_cases hc:r=false\/s'.bad=true
    ·rcases m7 hc with h | h | h
     ·cases h
     ·rw[List.length_append,List.length_cons] at hy1;omega
     exact h z (dS zs) (by omega) hz
    simp only[not_or,Bool.not_eq_false,Bool.not_eq_true] at hc;obtain⟨_,_,h3,_⟩:=m6 hc.1 hc.2;refine hn ⟨hc.1,hc.2,?_⟩;have:=congrArg List.length h3;rw[List.length_append,ae] at this;dsimp only at this;omega
  ·obtain⟨_,_,h3,_⟩:=m6 hr hb';rw[Hw,List.append_assoc,<-h3];exact k8
  have:=(m6 hr hb').1;rw[List.length_append,List.length_singleton];omega
 case post=>
  rintro e w' (⟨hx,rfl,m1,m2⟩ | ⟨x,rest,hx,⟨rfl,q,x',w1,a,k,l,hx',k1,k2,k3,k4,k5,k6,k7,k8,k9⟩ | ⟨rfl,wx,⟨x',w1,a,k,l,hx',k2,k3,k4,k6,k7,k8,k9⟩,rfl⟩⟩)
  ·rcases htc with ⟨x,rest,h,_⟩ | ⟨s',h,e1,e2,e3⟩
   ·rw[h] at hx;cases hx
   refine⟨⟨_,rfl⟩,(s.take t).2,none,0,[],m1,hkept w' m2,World.ownsRow_nil _ _ _ _,hX w' w' m2 (BelX.refl _ _ _),Nat.zero_le _,⟨fun hb=>?_,fun _=>e3.imp id (fun h ys rest hy=>h _ rest hy.2),?_⟩⟩
   ·rw[h] at hb;rw[show s'.bad=true from e1] at hb;cases hb
   rw[h];exact Nat.le_of_eq (congrArg List.length e2)
  ·rw[hx] at hx';obtain rfl:=Option.some.inj (congrArg Prod.fst hx');obtain⟨t1,_,t3,t4,_⟩:=dJ hx;rw[List.append_nil] at k8;have hlong:=zx l;subst k8;refine⟨⟨_,rfl⟩,⟨rest,false⟩,a,k,l,RdS.belX k2 (k1▸k4) hgx (hlow w1 k3),k6,kM k7 (by rw[<-k1];exact k3.size),hX w1 w' k3 (k1▸k4),by omega,⟨fun _=>⟨t1,t3,t4⟩,fun h=>(by cases h),?_⟩⟩;rw[t3];exact fJ _ _ _
  rw[hx] at hx';obtain rfl:=Option.some.inj (congrArg Prod.fst hx');obtain⟨t1,_,t3,t4,_⟩:=dJ hx;have hR:=RdS.belX k2 k4 hgx (hlow w1 k3);refine⟨⟨_,rfl⟩,⟨rest,true⟩,a,k,l,?_,af k6 (Ne.symm hg),?_,(hX w1 wx k3 k4).set _ _ _ (.inl (by simp)),k8,⟨fun h=>(by cases h),fun _=>.inr fun ys rest' hy e=>?_,?_⟩⟩
  ·obtain⟨ao,cap,h⟩:=hR;exact⟨ao,cap,h.fail⟩
  ·refine kM (dO k7 (fun k hk=>Below.heap_setCell _ _ _ _ ?_)) k3.size;have h1:=(bz k7 hk).1;have h2:g<W.heap.size:=by obtain⟨_,_,h⟩:=hr;exact h.lt
   have:=k3.size;show k≠g;omega
  ·rw[t3] at e;exact k9 ys hy.1 hy.2 (ak ht t4 hy.2 e).1.symm
  rw[t3];exact fJ _ _ _
structure KeepR (W W':World):Prop where
 size:W.heap.size<=W'.heap.size
 rows:∀(k:Nat) (c:Array Value) (t:TypeId) (fr:Nat×Nat),(t=5\/t=9\/t=106)->W.heap[k]?=some (Obj.cells c t fr)->W'.heap[k]?=some (Obj.cells c t fr)
theorem KeepR.trans {a b c:World}(h:KeepR a b)(h':KeepR b c):KeepR a c:=⟨Nat.le_trans h.size h'.size,fun k x t fr ht hk=>h'.rows k x t fr ht (h.rows k x t fr ht hk)⟩
theorem KeepR.of_below {a b:World}(h:Below a.heap.size a b):KeepR a b:=⟨h.size,fun k _ _ _ _ hk=>(h.block k (Array.getElem?_eq_some_iff.1 hk).1).trans hk⟩
theorem KeepR.of_belX {a b:World}{xs:List Nat}(h:BelX a.heap.size xs a b)(hx:∀k∈xs,∃o,a.heap[k]?=some o/\∀(c:Array Value) (t:TypeId) (fr:Nat×Nat),(t=5\/t=9\/t=106)->o≠.cells c t fr):KeepR a b:=by
 refine⟨h.size,fun k c t fr ht hk=>h.at_ hk (Array.getElem?_eq_some_iff.1 hk).1 (fun hm=>?_)⟩;obtain⟨o,h1,h2⟩:=hx k hm;rw[hk] at h1;exact h2 c t fr ht (Option.some.inj h1).symm
theorem jI {a b:World}{size:Nat}{ao:Option Addr}{n cap:Nat}{xs:List Value}{t:TypeId}(ht:t=5\/t=9\/t=106)(h:Rd a size ao n cap xs)(hy:TyX t a ao cap)(hk:KeepR a b):Rd b size ao n cap xs:=by
 obtain⟨h1,h2,h3,h4,h5⟩:=h;refine⟨h1,h2,h3,h4,fun h0 x hx=>?_⟩;obtain⟨s1,l,c⟩:=h5 h0 x hx;obtain⟨c',fr,h6⟩:=hy h0 x hx;exact⟨s1,Nat.lt_of_lt_of_le l hk.size,fun j u hu=>(World.cell?_of_block (a:=⟨x.block,x.off+j,none⟩) ((hk.rows _ _ _ _ ht h6).trans h6.symm)).trans (c j u hu)⟩
theorem TyX.kpr {a b:World}{ao:Option Addr}{cap:Nat}{t:TypeId}(ht:t=5\/t=9\/t=106)(hy:TyX t a ao cap)(hk:KeepR a b):TyX t b ao cap:=fun h0 x hx=>by
 obtain⟨c',fr,h6⟩:=hy h0 x hx;exact⟨c',fr,hk.rows _ _ _ _ ht h6⟩
structure OpTy (W:World)(v:OV):Prop where
 a:TyX 106 W v.ao v.ac
 b:TyX 9 W v.bo v.bc
 c:TyX 5 W v.co v.cc
theorem OpTy.kpr {a b:World}{v:OV}(h:OpTy a v)(hk:KeepR a b):OpTy b v:=⟨h.a.kpr (.inr (.inr rfl)) hk,h.b.kpr (.inr (.inl rfl)) hk,h.c.kpr (.inl rfl) hk⟩
theorem OpAt.kpr {a b:World}{v:OV}{c:OC}(h:OpAt a v c)(hy:OpTy a v)(hk:KeepR a b):OpAt b v c:=
 ⟨jI (.inr (.inr rfl)) h.a hy.a hk,jI (.inr (.inl rfl)) h.b hy.b hk,jI (.inl rfl) h.c hy.c hk,h.la,h.lb,h.lc⟩
theorem gK (B g:Nat)(s:RS)(t:UInt8)(W:World)(hr:RdS B g s W)(hl:s.l.length<=100000000):Calls Tryz.prog 194 #[.pointer (some ⟨g,0,none⟩),.int .u8 (t.toNat:Int)] W fun e w'=>
  ∃ao cap,e=.returned (.slice ao (s.bytes t).1.length cap)/\Rd w' 1 ao (s.bytes t).1.length cap (byV (s.bytes t).1)/\TyX 5 w' ao cap/\RdS B g (s.bytes t).2 w'/\W.grownBy w' (some g):=by
 have hc:=take_any B g s t W hr hl;unfold iV at hc;unfold RS.bytes;generalize s.take t=tk at *;obtain⟨ox,s'⟩:=tk;cases ox with
 | none=>
  go_in;go_wp2_with fail;refine hc.mono ?_;rintro e w' ⟨h1,h2,rfl⟩;go_wp2;go_ret;exact⟨none,0,rfl,Rd.nil _ _,fun h=>absurd h (Nat.lt_irrefl 0),h1,h2⟩
 | some x=>
  go_in;go_wp2_with fail;refine hc.mono ?_;rintro e w' ⟨h1,h2,ao,cap,rfl,h4,h5⟩;go_wp2;go_ret;exact⟨ao,cap,rfl,h4,h5,h1,h2⟩
theorem Part.next {α:Type}{body:α->List UInt8}{may good:α->Prop}{b:List UInt8}{v v':OV}{c c':OC}{ls more:List UInt8}{s s':RS}{x:UInt8}{y:α}(h:Part b v c ls s)(T:Took body may good s y s')(hk:v'.k=v.k)(hf:fieldsOf v.k=ls++x::more)(heq:∀l∈ls,bd v' c' l=bd v c l)(honly:OnlyL (ls++[x]) v' c')
  (n0:0<=v'.n) (n1:v'.n<9223372036854775808) (hy:gJ v' c' x=body y) (hgood:good y->(bd v' c' x).length<=4194304) (hmay:∀W v2 c2,OpAt W v2 c2->aB v2 c2=true->∃z,may z/\gJ v2 c2 x=body z):Part b v' c' (ls++[x]) s':=by
 refine h.step hk hf heq honly n0 n1 T.le (fun hb=>?_) (fun hb=>?_)
 ·obtain⟨h1,h2,h3⟩:=T.yes hb;exact⟨h1,by rw[hy];exact h2,hgood h3⟩
 refine (T.no hb).imp id (fun hn W v2 c2 rest ho hm e=>?_);obtain⟨z,hz,hl⟩:=hmay W v2 c2 ho hm;rw[hl] at e;exact hn z rest hz e
theorem G7 {k:Int}{ls more:List UInt8}(hf:fieldsOf k=ls++more):∀l∈ls,l=110\/l=116\/l=97\/l=112\/l=99\/l=107:=by
 intro l hl;have hm:l∈fieldsOf k:=by rw[hf];exact List.mem_append_left _ hl
 obtain⟨j,hj⟩:=List.getElem?_of_mem hm;exact letters k j l hj
theorem ui (W:World){v:OV}{c:OC}(ho:OpAt W v c)(hm:aB v c=true)(l:UInt8):(bd v c l).length<=4194304:=by have:=(pX ho hm).1 l;omega
theorem OnlyL.more {ls:List UInt8}{v:OV}{c:OC}{x:UInt8}(h:OnlyL ls v c):OnlyL (ls++[x]) v c where
 name:=fun hn=>h.name (fun hm=>hn (List.mem_append_left _ hm))
 to_:=fun hn=>h.to_ (fun hm=>hn (List.mem_append_left _ hm))
 attrs:=fun hn=>h.attrs (fun hm=>hn (List.mem_append_left _ hm))
 parts:=fun hn=>h.parts (fun hm=>hn (List.mem_append_left _ hm))
 cursor:=fun hn=>h.cursor (fun hm=>hn (List.mem_append_left _ hm))
 n:=fun hn=>h.n (fun hm=>hn (List.mem_append_left _ hm))
def OV.setName (v:OV)(x:ByteArray):OV:=⟨v.k,x,v.to,v.ao,v.an,v.ac,v.bo,v.bn,v.bc,v.co,v.cn,v.cc,v.n⟩
def OV.setTo (v:OV)(x:ByteArray):OV:=⟨v.k,v.name,x,v.ao,v.an,v.ac,v.bo,v.bn,v.bc,v.co,v.cn,v.cc,v.n⟩
def OV.setAttrs (v:OV)(a:Option Addr)(n k:Nat):OV:=⟨v.k,v.name,v.to,a,n,k,v.bo,v.bn,v.bc,v.co,v.cn,v.cc,v.n⟩
def OV.setCur (v:OV)(a:Option Addr)(n k:Nat):OV:=⟨v.k,v.name,v.to,v.ao,v.an,v.ac,v.bo,v.bn,v.bc,a,n,k,v.n⟩
def OV.setN (v:OV)(n:Int):OV:=⟨v.k,v.name,v.to,v.ao,v.an,v.ac,v.bo,v.bn,v.bc,v.co,v.cn,v.cc,n⟩
section
variable {b:List UInt8} {v:OV} {c:OC} {ls more:List UInt8} {s s':RS}
theorem Part.name {y:List UInt8}(h:Part b v c ls s)(T:Took (val 2) (fun z=>z.length<=4194304) (fun z=>z.length<=4194304) s y s')(hf:fieldsOf v.k=ls++110::more)(hx:110∉ls):Part b (v.setName ⟨y.toArray⟩) c (ls++[110]) s':=by
 refine h.next T rfl hf (fun l hl=>?_) ⟨fun hn=>absurd (by simp) hn,h.only.more.to_,h.only.more.attrs,h.only.more.parts,h.only.more.cursor,h.only.more.n⟩ h.n0 h.n1 rfl (fun hg=>hg) (fun W v2 c2 ho hm=>⟨_,ui W ho hm 110,rfl⟩);have hne:¬l=110:=fun e=>hx (e▸hl);simp only[bd,if_neg hne,OV.setName]
theorem Part.to_ {y:List UInt8}(h:Part b v c ls s)(T:Took (val 3) (fun z=>z.length<=4194304) (fun z=>z.length<=4194304) s y s')(hf:fieldsOf v.k=ls++116::more)(hx:116∉ls):Part b (v.setTo ⟨y.toArray⟩) c (ls++[116]) s':=by
 refine h.next T rfl hf (fun l hl=>?_) ⟨h.only.more.name,fun hn=>absurd (by simp) hn,h.only.more.attrs,h.only.more.parts,h.only.more.cursor,h.only.more.n⟩ h.n0 h.n1 rfl (fun hg=>hg) (fun W v2 c2 ho hm=>⟨_,ui W ho hm 116,rfl⟩);have hne:¬l=116:=fun e=>hx (e▸hl);simp only[bd,if_neg hne,OV.setTo]
theorem Part.attrs {y:List (ByteArray×ByteArray)}{a:Option Addr}{n k:Nat}(h:Part b v c ls s)(T:Took (fun ys=>val 4 (aC ys)) (fun ys=>ys.length<=50/\(aC ys).length<=4194304) (fun ys=>(aC ys).length<=4194304) s y s')(hf:fieldsOf v.k=ls++97::more)(hx:97∉ls):Part b (v.setAttrs a n k) ⟨y,c.parts,c.cursor⟩ (ls++[97]) s':=by
 refine h.next T rfl hf (fun l hl=>?_) ⟨h.only.more.name,h.only.more.to_,fun hn=>absurd (by simp) hn,h.only.more.parts,h.only.more.cursor,h.only.more.n⟩ h.n0 h.n1 rfl (fun hg=>hg) (fun W v2 c2 ho hm=>⟨c2.attrs,⟨?_,ui W ho hm 97⟩,rfl⟩)
 ·have hne:¬l=97:=fun e=>hx (e▸hl);simp only[bd,if_neg hne,OV.setAttrs]
 obtain⟨_,h2,_⟩:=mr W ho hm;have:=ho.a.1;rw[fE] at this;have:=h2.an;omega
theorem Part.parts {y:List ByteArray}{a:Option Addr}{n k:Nat}(h:Part b v c ls s)(T:Took (fun ys=>val 5 (dS ys)) (fun ys=>ys.length<=8/\(dS ys).length<=4194304) (fun ys=>(dS ys).length<=4194304) s y s')(hf:fieldsOf v.k=ls++112::more)(hx:112∉ls):Part b (v.parts a n k) ⟨c.attrs,y,c.cursor⟩ (ls++[112]) s':=by
 refine h.next T rfl hf (fun l hl=>?_) ⟨h.only.more.name,h.only.more.to_,h.only.more.attrs,fun hn=>absurd (by simp) hn,h.only.more.cursor,h.only.more.n⟩ h.n0 h.n1 rfl (fun hg=>hg) (fun W v2 c2 ho hm=>⟨c2.parts,⟨?_,ui W ho hm 112⟩,rfl⟩)
 ·have hne:¬l=112:=fun e=>hx (e▸hl);simp only[bd,if_neg hne,OV.parts]
 obtain⟨_,h2,_⟩:=mr W ho hm;have:=ho.b.1;rw[iZ] at this;have:=h2.bn;omega
theorem Part.cur {y:List UInt8}{a:Option Addr}{n k:Nat}(h:Part b v c ls s)(T:Took (val 6) (fun z=>z.length<=4194304) (fun z=>z.length<=4194304) s y s')(hf:fieldsOf v.k=ls++99::more)(hx:99∉ls):Part b (v.setCur a n k) ⟨c.attrs,c.parts,y⟩ (ls++[99]) s':=by
 refine h.next T rfl hf (fun l hl=>?_) ⟨h.only.more.name,h.only.more.to_,h.only.more.attrs,h.only.more.parts,fun hn=>absurd (by simp) hn,h.only.more.n⟩ h.n0 h.n1 rfl (fun hg=>hg) (fun W v2 c2 ho hm=>⟨_,ui W ho hm 99,rfl⟩);have hne:¬l=99:=fun e=>hx (e▸hl);simp only[bd,if_neg hne,OV.setCur]
theorem Part.num {y:Nat}(h:Part b v c ls s)(T:Took (fun n:Nat=>val 7 (az n)) (fun n=>n<=1000) (fun n=>n<=1000) s y s')(hy:y<=1000)(hf:fieldsOf v.k=ls++107::more)(hx:107∉ls):Part b (v.setN (y:Int)) c (ls++[107]) s':=by
 refine h.next T rfl hf (fun l hl=>?_) ⟨h.only.more.name,h.only.more.to_,h.only.more.attrs,h.only.more.parts,h.only.more.cursor,fun hn=>absurd (by simp) hn⟩ (by show 0<=(y:Int);omega) (by show (y:Int)<_;omega) rfl (fun _=>by show (az _).length<=_;rw[ah];omega) (fun W v2 c2 ho hm=>⟨v2.n.toNat,?_,rfl⟩)
 ·have hne:¬l=107:=fun e=>hx (e▸hl);rcases G7 hf l hl with rfl|rfl|rfl|rfl|rfl|rfl
  all_goals first | rfl | exact absurd rfl hne
 have:=(pX ho hm).2;omega
end
theorem iM (s:RS)(t:UInt8):(s.bytes t).1.length<=4194304:=by
 unfold RS.bytes;cases h:s.take t with
 | mk ox s'=>
  cases ox with
  | none=>simp
  | some x=>exact (dJ h).2.2.2.1
structure OpGo (B g ob:Nat)(w:World)(b:List UInt8)(v:OV)(c:OC)(ls:List UInt8)(s:RS)(wr:World):Prop where
 bel:Below w.heap.size w wr
 box:InO ob v wr
 rd:RdS B g s wr
 at_:OpAt wr v c
 ty:OpTy wr v
 part:Part b v c ls s
theorem xg {B g:Nat}{s:RS}{wr w1:World}(hr:RdS B g s wr)(hg:wr.grownBy w1 (some g)):KeepR wr w1:=by
 refine KeepR.of_belX (BelX.of_grown hg) (fun k hk=>?_);rw[List.mem_singleton.1 hk];obtain⟨_,_,h⟩:=hr;refine⟨_,h.at_,fun c t fr ht e=>?_⟩;cases e;rcases ht with h | h | h<;>exact absurd h (by decide)
theorem Oo {ob i:Nat}{v:OV}{w1:World}{x:Value}(hb:InO ob v w1):KeepR w1 (w1.setCell ⟨ob,i,none⟩ x):=by
 refine KeepR.of_belX (xs:=[ob]) ((BelX.refl _ _ _).set _ _ _ (.inl (by simp))) (fun k hk=>?_);rw[List.mem_singleton.1 hk];refine⟨_,hb,fun c t fr ht e=>?_⟩;cases e;rcases ht with h | h | h<;>exact absurd h (by decide)
theorem OpGo.next {B g ob:Nat}{w:World}{b:List UInt8}{v v':OV}{c c':OC}{ls ls':List UInt8}{s s':RS}{wr w1:World}{i:Nat}{x:Value}(h:OpGo B g ob w b v c ls s wr)(hg:wr.grownBy w1 (some g))(hr:RdS B g s' w1)(hgw:w.heap.size<=g)(how:w.heap.size<=ob)(hgo:g≠ob)
  (hbox:(match v.box with | .cells cs t fr=>Obj.cells (cs.setIfInBounds i x) t fr | o=>o)=v'.box) (ha:OpAt w1 v' c') (ht:OpTy w1 v') (hp:Part b v' c' ls' s'):OpGo B g ob w b v' c' ls' s' (w1.setCell ⟨ob,i,none⟩ x):=by
 have hb1:InO ob v w1:=h.box.grown hg (fun e=>hgo (Option.some.inj e).symm);have hk:=Oo (i:=i) (x:=x) hb1;have hgs:g<wr.heap.size:=by obtain⟨_,_,h⟩:=h.rd;exact h.lt
 refine⟨(h.bel.trans (below_of_grown hg hgw hgs)).setCell how x,?_,hr.grown (ai _ _ _ _) hb1 (fun c fr h=>by cases h) hgo,ha.kpr ht hk,ht.kpr hk,hp⟩;have h2:=at_set (i:=i) (x:=x) hb1;unfold InO;rw[<-hbox];exact h2
theorem OpGo.kept {B g:Nat}{w:World}{b:List UInt8}{v:OV}{c:OC}{ls:List UInt8}{s:RS}{wr w1:World}{ob:Nat}(h:OpGo B g ob w b v c ls s wr)(hg:wr.grownBy w1 (some g)):OpAt w1 v c/\OpTy w1 v:=⟨h.at_.kpr h.ty (xg h.rd hg),h.ty.kpr (xg h.rd hg)⟩
end Go.Proofs.YtfmmandlmbcncaaGreatDoor.Msg
