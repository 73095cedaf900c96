/-A part of the proof.-/
import Derived.Test.YtfmmandlmbcncaaGreatDoorKfam
set_option maxHeartbeats 40000000
set_option maxRecDepth 100000
set_option linter.all false
namespace Go.Proofs.YtfmmandlmbcncaaGreatDoor
namespace Msg
open Go.RowKit Go.Lib Mem Tlv
variable{B cap g i k n ob:Nat}{W W' a w w1 wr:World}{ao:Option Addr}{c':OC}{t:TypeId}{v':OV}{x:UInt8}{y:List UInt8}
def OV.parts (v:OV)(a:Option Addr)(n k:Nat):OV:=⟨v.k,v.name,v.to,v.ao,v.an,v.ac,a,n,k,v.co,v.cn,v.cc,v.n⟩
def U3 (q ob:Nat)(s:RS)(v:OV)(l:List ByteArray)(W:World)(e:Ending)(w':World):Prop:=∃r s' y a k,e=.returned (.bool r)/\RdS q q s' w'/\w'.heap[ob]?=some (v.parts a (l++[y]).length k).box/\w'.ownsRow q 9 1 (.slice a (l++[y]).length k) (l++[y]).length (txV (l++[y]))/\BelX q [ob] W w'/\s'.l.length<=s.l.length /\
 (r=true->s'.bad=false->l.length<8/\s.bad=false/\s.l=val 1 y.data.toList++s'.l/\y.data.toList.length<=4194304) /\
 (r=false\/s'.bad=true->s.bad=true\/8<=l.length\/∀(u:ByteArray) rest,u.data.toList.length<=4194304->s.l≠val 1 u.data.toList++rest)
theorem Ep(l:List ByteArray)(y:ByteArray):txV (l++[y])=txV l++[.string y]:=by simp[txV]
def InO (ob:Nat)(v:OV)(W:World):Prop:=W.heap[ob]?=some v.box
theorem InO.step{v:OV}(h:InO ob v W)(hb:Below W.heap.size W W'):InO ob v W':=hb.q h
theorem InO.grown{v:OV}{row:Option Nat}(h:InO ob v W)(hg:W.grownBy W' row)(hne:some ob≠row):InO ob v W':=(hg.block _ (lA h) hne).trans h
theorem JM(q ob:Nat)(s:RS)(v:OV)(l:List ByteArray)(W:World)(hr:RdS q q s W)(hl:s.l.length<=100000000)(ho:InO ob v W)(hown:W.ownsRow q 9 1 (.slice v.bo v.bn v.bc) v.bn (txV l))(hn:v.bn=l.length)(hln:l.length<=20000000)(hoq:ob<q) :
  Calls Tryz.prog 240 #[.pointer (some ⟨q,0,none⟩),.pointer (some ⟨ob,0,none⟩)] W (U3 q ob s v l W):=by
 have hmo:=hmO
 have T:=bC s 1 (by decide);have hc:=fun W0 h0=>jT q q s 1 W0 h0 hl;generalize s.bytes 1=y at *;obtain⟨yl,s'⟩:=y;dsimp only at hc T;obtain⟨Y,hY⟩:∃Y:ByteArray,(⟨yl.toArray⟩:ByteArray)=Y:=⟨_,rfl⟩
 have hYl:Y.data.toList=yl:=by rw[<-hY]
 rw[hY] at hc;rw[<-hYl] at T;clear hY hYl;have Hn:=hid hn;clear hn;have hob:some ob≠(Value.slice v.bo v.bn v.bc).ownBlock:=fun e=>by
  obtain⟨_,_,cur,h3⟩:=aU hown e.symm;unfold InO OV.box at ho;rw[h3] at ho;cases ho
 have hqs:q<W.heap.size:=by obtain⟨_,_,h⟩:=hr;exact h.lt
 have hd:Below W.heap.size W W.drew:=(yaj _ _).drew;have hr0:=hr.later hd;have s0:InO ob v W.drew:=ho.step hd;have x0:=ag hown hd;have X0:BelX q [ob] W W.drew:=(BelX.of_below hd [ob]).mono (by omega) (fun _ hk _=>hk);have z0:=hd.size;have HT:=hid T;clear hr ho hown T hd;go_in;go_upto_region 1 with fail;refine dN (k:=7) (S:=InO ob v) hmo ?_;change bV _ _ _ _ _ _ _ _ _ (World.drew W);generalize World.drew W=W0 at *;refine ztp 0 (pp ob 4) rfl ?_;go_simp;refine zTa 1 (.slice v.bo v.bn v.bc) rfl (by rintro w h;obtain⟨c0,c1,c2,c3,c4,c5,c6,-⟩:=aC h;go_simp) s0 ?_;go_simp;refine ztp 2 (pp q 0) rfl ?_;go_simp;refine zT1 3 rfl (fun K hK=>?_);go_simp;refine (hc W0 hr0).mono ?_;rintro e W1 ⟨rfl,hr1,hg1⟩;have s1:InO ob v W1:=s0.grown hg1 (fun e=>by have:=yaf e;omega);have x1:W1.ownsRow q 9 1 (.slice v.bo v.bn v.bc) v.bn (txV l):=dw x0 (fun k hk=>hg1.block k (aU x0 hk).2.1 (fun e=>by obtain⟨_,_,cur,h3⟩:=aU x0 hk;obtain⟨_,_,h⟩:=hr0;have h4:=h.at_;rw[<-yaf e,h3] at h4;cases h4));have X1:BelX q [ob] W W1:=X0.trans ((jo hg1 (M:=q) (by omega)).mono (yag _) (fun k hk h=>by rw[yah.1 hk] at h;omega));have z1:=yae z0 hg1.size;clear hc;go_simp;refine hK _ _ ⟨.inr s1,?_⟩;clear hK K;refine zT1 4 rfl (fun K hK=>?_);go_simp;generalize hg:W1.alloc _=W2;have hb2:=bE hg
 have r2:Rd W2 1 (some ⟨W1.heap.size,0,none⟩) 1 1 [.string Y]:=by rw[<-hg];exact Rd.new W1 [.string Y] 9 (0,0) 1 1 rfl (by unfold maxLen;omega)
 have s2:=s1.step hb2;have x2:=ag x1 hb2;have hr2:=hr1.later hb2;have X2:BelX q [ob] W W2:=X1.trans ((BelX.of_below hb2 [ob]).mono (by omega) (fun _ hk _=>hk));have z2:=yae z1 hb2.size;clear hg;go_simp;refine hK _ _ ⟨.inr s2,?_⟩;clear hK K;refine zT1 5 rfl (fun K hK=>?_);refine di rfl (.tmp 5) (.tmp 8) 33 rfl q 9 (.string ⟨#[]⟩) 1 16 uC (.slice v.bo v.bn v.bc) v.bn (txV l) rfl x2 (some ⟨W1.heap.size,0,none⟩) 1 1 [.string Y] rfl r2 (one1 _ rfl) (by have:=Hn.out;unfold maxLen;omega) (by have:=Hn.out;omega) (by omega) ?_;intro a3 k3 W3 x3 hg3 hb3 _;have s3:=s2.grown hg3 hob;have hr3:RdS q q s' W3:=wS hr2 hg3 x2 (by decide) (by decide);have X3:BelX q [ob] W W3:=X2.trans (BelX.of_below hb3 [ob]);refine hK _ _ ⟨.inr s3,?_⟩;clear hK K;refine ztp 6 (pp ob 4) rfl ?_;go_simp;refine nM (by kernel_rfl) (by kernel_rfl) ?_;refine zA1 7 rfl (fun K hK=>?_);go_simp;obtain⟨c0,c1,c2,c3,c4,c5,c6,c7⟩:=aC s3;go_simp;refine hK _ _ ?_;clear hK K;refine yby (by kernel_rfl) ?_ _;have hB:(W3.setCell ⟨ob,4,none⟩ (.slice a3 (v.bn+1) k3)).heap[ob]?=some (v.parts a3 (v.bn+1) k3).box:=at_set s3;have hR:RdS q q s' (W3.setCell ⟨ob,4,none⟩ (.slice a3 (v.bn+1) k3)):=hr3.grown (ak _ _ _ _) s3 (fun c fr h=>by cases h) (by omega);have hX:BelX q [ob] W (W3.setCell ⟨ob,4,none⟩ (.slice a3 (v.bn+1) k3)):=X3.set _ _ _ (.inl (by simp));have hO:(W3.setCell ⟨ob,4,none⟩ (.slice a3 (v.bn+1) k3)).ownsRow q 9 1 (.slice a3 (v.bn+1) k3) (v.bn+1) (txV (l++[Y])):=by
  rw[Ep];exact dw x3 (fun k hk=>yaA _ _ _ _ (by have:=(aU x3 hk).1;show k≠ob;omega))
 clear s3 hr3 X3 x3 hg3 hb3 s2 x2 hr2 X2 z2 hb2 r2 s1 x1 X1 z1 hg1 hr1 s0 x0 X0 z0 hr0;generalize W3.setCell _ _=W4 at *;obtain⟨-,-,-,-,c4,-,-,-⟩:=aC hB;dsimp only[OV.parts] at c4;have hG:Hid (∀b:Bool,(b=true->l.length<8)->(b=false->8<=l.length)->U3 q ob s v l W (.returned (.bool b)) W4):=hid (by
  intro b h1 h2;have hn:=Hn.out;rw[hn] at hB hO;rw[<-ybg (a:=Y),<-yab] at hB hO;refine⟨b,s',Y,a3,k3,rfl,hR,hB,hO,hX,HT.out.le,fun hb hs=>⟨h1 hb,HT.out.yes hs⟩,fun h=>?_⟩;cases b with
  | false=>exact .inr (.inl (h2 rfl))
  | true=>
   rcases h with h | h
   ·cases h
   exact (HT.out.no h).imp id (fun h=>.inr fun u rest hu=>h u.data.toList rest hu))
 clear hB hR hX hO HT;have HL:=Hn.out;by_cases h8:l.length<8
 ·have f0:decide ((v.bn:Int)+1<=8)=true:=yaa (by omega);clear HL;go_wp2_with fail;go_ret;exact hG.out true (fun _=>h8) (fun h=>by cases h)
 have f0:decide ((v.bn:Int)+1<=8)=false:=yad (by omega);clear HL;go_wp2_with fail;go_ret;exact hG.out false (fun h=>by cases h) (fun _=>by omega)
theorem Jv(xs:List ByteArray)(u:ByteArray):bT (xs++[u])=bT xs++val 1 u.data.toList:=by simp[bT]
theorem zI:∀(xs ys:List ByteArray) (b:List UInt8),(bT ys).length<=4194304->bT ys=bT xs++b->∃zs,ys=xs++zs/\b=bT zs
 | [],ys,b,_,h=>⟨ys,rfl,h.symm⟩
 | u::xs,[],b,_,h=>by
  have:=congrArg List.length h;rw[gQ,yab,yab,ae] at this;have e0:(bT []).length=0:=rfl;omega
 | u::xs,y::ys,b,hl,h=>by
  have hl2:=congrArg List.length h;rw[yab,gQ u xs,yab,ae] at hl2;rw[gQ,gQ,yav] at h;rw[gQ,yab,ae] at hl;rw[gQ y ys,yab,ae] at hl2;obtain⟨h1,h2⟩:=az (by decide) (by omega) (by omega) h;obtain⟨zs,rfl,hb⟩:=zI xs ys b (by omega) h2;exact⟨zs,by rw[mD h1];rfl,hb⟩
theorem BL(xs:List ByteArray):xs.length<=(bT xs).length:=by
 induction xs with
 | nil=>simp
 | cons u xs ih=>rw[gQ,yab,ae,yaF];omega
def TZ (B g ob:Nat)(t:UInt8)(s:RS)(v:OV)(W:World)(q:Nat)(rest b:List UInt8)(wr:World):Prop:=
 ∃(x:List UInt8) (w1:World) (a:Option Addr) (k:Nat) (l:List ByteArray),s.take t=(some x,⟨rest,false⟩)/\w1.heap.size=q/\RdS B g ⟨rest,false⟩ w1/\W.grownBy w1 (some g)/\BelX q [ob] w1 wr/\RdS q q ⟨b,false⟩ wr/\InO ob (v.parts a l.length k) wr /\
  wr.ownsRow q 9 1 (.slice a l.length k) l.length (txV l)/\x=bT l++b/\l.length<=8
def U1 (B g ob:Nat)(t:UInt8)(s:RS)(v:OV)(W:World)(rest:List UInt8)(wr:World):Prop:=
 ∃(x:List UInt8) (w1:World) (a:Option Addr) (k:Nat) (l:List ByteArray),s.take t=(some x,⟨rest,false⟩)/\RdS B g ⟨rest,false⟩ w1/\W.grownBy w1 (some g)/\BelX w1.heap.size [ob] w1 wr/\InO ob (v.parts a l.length k) wr /\
  wr.ownsRow w1.heap.size 9 1 (.slice a l.length k) l.length (txV l)/\l.length<=20000000/\∀ys,ys.length<=8->(bT ys).length<=4194304->bT ys≠x
def PU (B g ob:Nat)(t:UInt8)(s:RS)(v:OV)(W:World)(e:Ending)(w':World):Prop:=
 (∃r,e=.returned r)/\∃s' a k l,RdS B g s' w'/\InO ob (v.parts a l.length k) w'/\w'.ownsRow W.heap.size 9 1 (.slice a l.length k) l.length (txV l)/\BelX W.heap.size [g,ob] W w'/\l.length<=20000000 /\
  Took (fun ys=>val t (bT ys)) (fun ys=>ys.length<=8/\(bT ys).length<=4194304) (fun ys=>(bT ys).length<=4194304) s l s'
theorem KR(B g ob:Nat)(s:RS)(t:UInt8)(v:OV)(W:World)(ht:0<t.toNat)(hr:RdS B g s W)(hl:s.l.length<=100000000)(ho:InO ob (v.parts none 0 0) W)(hg:g≠ob) :
  Calls Tryz.prog 207 #[.pointer (some ⟨g,0,none⟩),.int .u8 (t.toNat:Int),.func (.func 240) #[] #[.pointer (some ⟨ob,0,none⟩)]] W (PU B g ob t s v W):=by
 have hls:=lA ho;have htc:=jy s t ht;have hkept:∀w1:World,W.grownBy w1 (some g)->InO ob (v.parts none 0 0) w1:=fun w1 h=>ho.grown h (fun e=>hg (yaf e).symm);have hlow:∀w1:World,W.grownBy w1 (some g)->∀k∈[ob],∃o,w1.heap[k]?=some o/\∀c fr,o≠.cells c 5 fr:=by
  intro w1 h k hk;rw[yah.1 hk];exact⟨_,hkept w1 h,fun c fr h=>by cases h⟩
 have hgx:g∉[ob]:=by simpa using hg
 have hX:∀(w1 w':World),W.grownBy w1 (some g)->BelX w1.heap.size [ob] w1 w'->BelX W.heap.size [g,ob] W w':=fun w1 w' h k=>
  ((BelX.of_grown h).mono (yag _) (fun k hk _=>by rw[yah.1 hk];simp)).trans (k.mono h.size (fun k hk _=>by rw[yah.1 hk];simp))
 refine (rE B g s t 240 #[.pointer (some ⟨ob,0,none⟩)] W hr hl (enters_of Tryz.func240 (by kernel_rfl) rfl) (TZ B g ob t s v W) (U1 B g ob t s v W) ?bad (fun q rest b w' h=>by obtain⟨x,w1,a,k,l,_,_,_,_,_,h,_⟩:=h;exact h) ?init ?step).mono ?post
 case bad=>
  rintro rest w' ⟨x,w1,a,k,l,_,k2,k3,k4,_⟩;exact RdS.belX k2 k4 hgx (hlow w1 k3)
 case init=>
  intro x rest ao cap w1 htk hgr hrg hrd hty;have hb1:=bN w1 (.cells #[.slice ao x.length cap,.bool false,.bool true] 237);have k1:=hkept w1 hgr;refine⟨x,w1,none,0,[],htk,rfl,hrg,hgr,BelX.of_below hb1 _,⟨ao,cap,?_,yag _,hrd.later hb1,hty.later hb1⟩,k1.step hb1,yaC _ _ _ _,rfl,yam _⟩;show (w1.heap.push _)[w1.heap.size]?=some _;simp
 case step=>
  rintro q rest b wr hb ⟨x,w1,a,k,l,htk,k1,k2,k3,k4,k5,k6,k7,k8,k9⟩;obtain⟨_,_,_,t4,_⟩:=dW htk;have hxl:=t4;rw[k8,yab] at hxl;have hlong:=BL l;have hlq:ob<q:=by rw[<-k1];exact yaz hls k3.size
  refine (JM q ob ⟨b,false⟩ (v.parts a l.length k) l wr k5 (by dsimp only;omega) k6 k7 rfl (by omega) hlq).mono ?_;rintro e w' ⟨r,s',y,a',k',rfl,m1,m2,m3,m4,m5,m6,m7⟩;have hlen:(l++[y]).length<=20000000:=by rw[yab,ybg];omega
  refine⟨r,s',rfl,m1,m5,fun hn=>⟨x,w1,a',k',l++[y],htk,k2,k3,?_,m2,?_,hlen,fun ys hy1 hy2 e=>?_⟩,fun hr hb' hlt=>⟨x,w1,a',k',l++[y],htk,k1,k2,k3,k4.trans m4,uP m1 hb',m2,m3,?_,?_⟩⟩
  ·rw[k1];exact k4.trans m4
  ·rw[k1];exact m3
  ·rw[k8] at e;obtain⟨zs,rfl,hz⟩:=zI l ys b hy2 e
   match zs,hz with
   | [],hz=>rw[hz] at hb;simp[bT] at hb
   | z::zs,hz=>
    have hzl:=hy2;rw[e,hz,gQ,yab,yab,ae] at hzl;by_cases hc:r=false\/s'.bad=true
    ·rcases m7 hc with h | h | h
     ·cases h
     ·rw[yab,yaF] at hy1;omega
     exact h z (bT zs) (by omega) hz
    simp only[not_or,Bool.not_eq_false,ybs] at hc;obtain⟨_,_,h3,_⟩:=m6 hc.1 hc.2;refine hn ⟨hc.1,hc.2,?_⟩;have:=congrArg List.length h3;rw[yab,ae] at this;dsimp only at this;omega
  ·obtain⟨_,_,h3,_⟩:=m6 hr hb';rw[Jv,yav,<-h3];exact k8
  have:=(m6 hr hb').1;rw[yab,ybg];omega
 case post=>
  rintro e w' (⟨hx,rfl,m1,m2⟩ | ⟨x,rest,hx,⟨rfl,q,x',w1,a,k,l,hx',k1,k2,k3,k4,k5,k6,k7,k8,k9⟩ | ⟨rfl,wx,⟨x',w1,a,k,l,hx',k2,k3,k4,k6,k7,k8,k9⟩,rfl⟩⟩)
  ·rcases htc with ⟨x,rest,h,_⟩ | ⟨s',h,e1,e2,e3⟩
   ·rw[h] at hx;cases hx
   refine⟨⟨_,rfl⟩,(s.take t).2,none,0,[],m1,hkept w' m2,yaC _ _ _ _,hX w' w' m2 (BelX.refl _ _ _),yam _,⟨fun hb=>?_,fun _=>e3.imp id (fun h ys rest hy=>h _ rest hy.2),?_⟩⟩
   ·rw[h] at hb;rw[show s'.bad=true from e1] at hb;cases hb
   rw[h];exact yaR (congrArg List.length e2)
  ·rw[hx] at hx';obtain rfl:=yaf (congrArg Prod.fst hx');obtain⟨t1,_,t3,t4,_⟩:=dW hx;rw[yaD] at k8;have hlong:=BL l;subst k8;refine⟨⟨_,rfl⟩,⟨rest,false⟩,a,k,l,RdS.belX k2 (k1▸k4) hgx (hlow w1 k3),k6,lV k7 (by rw[<-k1];exact k3.size),hX w1 w' k3 (k1▸k4),by omega,⟨fun _=>⟨t1,t3,t4⟩,fun h=>(by cases h),?_⟩⟩;rw[t3];exact gW _ _ _
  rw[hx] at hx';obtain rfl:=yaf (congrArg Prod.fst hx');obtain⟨t1,_,t3,t4,_⟩:=dW hx;have hR:=RdS.belX k2 k4 hgx (hlow w1 k3);refine⟨⟨_,rfl⟩,⟨rest,true⟩,a,k,l,?_,ah k6 (Ne.symm hg),?_,(hX w1 wx k3 k4).set _ _ _ (.inl (by simp)),k8,⟨fun h=>(by cases h),fun _=>.inr fun ys rest' hy e=>?_,?_⟩⟩
  ·obtain⟨ao,cap,h⟩:=hR;exact⟨ao,cap,h.fail⟩
  ·refine lV (dw k7 (fun k hk=>yaA _ _ _ _ ?_)) k3.size;have h1:=(aU k7 hk).1;have h2:g<W.heap.size:=by obtain⟨_,_,h⟩:=hr;exact h.lt
   have:=k3.size;show k≠g;omega
  ·rw[t3] at e;exact k9 ys hy.1 hy.2 (az ht t4 hy.2 e).1.symm
  rw[t3];exact gW _ _ _
structure KeepR (W W':World):Prop where
 size:W.heap.size<=W'.heap.size
 rows:∀(k:Nat) (c:Array Value) (t:TypeId) (fr:Nat×Nat),(t=5\/t=9\/t=106)->W.heap[k]?=some (Obj.cells c t fr)->W'.heap[k]?=some (Obj.cells c t fr)
theorem KeepR.trans{b c:World}(h:KeepR a b)(h':KeepR b c):KeepR a c:=⟨yae h.size h'.size,fun k x t fr ht hk=>h'.rows k x t fr ht (h.rows k x t fr ht hk)⟩
theorem KeepR.of_below{b:World}(h:Below a.heap.size a b):KeepR a b:=⟨h.size,fun k _ _ _ _ hk=>(h.block k (lA hk)).trans hk⟩
theorem KeepR.of_belX{b:World}{xs:List Nat}(h:BelX a.heap.size xs a b)(hx:∀k∈xs,∃o,a.heap[k]?=some o/\∀(c:Array Value) (t:TypeId) (fr:Nat×Nat),(t=5\/t=9\/t=106)->o≠.cells c t fr):KeepR a b:=by
 refine⟨h.size,fun k c t fr ht hk=>h.at_ hk (lA hk) (fun hm=>?_)⟩;obtain⟨o,h1,h2⟩:=hx k hm;rw[hk] at h1;exact h2 c t fr ht (yaf h1).symm
theorem kW{b:World}{size:Nat}{xs:List Value}(ht:t=5\/t=9\/t=106)(h:Rd a size ao n cap xs)(hy:TyX t a ao cap)(hk:KeepR a b):Rd b size ao n cap xs:=by
 obtain⟨h1,h2,h3,h4,h5⟩:=h;refine⟨h1,h2,h3,h4,fun h0 x hx=>?_⟩;obtain⟨s1,l,c⟩:=h5 h0 x hx;obtain⟨c',fr,h6⟩:=hy h0 x hx;exact⟨s1,yaz l hk.size,fun j u hu=>(yaK (a:=⟨x.block,x.off+j,none⟩) ((hk.rows _ _ _ _ ht h6).trans h6.symm)).trans (c j u hu)⟩
theorem TyX.kpr{b:World}(ht:t=5\/t=9\/t=106)(hy:TyX t a ao cap)(hk:KeepR a b):TyX t b ao cap:=fun h0 x hx=>by
 obtain⟨c',fr,h6⟩:=hy h0 x hx;exact⟨c',fr,hk.rows _ _ _ _ ht h6⟩
structure OpTy (W:World)(v:OV):Prop where
 a:TyX 106 W v.ao v.ac
 b:TyX 9 W v.bo v.bc
 c:TyX 5 W v.co v.cc
theorem OpTy.kpr{b:World}{v:OV}(h:OpTy a v)(hk:KeepR a b):OpTy b v:=⟨h.a.kpr (.inr (.inr rfl)) hk,h.b.kpr (.inr (.inl rfl)) hk,h.c.kpr (.inl rfl) hk⟩
theorem OpAt.kpr{b:World}{v:OV}{c:OC}(h:OpAt a v c)(hy:OpTy a v)(hk:KeepR a b):OpAt b v c:=
 ⟨kW (.inr (.inr rfl)) h.a hy.a hk,kW (.inr (.inl rfl)) h.b hy.b hk,kW (.inl rfl) h.c hy.c hk,h.la,h.lb,h.lc⟩
theorem iZ(B g:Nat)(s:RS)(t:UInt8)(W:World)(hr:RdS B g s W)(hl:s.l.length<=100000000):Calls Tryz.prog 194 #[.pointer (some ⟨g,0,none⟩),.int .u8 (t.toNat:Int)] W fun e w'=>
  ∃ao cap,e=.returned (.slice ao (s.bytes t).1.length cap)/\Rd w' 1 ao (s.bytes t).1.length cap (byV (s.bytes t).1)/\TyX 5 w' ao cap/\RdS B g (s.bytes t).2 w'/\W.grownBy w' (some g):=by
 have hc:=take_any B g s t W hr hl;unfold jK at hc;unfold RS.bytes;generalize s.take t=tk at *;obtain⟨ox,s'⟩:=tk;cases ox with
 | none=>
  go_in;go_wp2_with fail;refine hc.mono ?_;rintro e w' ⟨h1,h2,rfl⟩;go_wp2;go_ret;exact⟨none,0,rfl,Rd.nil _ _,fun h=>absurd h (yaw 0),h1,h2⟩
 | some x=>
  go_in;go_wp2_with fail;refine hc.mono ?_;rintro e w' ⟨h1,h2,ao,cap,rfl,h4,h5⟩;go_wp2;go_ret;exact⟨ao,cap,rfl,h4,h5,h1,h2⟩
theorem Part.next{α:Type}{body:α->List UInt8}{may good:α->Prop}{b:List UInt8}{v:OV}{c:OC}{ls more:List UInt8}{s s':RS}{y:α}(h:Part b v c ls s)(T:Took body may good s y s')(hk:v'.k=v.k)(hf:fieldsOf v.k=ls++x::more)(heq:∀l∈ls,bd v' c' l=bd v c l)(honly:OnlyL (ls++[x]) v' c')
  (n0:0<=v'.n) (n1:v'.n<9223372036854775808) (hy:dV v' c' x=body y) (hgood:good y->(bd v' c' x).length<=4194304) (hmay:∀W v2 c2,OpAt W v2 c2->aA v2 c2=true->∃z,may z/\dV v2 c2 x=body z):Part b v' c' (ls++[x]) s':=by
 refine h.step hk hf heq honly n0 n1 T.le (fun hb=>?_) (fun hb=>?_)
 ·obtain⟨h1,h2,h3⟩:=T.yes hb;exact⟨h1,by rw[hy];exact h2,hgood h3⟩
 refine (T.no hb).imp id (fun hn W v2 c2 rest ho hm e=>?_);obtain⟨z,hz,hl⟩:=hmay W v2 c2 ho hm;rw[hl] at e;exact hn z rest hz e
theorem J9{k:Int}{ls more:List UInt8}(hf:fieldsOf k=ls++more):∀l∈ls,l=110\/l=116\/l=97\/l=112\/l=99\/l=107:=by
 intro l hl;have hm:l∈fieldsOf k:=by rw[hf];exact yaN _ hl
 obtain⟨j,hj⟩:=List.getElem?_of_mem hm;exact letters k j l hj
theorem vM(W:World){v:OV}{c:OC}(ho:OpAt W v c)(hm:aA v c=true)(l:UInt8):(bd v c l).length<=4194304:=by have:=(sN ho hm).1 l;omega
theorem OnlyL.more{ls:List UInt8}{v:OV}{c:OC}(h:OnlyL ls v c):OnlyL (ls++[x]) v c where
 name:=fun hn=>h.name (fun hm=>hn (yaN _ hm))
 to_:=fun hn=>h.to_ (fun hm=>hn (yaN _ hm))
 attrs:=fun hn=>h.attrs (fun hm=>hn (yaN _ hm))
 parts:=fun hn=>h.parts (fun hm=>hn (yaN _ hm))
 cursor:=fun hn=>h.cursor (fun hm=>hn (yaN _ hm))
 n:=fun hn=>h.n (fun hm=>hn (yaN _ hm))
def OV.setName (v:OV)(x:ByteArray):OV:=⟨v.k,x,v.to,v.ao,v.an,v.ac,v.bo,v.bn,v.bc,v.co,v.cn,v.cc,v.n⟩
def OV.setTo (v:OV)(x:ByteArray):OV:=⟨v.k,v.name,x,v.ao,v.an,v.ac,v.bo,v.bn,v.bc,v.co,v.cn,v.cc,v.n⟩
def OV.setAttrs (v:OV)(a:Option Addr)(n k:Nat):OV:=⟨v.k,v.name,v.to,a,n,k,v.bo,v.bn,v.bc,v.co,v.cn,v.cc,v.n⟩
def OV.setCur (v:OV)(a:Option Addr)(n k:Nat):OV:=⟨v.k,v.name,v.to,v.ao,v.an,v.ac,v.bo,v.bn,v.bc,a,n,k,v.n⟩
def OV.setN (v:OV)(n:Int):OV:=⟨v.k,v.name,v.to,v.ao,v.an,v.ac,v.bo,v.bn,v.bc,v.co,v.cn,v.cc,n⟩
section
variable {b:List UInt8} {v:OV} {c:OC} {ls more:List UInt8} {s s':RS}
theorem Part.name(h:Part b v c ls s)(T:Took (val 2) (fun z=>z.length<=4194304) (fun z=>z.length<=4194304) s y s')(hf:fieldsOf v.k=ls++110::more)(hx:110∉ls):Part b (v.setName ⟨y.toArray⟩) c (ls++[110]) s':=by
 refine h.next T rfl hf (fun l hl=>?_) ⟨fun hn=>absurd (by simp) hn,h.only.more.to_,h.only.more.attrs,h.only.more.parts,h.only.more.cursor,h.only.more.n⟩ h.n0 h.n1 rfl (fun hg=>hg) (fun W v2 c2 ho hm=>⟨_,vM W ho hm 110,rfl⟩);have hne:¬l=110:=fun e=>hx (e▸hl);simp only[bd,if_neg hne,OV.setName]
theorem Part.to_(h:Part b v c ls s)(T:Took (val 3) (fun z=>z.length<=4194304) (fun z=>z.length<=4194304) s y s')(hf:fieldsOf v.k=ls++116::more)(hx:116∉ls):Part b (v.setTo ⟨y.toArray⟩) c (ls++[116]) s':=by
 refine h.next T rfl hf (fun l hl=>?_) ⟨h.only.more.name,fun hn=>absurd (by simp) hn,h.only.more.attrs,h.only.more.parts,h.only.more.cursor,h.only.more.n⟩ h.n0 h.n1 rfl (fun hg=>hg) (fun W v2 c2 ho hm=>⟨_,vM W ho hm 116,rfl⟩);have hne:¬l=116:=fun e=>hx (e▸hl);simp only[bd,if_neg hne,OV.setTo]
theorem Part.attrs{y:List (ByteArray×ByteArray)}{a:Option Addr}(h:Part b v c ls s)(T:Took (fun ys=>val 4 (aI ys)) (fun ys=>ys.length<=50/\(aI ys).length<=4194304) (fun ys=>(aI ys).length<=4194304) s y s')(hf:fieldsOf v.k=ls++97::more)(hx:97∉ls):Part b (v.setAttrs a n k) ⟨y,c.parts,c.cursor⟩ (ls++[97]) s':=by
 refine h.next T rfl hf (fun l hl=>?_) ⟨h.only.more.name,h.only.more.to_,fun hn=>absurd (by simp) hn,h.only.more.parts,h.only.more.cursor,h.only.more.n⟩ h.n0 h.n1 rfl (fun hg=>hg) (fun W v2 c2 ho hm=>⟨c2.attrs,⟨?_,vM W ho hm 97⟩,rfl⟩)
 ·have hne:¬l=97:=fun e=>hx (e▸hl);simp only[bd,if_neg hne,OV.setAttrs]
 obtain⟨_,h2,_⟩:=mM W ho hm;have:=ho.a.1;rw[fG] at this;have:=h2.an;omega
theorem Part.parts{y:List ByteArray}{a:Option Addr}(h:Part b v c ls s)(T:Took (fun ys=>val 5 (bT ys)) (fun ys=>ys.length<=8/\(bT ys).length<=4194304) (fun ys=>(bT ys).length<=4194304) s y s')(hf:fieldsOf v.k=ls++112::more)(hx:112∉ls):Part b (v.parts a n k) ⟨c.attrs,y,c.cursor⟩ (ls++[112]) s':=by
 refine h.next T rfl hf (fun l hl=>?_) ⟨h.only.more.name,h.only.more.to_,h.only.more.attrs,fun hn=>absurd (by simp) hn,h.only.more.cursor,h.only.more.n⟩ h.n0 h.n1 rfl (fun hg=>hg) (fun W v2 c2 ho hm=>⟨c2.parts,⟨?_,vM W ho hm 112⟩,rfl⟩)
 ·have hne:¬l=112:=fun e=>hx (e▸hl);simp only[bd,if_neg hne,OV.parts]
 obtain⟨_,h2,_⟩:=mM W ho hm;have:=ho.b.1;rw[ig] at this;have:=h2.bn;omega
theorem Part.cur{a:Option Addr}(h:Part b v c ls s)(T:Took (val 6) (fun z=>z.length<=4194304) (fun z=>z.length<=4194304) s y s')(hf:fieldsOf v.k=ls++99::more)(hx:99∉ls):Part b (v.setCur a n k) ⟨c.attrs,c.parts,y⟩ (ls++[99]) s':=by
 refine h.next T rfl hf (fun l hl=>?_) ⟨h.only.more.name,h.only.more.to_,h.only.more.attrs,h.only.more.parts,fun hn=>absurd (by simp) hn,h.only.more.n⟩ h.n0 h.n1 rfl (fun hg=>hg) (fun W v2 c2 ho hm=>⟨_,vM W ho hm 99,rfl⟩);have hne:¬l=99:=fun e=>hx (e▸hl);simp only[bd,if_neg hne,OV.setCur]
theorem Part.num{y:Nat}(h:Part b v c ls s)(T:Took (fun n:Nat=>val 7 (au n)) (fun n=>n<=1000) (fun n=>n<=1000) s y s')(hy:y<=1000)(hf:fieldsOf v.k=ls++107::more)(hx:107∉ls):Part b (v.setN (y:Int)) c (ls++[107]) s':=by
 refine h.next T rfl hf (fun l hl=>?_) ⟨h.only.more.name,h.only.more.to_,h.only.more.attrs,h.only.more.parts,h.only.more.cursor,fun hn=>absurd (by simp) hn⟩ (by show 0<=(y:Int);omega) (by show (y:Int)<_;omega) rfl (fun _=>by show (au _).length<=_;rw[ai];omega) (fun W v2 c2 ho hm=>⟨v2.n.toNat,?_,rfl⟩)
 ·have hne:¬l=107:=fun e=>hx (e▸hl);rcases J9 hf l hl with rfl|rfl|rfl|rfl|rfl|rfl
  all_goals first | rfl | exact absurd rfl hne
 have:=(sN ho hm).2;omega
end
theorem fU(s:RS)(t:UInt8):(s.bytes t).1.length<=4194304:=by
 unfold RS.bytes;cases h:s.take t with
 | mk ox s'=>
  cases ox with
  | none=>simp
  | some x=>exact (dW h).2.2.2.1
structure OpGo (B g ob:Nat)(w:World)(b:List UInt8)(v:OV)(c:OC)(ls:List UInt8)(s:RS)(wr:World):Prop where
 bel:Below w.heap.size w wr
 box:InO ob v wr
 rd:RdS B g s wr
 at_:OpAt wr v c
 ty:OpTy wr v
 part:Part b v c ls s
theorem yK{s:RS}(hr:RdS B g s wr)(hg:wr.grownBy w1 (some g)):KeepR wr w1:=by
 refine KeepR.of_belX (BelX.of_grown hg) (fun k hk=>?_);rw[yah.1 hk];obtain⟨_,_,h⟩:=hr;refine⟨_,h.at_,fun c t fr ht e=>?_⟩;cases e;rcases ht with h | h | h<;>exact absurd h (by decide)
theorem FB{v:OV}{x:Value}(hb:InO ob v w1):KeepR w1 (w1.setCell ⟨ob,i,none⟩ x):=by
 refine KeepR.of_belX (xs:=[ob]) ((BelX.refl _ _ _).set _ _ _ (.inl (by simp))) (fun k hk=>?_);rw[yah.1 hk];refine⟨_,hb,fun c t fr ht e=>?_⟩;cases e;rcases ht with h | h | h<;>exact absurd h (by decide)
theorem OpGo.next{b:List UInt8}{v:OV}{c:OC}{ls ls':List UInt8}{s s':RS}{x:Value}(h:OpGo B g ob w b v c ls s wr)(hg:wr.grownBy w1 (some g))(hr:RdS B g s' w1)(hgw:w.heap.size<=g)(how:w.heap.size<=ob)(hgo:g≠ob)
  (hbox:(match v.box with | .cells cs t fr=>Obj.cells (cs.setIfInBounds i x) t fr | o=>o)=v'.box) (ha:OpAt w1 v' c') (ht:OpTy w1 v') (hp:Part b v' c' ls' s'):OpGo B g ob w b v' c' ls' s' (w1.setCell ⟨ob,i,none⟩ x):=by
 have hb1:InO ob v w1:=h.box.grown hg (fun e=>hgo (yaf e).symm);have hk:=FB (i:=i) (x:=x) hb1;have hgs:g<wr.heap.size:=by obtain⟨_,_,h⟩:=h.rd;exact h.lt
 refine⟨(h.bel.trans (below_of_grown hg hgw hgs)).setCell how x,?_,hr.grown (ak _ _ _ _) hb1 (fun c fr h=>by cases h) hgo,ha.kpr ht hk,ht.kpr hk,hp⟩;have h2:=at_set (i:=i) (x:=x) hb1;unfold InO;rw[<-hbox];exact h2
theorem OpGo.kept{b:List UInt8}{v:OV}{c:OC}{ls:List UInt8}{s:RS}(h:OpGo B g ob w b v c ls s wr)(hg:wr.grownBy w1 (some g)):OpAt w1 v c/\OpTy w1 v:=⟨h.at_.kpr h.ty (yK h.rd hg),h.ty.kpr (yK h.rd hg)⟩
def Fa (B g:Nat)(t:UInt8)(s:RS)(W:World)(e:Ending)(w':World):Prop:=∃ao n cap xs s',e=.returned (.slice ao n cap)/\Rd w' 2 ao n cap (atV xs)/\n<=100000000/\TyX 106 w' ao cap/\RdS B g s' w'/\W.grownBy w' (some g) /\
 Took (fun ys=>val t (aI ys)) (fun ys=>bI ys=true/\(aI ys).length<=4194304) (fun ys=>bI ys=true/\(aI ys).length<=4194304) s xs s'
theorem vN{x:List (ByteArray×ByteArray)}(h:bI x=true):x.length<=50:=by
 unfold bI at h;simp only[yaq,yaG] at h;exact h.2
theorem OD:Af 246:=by
 intro q nb ab s i x1 x2 W hr hl hn ha h1 h2 hi;have hnab:nb≠ab:=by rintro rfl;rw[hn] at ha;cases ha
 have c0:W.cell? ⟨nb,0,none⟩=some (.int .i64 (i:Int)):=by simp[World.cell?,hn,dQ]
 have f0:W.frozen? ⟨nb,0,none⟩=false:=by simp[World.frozen?,hn,dQ]
 obtain⟨j,hj⟩:∃j:Int,j=((i+1:Nat):Int):=⟨_,rfl⟩
 have hw:IntKind.i64.wrap ((i:Int)+1)=j:=(gG _ (by omega) (by omega)).trans (by omega);have hle:decide (j<=2)=decide (i+1<=2):=by rw[decide_eq_decide];omega
 have f1:(j==1)=decide (i=0):=by rw[ybk];simp;omega
 rw[<-hle,<-hj];clear hj hle;have hn1:(W.setCell ⟨nb,0,none⟩ (.int .i64 j)).heap[nb]?=some (dQ j):=at_set hn;have ha1:(W.setCell ⟨nb,0,none⟩ (.int .i64 j)).heap[ab]?=some (bU (x1,x2)):=ah ha (Ne.symm hnab);have hg1:W.grownBy (W.setCell ⟨nb,0,none⟩ (.int .i64 j)) (some nb):=ak _ _ _ _;have hr1:RdS q q s (W.setCell ⟨nb,0,none⟩ (.int .i64 j)):=hr.grown hg1 hn (fun c fr h=>by cases h) (by omega);have hb1:BelX q [nb,ab] W (W.setCell ⟨nb,0,none⟩ (.int .i64 j)):=(BelX.refl _ _ _).set _ _ _ (.inl (by simp));have hq:W.heap.size<=(W.setCell ⟨nb,0,none⟩ (.int .i64 j)).heap.size:=hb1.size;have hqs:q<W.heap.size:=by obtain⟨_,_,h⟩:=hr;exact h.lt
 have d0:(W.setCell ⟨nb,0,none⟩ (.int .i64 j)).cell? ⟨nb,0,none⟩=some (.int .i64 j):=by simp[World.cell?,hn1,dQ]
 generalize hW1:W.setCell ⟨nb,0,none⟩ (.int .i64 j)=W1 at *;by_cases h0:i=0
 ·rw[if_pos h0,if_pos h0];rw[yaa h0] at f1;have hc:=jT q q s 1 _ hr1 hl;clear h0;go_in;go_wp2_with fail;refine hc.mono ?_;rintro e W2 ⟨rfl,h3,h4⟩;have ha2:W2.heap[ab]?=some (bU (x1,x2)):=(h4.block _ (by omega) (fun e=>by have:=yaf e;omega)).trans ha1;have hn2:W2.heap[nb]?=some (dQ j):=(h4.block _ (by omega) (fun e=>by have:=yaf e;omega)).trans hn1;have g0:W2.cell? ⟨ab,0,none⟩=some (.string x1):=by simp[World.cell?,ha2,bU]
  have g1:W2.frozen? ⟨ab,0,none⟩=false:=by simp[World.frozen?,ha2,bU]
  have hn3:(W2.setCell ⟨ab,0,none⟩ (.string ⟨(s.bytes 1).1.toArray⟩)).heap[nb]?=some (dQ j):=ah hn2 hnab;have ha3:(W2.setCell ⟨ab,0,none⟩ (.string ⟨(s.bytes 1).1.toArray⟩)).heap[ab]?=some (bU (⟨(s.bytes 1).1.toArray⟩,x2)):=at_set ha2;have hr3:RdS q q (s.bytes 1).2 (W2.setCell ⟨ab,0,none⟩ (.string ⟨(s.bytes 1).1.toArray⟩)):=h3.grown (ak _ _ _ _) ha2 (fun c fr h=>by cases h) (by omega);have hb3:BelX q [nb,ab] W (W2.setCell ⟨ab,0,none⟩ (.string ⟨(s.bytes 1).1.toArray⟩)):=(hb1.trans ((jo h4 (by omega)).mono (yag _) (fun k hk h=>by rw[yah.1 hk] at h;omega))).set _ _ _ (.inl (by simp));have k0:(W2.setCell ⟨ab,0,none⟩ (.string ⟨(s.bytes 1).1.toArray⟩)).cell? ⟨nb,0,none⟩=some (.int .i64 j):=by simp[World.cell?,hn3,dQ]
  clear hW1;go_wp2_with fail;go_ret;exact⟨rfl,hr3,hn3,ha3,hb3⟩
 rw[if_neg h0,if_neg h0];rw[yad h0] at f1;have hc:=jT q q s 2 _ hr1 hl;clear h0;go_in;go_wp2_with fail;refine hc.mono ?_;rintro e W2 ⟨rfl,h3,h4⟩;have ha2:W2.heap[ab]?=some (bU (x1,x2)):=(h4.block _ (by omega) (fun e=>by have:=yaf e;omega)).trans ha1;have hn2:W2.heap[nb]?=some (dQ j):=(h4.block _ (by omega) (fun e=>by have:=yaf e;omega)).trans hn1;have g0:W2.cell? ⟨ab,1,none⟩=some (.string x2):=by simp[World.cell?,ha2,bU]
 have g1:W2.frozen? ⟨ab,1,none⟩=false:=by simp[World.frozen?,ha2,bU]
 have hn3:(W2.setCell ⟨ab,1,none⟩ (.string ⟨(s.bytes 2).1.toArray⟩)).heap[nb]?=some (dQ j):=ah hn2 hnab;have ha3:(W2.setCell ⟨ab,1,none⟩ (.string ⟨(s.bytes 2).1.toArray⟩)).heap[ab]?=some (bU (x1,⟨(s.bytes 2).1.toArray⟩)):=at_set ha2;have hr3:RdS q q (s.bytes 2).2 (W2.setCell ⟨ab,1,none⟩ (.string ⟨(s.bytes 2).1.toArray⟩)):=h3.grown (ak _ _ _ _) ha2 (fun c fr h=>by cases h) (by omega);have hb3:BelX q [nb,ab] W (W2.setCell ⟨ab,1,none⟩ (.string ⟨(s.bytes 2).1.toArray⟩)):=(hb1.trans ((jo h4 (by omega)).mono (yag _) (fun k hk h=>by rw[yah.1 hk] at h;omega))).set _ _ _ (.inl (by simp));have k0:(W2.setCell ⟨ab,1,none⟩ (.string ⟨(s.bytes 2).1.toArray⟩)).cell? ⟨nb,0,none⟩=some (.int .i64 j):=by simp[World.cell?,hn3,dQ]
 clear hW1;go_wp2_with fail;go_ret;exact⟨rfl,hr3,hn3,ha3,hb3⟩
theorem PL:D7 245 100000000:=by
 intro q lb s v xs W hr hl hlb hown hxs hlq;have hqs:q<W.heap.size:=by obtain⟨_,_,h⟩:=hr;exact h.lt
 have hb0:Below W.heap.size W ((W.alloc (bU (⟨#[]⟩,⟨#[]⟩))).alloc (dQ 0)):=cu W _ _;obtain⟨k1,k2⟩:=dh W (bU (⟨#[]⟩,⟨#[]⟩)) (dQ 0);have hz0:((W.alloc (bU (⟨#[]⟩,⟨#[]⟩))).alloc (dQ 0)).heap.size=W.heap.size+1+1:=by simp
 have hI:=BF 246 OD (enters_of Tryz.func246 (by kernel_rfl) rfl) q (W.heap.size+1) W.heap.size s _ (hr.later hb0) hl k2 k1 (by omega) (by omega);have hcut:Hid (∀W2,BelX (W.heap.size+1+1) [q,W.heap.size+1,W.heap.size] ((W.alloc (bU (⟨#[]⟩,⟨#[]⟩))).alloc (dQ 0)) W2->BelX q [] W W2/\W2.heap[lb]?=some (fP v)/\W2.ownsRow q 106 2 v xs.length (atV xs)):=hid fun W2 hX=>by
  have hX2:BelX q [] W W2:=((BelX.of_below hb0 []).mono (by omega) (fun k hk _=>hk)).trans (hX.mono (by omega) (fun k hk hq=>by simp only[yas,yal,or_false] at hk;omega));refine⟨hX2,hX2.at_ hlb hlq (by simp),dw hown (fun k hk=>?_)⟩;obtain⟨h1,h2,cur,h3⟩:=aU hown hk;have hkne:k≠q:=by
   rintro rfl;obtain⟨_,_,h⟩:=hr;have h4:=h.at_;rw[h3] at h4;cases h4
  exact (hX.block k (by omega) (by simp only[yas,yal,or_false];omega)).trans (hb0.block k h2)
 rw[hz0] at hI;clear hb0 k1 k2 hz0 hown hlb hr;unfold bU dQ at hI hcut;go_in;go_wp2_with fail;refine hI.mono ?_;rintro e W2 ⟨r,s',i,u,rfl,hr2,hn2,ha2,hX,hle,hrb,hy,hno⟩;obtain⟨hX2,hlb2,hown2⟩:=hcut.out W2 hX;obtain⟨c0,c1⟩:=nG (u:=u) ha2;have c2:W2.cell? ⟨lb,0,none⟩=some v:=by simp[World.cell?,hlb2,fP]
 have hqz:q<=W2.heap.size:=by have:=hX2.size;omega
 clear hI hcut hX;have Hy:=hid hy;have Hno:=hid hno;have Hrb:=hid hrb;clear hy hno hrb;have hnv:v.ownBlock≠some (W.heap.size+1):=fun e=>by
  obtain⟨_,_,cur,h3⟩:=aU hown2 e;rw[h3] at hn2;cases hn2
 have hns:=lA hn2;have hqW:=hX2.size;have hqv:v.ownBlock≠some q:=fun e=>by
  obtain⟨_,_,cur,h3⟩:=aU hown2 e;obtain⟨_,_,h⟩:=hr2;have h4:=h.at_;rw[h3] at h4;cases h4
 go_upto_region 5 with (at_builtin;refine fM _ rfl (.tmp 10) (.tmp 12) 32 rfl q 106 (.agg #[.string ⟨#[]⟩,.string ⟨#[]⟩]) 2 32 oP (by decide) v xs.length (atV xs) rfl hown2 1 [.string u.1,.string u.2] rfl rfl (fun x hx=>by simp at hx;rcases hx with rfl|rfl<;>rfl) hqz (by omega) ?_;intro ao1 cap1 W3 hown3 hg3 hb3 _;have hlb3:W3.heap[lb]?=some (fP v):=(hb3.block lb hlq).trans hlb2;have c3:W3.cell? ⟨lb,0,none⟩=some v:=(by simp[World.cell?,hlb3,fP]);have c4:W3.frozen? ⟨lb,0,none⟩=false:=(by simp[World.frozen?,hlb3,fP]));have hn3:W3.heap[W.heap.size+1]?=some (dQ i):=(hg3.block _ (by simp;omega) (Ne.symm hnv)).trans ((ybR W2 _ _ hns).trans hn2);have hr3:RdS q q s' W3:=by
  have h1:RdS q q s' (W2.alloc (.cells #[.string u.1,.string u.2] 106)):=hr2.later (bN _ _);cases hv:v.ownBlock with
  | none=>rw[hv] at hg3;exact h1.later ⟨hg3.os,hg3.tape,hg3.output,hg3.size,fun k hk=>hg3.block k hk (by simp)⟩
  | some k=>
   rw[hv] at hg3;obtain⟨_,hk2,cur,hk3⟩:=aU hown2 hv;exact h1.grown hg3 ((ybR W2 _ _ hk2).trans hk3) (fun c fr h=>by cases h) (fun e=>hqv (by rw[hv,e]))
 have hl4:(W3.setCell ⟨lb,0,none⟩ (.slice ao1 (xs.length+1) cap1)).heap[lb]?=some (fP (.slice ao1 (xs.length+1) cap1)):=at_set hlb3;have hn4:(W3.setCell ⟨lb,0,none⟩ (.slice ao1 (xs.length+1) cap1)).heap[W.heap.size+1]?=some (dQ i):=ah hn3 (by omega);have hr4:RdS q q s' (W3.setCell ⟨lb,0,none⟩ (.slice ao1 (xs.length+1) cap1)):=hr3.grown (ak _ _ _ _) hlb3 (fun c fr h=>by cases h) (by omega);have hX4:BelX q [lb] W (W3.setCell ⟨lb,0,none⟩ (.slice ao1 (xs.length+1) cap1)):=((hX2.mono (yag _) (fun _ hk _=>absurd hk yal)).trans (BelX.of_below hb3 _)).set _ _ _ (.inl (by simp));have ho4:(W3.setCell ⟨lb,0,none⟩ (.slice ao1 (xs.length+1) cap1)).ownsRow q 106 2 (.slice ao1 (xs.length+1) cap1) (xs++[u]).length (atV (xs++[u])):=by
  rw[yab,ybg,yu];exact dw hown3 (fun k hk=>yaA _ _ _ _ (by have:=(aU hown3 hk).1;show k≠lb;omega))
 clear hlb3 c3 c4 hn3 hr3 hown3 hg3 hb3 c0 c1 c2 hn2 ha2 hr2 hown2 hlb2 hX2;generalize hW4:W3.setCell _ _=W4 at *;clear hW4;have d0:W4.cell? ⟨lb,0,none⟩=some (.slice ao1 (xs.length+1) cap1):=by simp[World.cell?,hl4,fP]
 have d1:W4.cell? ⟨W.heap.size+1,0,none⟩=some (.int .i64 i):=by simp[World.cell?,hn4,dQ]
 have hG:∀b:Bool,(b=true->r=true/\i=2/\xs.length<100000000)->(b=false->¬(r=true/\i=2)\/100000000<=xs.length)->A7 q lb 100000000 s xs W (.returned (.bool b)) W4:=by
  intro b hb1 hb2;refine⟨b,s',u,_,rfl,hr4,hl4,ho4,hX4,hle,fun hb _=>?_,fun hn=>?_⟩
  ·obtain⟨h1,h2,h3⟩:=hb1 hb;exact⟨h3,Hy.out h1 h2⟩
  cases b with
  | false=>
   rcases hb2 rfl with h | h
   ·exact (Hno.out h).imp id .inr
   exact .inr (.inl h)
  | true=>
   obtain⟨h1,h2,h3⟩:=hb1 rfl;rcases hn with h | h
   ·cases h
   rw[Hrb.out h1] at h;cases h
 have HG:=hid hG;clear hG hr4 hl4 ho4 hX4 hn4;cases r with
 | false=>
  go_wp2;go_ret;exact HG.out false (fun h=>by cases h) (fun _=>.inl (fun h=>by cases h.1))
 | true=>
  by_cases hi:i=2
  ·have f0:(i==2)=true:=by rw[hi];rfl
   have Hi:=hid hi;clear hi;go_wp2;go_ret;exact HG.out true (fun _=>⟨by first | rfl | trivial,Hi.out,by omega⟩) (fun h=>by cases h)
  have f0:(i==2)=false:=by rw[yap];exact hi
  go_wp2;go_ret;exact HG.out false (fun h=>by cases h) (fun _=>.inl (fun h=>hi h.2))
theorem EO(B g:Nat)(s:RS)(t:UInt8)(W:World)(ht:0<t.toNat)(hr:RdS B g s W)(hl:s.l.length<=100000000) :
  Calls Tryz.prog 241 #[.pointer (some ⟨g,0,none⟩),.int .u8 (t.toNat:Int)] W (Fa B g t s W):=by
 have hgs:g<W.heap.size:=by obtain⟨_,_,h⟩:=hr;exact h.lt
 have hb0:=bN W (fP (.slice none 0 0));have k0:=aN W (fP (.slice none 0 0))
 have hA:=BK 245 100000000 PL (enters_of Tryz.func245 (by kernel_rfl) rfl) B g W.heap.size s t _ ht (hr.later hb0) hl k0 (by omega);have hz:(W.alloc (fP (.slice none 0 0))).heap.size=W.heap.size+1:=by simp
 have hcut:Hid (∀W2,BelX (W.heap.size+1) [g,W.heap.size] (W.alloc (fP (.slice none 0 0))) W2->W.grownBy W2 (some g)):=hid fun W2 h=>
  ⟨h.os.trans hb0.os,h.tape.trans hb0.tape,h.output.trans hb0.output,yae hb0.size h.size,fun k h1 h2=>(h.block k (by omega) (by simp only[yas,yal,or_false,not_or];exact⟨fun e=>h2 (by rw[e]),by omega⟩)).trans (hb0.block k h1)⟩
 have HT:=hid ht;rw[hz] at hA;clear hb0 k0 hz hr ht;unfold fP at hA hcut;go_in;go_wp2_with fail;refine hA.mono ?_;rintro e W2 ⟨r,s',v,xs,rfl,h1,h2,h3,h4,h5,h6,h7,h8⟩;have hg2:=hcut.out W2 h4;obtain⟨ao,cap,rfl,hrd⟩:=Rd.of_own h3;have hfr:∀a,ao=some a->W.heap.size<=a.block:=fun a ha=>by have:=kR h3 a ha;omega
 have hty:=TyX.of_own h3;clear hA hcut h4;have H7:=hid h7;have H8:=hid h8;clear h7 h8;have hn1:xs.length<=100000000:=by omega
 have hfail:∀W3:World,RdS B g s' W3->W.grownBy W3 (some g)->(s.bad=true\/∀ys rest,bI ys=true/\(aI ys).length<=4194304->s.l≠val t (aI ys)++rest)->Fa B g t s W (.returned (.slice none 0 0)) (W3.setCell ⟨g,1,none⟩ (.bool true)):=fun W3 hR hG hno=>by
  refine⟨none,0,0,[],⟨s'.l,true⟩,rfl,Rd.nil _ _,yam _,fun h=>absurd h (yaw 0),?_,bi hG (ak _ _ _ _),fun h=>(by cases h),fun _=>hno,h5⟩;obtain⟨a,c,h⟩:=hR;exact⟨a,c,h.fail⟩
 have HF:=hid hfail;clear hfail;cases r with
 | true=>
  have c0:W2.cell? ⟨W.heap.size,0,none⟩=some (.slice ao xs.length cap):=by simp[World.cell?,h2]
  have hm:=qj ao xs.length cap xs W2 hrd (by omega);go_wp2_with fail;refine hm.mono ?_;rintro e W3 ⟨rfl,hb3⟩;have h23:=hb3.q h2;have h13:=h1.later hb3;have g3:=bi hg2 (gU hb3 (some g));clear hm c0;cases hmm:bI xs with
  | true=>
   have HM:=hid hmm;clear hmm;have c0:W3.cell? ⟨W.heap.size,0,none⟩=some (.slice ao xs.length cap):=by simp[World.cell?,h23]
   have hty3:TyX 106 W3 ao cap:=hty.kpr (.inr (.inr rfl)) (KeepR.of_below hb3);have hrd3:=hrd.later hb3;go_wp2;go_ret;refine⟨ao,_,cap,xs,s',rfl,hrd3,hn1,hty3,h13,g3,⟨fun _=>?_,fun hb=>?_,h5⟩⟩
   ·obtain⟨_,e2,e3,e4⟩:=H7.out (by first | rfl | trivial);exact⟨e2,e3,HM.out,e4⟩
   rw[(H7.out (by first | rfl | trivial)).1] at hb;cases hb
  | false=>
   have HM:=hid hmm;clear hmm;have hno:s.bad=true\/∀ys rest,bI ys=true/\(aI ys).length<=4194304->s.l≠val t (aI ys)++rest:=by
    obtain⟨_,e2,e3,e4⟩:=H7.out (by first | rfl | trivial);refine .inr fun ys rest hy e=>?_;rw[e3] at e;have:=nP xs ys e4 hy.2 (az HT.out e4 hy.2 e).1;rw[this] at HM;have:=HM.out;rw[hy.1] at this;cases this
   have HG:=HF.out W3 h13 g3 hno;go_wp2_with fail;refine (mF B g s' W3 h13).mono ?_;rintro e W4 ⟨⟨r,rfl⟩,h9,rfl⟩;generalize W3.setCell _ _=W4 at *;go_wp2;go_ret;exact HG
 | false=>
  have HG:=HF.out W2 h1 hg2 (((H8.out (by first | rfl | trivial)).2).imp id (fun h ys rest hy=>h ys rest (by have:=vN hy.1;omega) hy.2));go_wp2_with fail;refine (mF B g s' W2 h1).mono ?_;rintro e W4 ⟨⟨r,rfl⟩,h9,rfl⟩;generalize W2.setCell _ _=W4 at *;go_wp2;go_ret;exact HG
