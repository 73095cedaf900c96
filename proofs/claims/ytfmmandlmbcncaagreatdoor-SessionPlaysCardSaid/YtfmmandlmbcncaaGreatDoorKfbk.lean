/-A part of the proof.-/
import Derived.Test.YtfmmandlmbcncaaGreatDoorKfbj
import Derived.Test.YtfmmandlmbcncaaGreatDoorKfbg
set_option maxHeartbeats 40000000
set_option maxRecDepth 100000
set_option linter.all false
namespace Go.Proofs.YtfmmandlmbcncaaGreatDoor
namespace Msg
open Go.RowKit Go.Lib Mem Tlv
variable{B mb pb rb sb:Nat}{K K1:Kn}{W W' w:World}{c:OC}{cl nd:Int}{m:MV}{p p1:PS}{q:QV}{qc:QC}{to_ uo:Option Addr}{v:OV}
def Lj (B sb:Nat)(cl:Int)(nd:Nat)(p:PS)(K:Kn)(v:OV)(c:OC)(w:World)(e:Ending)(w':World):Prop:=Oth B sb w w' /\
 ((aA v c=false/\e=.returned (.tuple #[.int .u64 0,.slice none 0 0,.int .i64 2])/\∃uo to_,SAt w' B sb cl (nd:Int) p K uo to_) \/
 (aA v c=true/\p.un=true/\e=.returned (.tuple #[.int .u64 0,.slice none 0 0,.int .i64 12])/\∃uo to_,SAt w' B sb cl (nd:Int) p K uo to_) \/
 (aA v c=true/\p.un=false/\∃(u:OV) (l:List Value) (ov:Value),e=.returned (.tuple #[.int .u64 (p.num+1),ov,.int .i64 0])/\l.length=1/\ToAt w.heap.size (p.vi % (nd:Int)) (l7 ⟨cl,p.num+1,u⟩ c) l ov w'/\bg u c v c=true /\
   ∃uo to_,SAt w' B sb cl (nd:Int) ⟨p.num+1,p.vi,p.la,p.dr,true,p.told⟩ ⟨v,c,K.rv,K.rc,K.M⟩ uo to_))
theorem xy(v:OV)(c:OC):bg v c v c=true:=by simp[bg]
theorem MZ(B sb:Nat)(cl:Int)(nd:Nat)(hnd:0<nd)(hn7:nd<=7)(p:PS)(N:Int)(K:Kn)(uo to_:Option Addr)(v:OV)(c:OC)(w:World)(hS:SAt w B sb cl (nd:Int) p K uo to_)(hM:K.M<=w.heap.size)(hp:p.Ok N)(hN:N<=1000)(hc0:0<=cl)(hc1:cl<18446744073709551616)(ho:OpAt w v c) :
  Calls Tryz.prog 11 #[.pointer (some ⟨sb,0,none⟩),v.val] w (Lj B sb cl nd p K v c w):=by
 have hlt:=lA hS.box;have hle:=hS.le;have h5:(0:Int)<(nd:Int):=by omega
 cases hm:aA v c with
 | false=>
  refine (Qh v c (SV.mk cl nd p.num uo p.vi p.la to_ p.dr) sb w hS.box ho h5 hm).mono ?_;rintro e w' ⟨rfl,hb⟩;exact⟨(Oth.refl B sb w).later (by omega) hb,.inl ⟨hm,rfl,uo,to_,hS.later hb⟩⟩
 | true=>
  cases hu:p.un with
  | true=>
   obtain⟨rb,u,cc,rfl,-⟩:=hS.un1 hu;refine (Bi v c (SV.mk cl nd p.num (some ⟨rb,0,none⟩) p.vi p.la to_ p.dr) sb ⟨rb,0,none⟩ w hS.box ho h5 hm rfl).mono ?_;rintro e w' ⟨rfl,hb⟩;exact⟨(Oth.refl B sb w).later (by omega) hb,.inr (.inl ⟨hm,hu,rfl,_,to_,hS.later hb⟩)⟩
  | false=>
   obtain rfl:=hS.un0 hu;refine (KZ B sb (SV.mk cl nd p.num none p.vi p.la to_ p.dr) v c w hS.box hle ho hm rfl h5 (show (nd:Int)<=7 by omega) hc0 hc1 hp.num.1 (by have:=hp.num.2;show p.num<4611686018427387904;omega) hp.vi.1 hp.vi.2).mono ?_;rintro e w' ⟨rb,u,l,ov,rfl,hl,h1,h2,h3,h4,hto,h6,h7⟩;refine⟨h6,.inr (.inr ⟨hm,hu,u,l,ov,rfl,hl,hto,rM h3 (xy v c),some ⟨rb,0,none⟩,to_,?_⟩)⟩;exact⟨h1,hle,fun _=>⟨rb,u,c,rfl,h2,h4,by rw[(uw h3).1];exact hm,rM h3 (xy v c),yae hM h7,fun a ha=>yae hM (h3.fa a ha),fun a ha=>yae hM (h3.fb a ha),fun a ha=>yae hM (h3.fc a ha)⟩,fun e=>(by cases e),(hS.held hS.box h6).2,hS.to0,hS.to2⟩
theorem yQ{nu:Int}{u:OV}{d:OC}(h:bg u c v d=true):l7 ⟨cl,nu,u⟩ c=l7 ⟨cl,nu,v⟩ d:=by
 refine Kq (same_iff.2 ⟨rfl,fun x hx=>?_⟩);simp only[dF,yas,yal,or_false] at hx;rcases hx with rfl|rfl|rfl|rfl|rfl|rfl|rfl|rfl|rfl|rfl|rfl|rfl|rfl|rfl|rfl
 case inr.inr.inr.inr.inr.inl=>
  show bQ _ _ _ _=true;unfold bQ;rw[yaq,yaq];exact⟨⟨yaa rfl,yaa rfl⟩,h⟩
 all_goals rfl
structure Step (K:Int)(p:PS)(r:PS×Bool):Prop where
 ok:r.1.Ok (K+1)
 up:r.2=true->p.la<r.1.la
 st:r.2=false->r.1.la=p.la
theorem PS.Ok.up{K:Int}(h:p.Ok K):p.Ok (K+1):=⟨⟨h.num.1,by have:=h.num.2;omega⟩,h.vi,h.la,⟨h.dr.1,by have:=h.dr.2;omega⟩,h.un,h.le,h.to0⟩
theorem yB{d:List UInt8->Option (Int×Int×Int×Int)}(hd:En d){K:Int}(h:p.Ok K)(cl:Int)(b:List UInt8):Step K p (fQ d cl b p):=by
 have hn:=h.num;have hr:=h.dr;have hl:=h.le;have hv:=h.vi;have drop:Step K p (⟨p.num,p.vi,p.la,p.dr+1,p.un,p.told⟩,false):=⟨⟨⟨hn.1,by dsimp only;omega⟩,hv,h.la,⟨by dsimp only;omega,by dsimp only;omega⟩,h.un,hl,h.to0⟩,fun e=>(by cases e),fun _=>rfl⟩
 unfold fQ;cases hb:d b with
 | none=>exact drop
 | some x=>
  obtain⟨k,v,c,n⟩:=x;have hx:=(hd b).2.2 _ hb;dsimp only at hx ⊢;have hm:0<=max p.vi v/\max p.vi v<18446744073709551616:=by omega
  split
  ·split
   ·rename_i hu;have:=h.un hu.1;have hh:=hu.2;refine⟨⟨⟨hn.1,by dsimp only;omega⟩,hm,?_,⟨hr.1,by dsimp only;omega⟩,fun e=>(by cases e),?_,fun e=>(by cases e)⟩,fun _=>?_,fun e=>(by cases e)⟩
    all_goals (have:=h.la;dsimp only;omega)
   exact⟨⟨⟨hn.1,by dsimp only;omega⟩,hm,h.la,⟨hr.1,by dsimp only;omega⟩,h.un,hl,h.to0⟩,fun e=>(by cases e),fun _=>rfl⟩
  exact drop
def wX (cl nd:Int)(p:PS)(K:Kn):Array Value:=#[.int .u64 cl,.int .u64 p.num,.int .u64 p.vi,.int .u64 p.la,.int .i64 nd,.int .i64 p.dr,.bool p.un,.bool p.told,.int .i64 K.ov.k,.string K.ov.name,.string K.ov.to,.slice K.ov.ao K.ov.an K.ov.ac,.slice K.ov.bo K.ov.bn K.ov.bc,.slice K.ov.co K.ov.cn K.ov.cc,.int .i64 K.ov.n,.int .i64 K.rv.code,.bool K.rv.yes,.slice K.rv.eo K.rv.en K.rv.ec,.slice K.rv.co K.rv.cn K.rv.cc]
def iT (cl nd:Int)(p:PS)(K:Kn):Obj:=.cells (wX cl nd p K) 41
theorem fZ(h:W.heap[B]?=some (iT cl nd p K)):W.cell? ⟨B,0,none⟩=some (.int .u64 cl)/\W.cell? ⟨B,1,none⟩=some (.int .u64 p.num)/\W.cell? ⟨B,2,none⟩=some (.int .u64 p.vi)/\W.cell? ⟨B,3,none⟩=some (.int .u64 p.la)/\W.cell? ⟨B,4,none⟩=some (.int .i64 nd)/\W.cell? ⟨B,5,none⟩=some (.int .i64 p.dr)/\W.cell? ⟨B,6,none⟩=some (.bool p.un)/\W.cell? ⟨B,7,none⟩=some (.bool p.told)/\W.cell? ⟨B,8,none⟩=some (.int .i64 K.ov.k)/\W.cell? ⟨B,9,none⟩=some (.string K.ov.name)/\W.cell? ⟨B,10,none⟩=some (.string K.ov.to)/\W.cell? ⟨B,11,none⟩=some (.slice K.ov.ao K.ov.an K.ov.ac)/\W.cell? ⟨B,12,none⟩=some (.slice K.ov.bo K.ov.bn K.ov.bc)/\W.cell? ⟨B,13,none⟩=some (.slice K.ov.co K.ov.cn K.ov.cc)/\W.cell? ⟨B,14,none⟩=some (.int .i64 K.ov.n)/\W.cell? ⟨B,15,none⟩=some (.int .i64 K.rv.code)/\W.cell? ⟨B,16,none⟩=some (.bool K.rv.yes)/\W.cell? ⟨B,17,none⟩=some (.slice K.rv.eo K.rv.en K.rv.ec)/\W.cell? ⟨B,18,none⟩=some (.slice K.rv.co K.rv.cn K.rv.cc)/\∀i,W.frozen? ⟨B,i,none⟩=false:=by
 unfold iT wX at h;simp[World.cell?,World.frozen?,h]
theorem Dk:∀(l:List Value) (i0:Int) (k:Nat) (v:Value),l[k]?=some v->(lN i0 l)[k*3]?=some (.int .i64 (i0+(k:Int)))/\(lN i0 l)[k*3+2]?=some v
 | [],_,k,v,h=>by simp at h
 | u::l,i0,0,v,h=>by
  obtain rfl:u=v:=by simpa using h
  exact⟨by simp[lN],rfl⟩
 | u::l,i0,k+1,v,h=>by
  obtain⟨h1,h2⟩:=Dk l (i0+1) k v (by simpa using h);refine⟨?_,?_⟩
  ·rw[show (k+1)*3=k*3+3 by omega];simp only[lN,ybd];rw[h1]
   congr 2
   omega
  rw[show (k+1)*3+2=k*3+2+3 by omega];simp only[lN,ybd];exact h2
structure RqC (b1 o:Nat)(i0:Int)(k:Nat)(a2:Option Addr)(b:List UInt8)(k2:Nat)(ax:Option Addr)(cx:Nat)(W:World):Prop where
 x0:W.cell? ⟨b1,o,none⟩=some (.int .i64 (i0+(k:Int)))
 x2:W.cell? ⟨b1,o+2,none⟩=some (.slice a2 b.length k2)
 r2:Rd W 1 a2 b.length k2 (byV b)
 r3:Rd W 1 ax b.length cx (byV b)
theorem vI(pb:Nat)(cl nd:Int)(p:PS)(K:Kn)(w:World)(hP:w.heap[pb]?=some (iT cl nd p K))(ho:OpAt w K.ov K.oc)(hm:aA K.ov K.oc=true)(hu:U64R ⟨cl,p.num,K.ov⟩)(B0:Nat)(i0:Int)(b:List UInt8)(hb:b=l7 ⟨cl,p.num,K.ov⟩ K.oc)(l:List Value)(ov:Value)
  (hto:ToAt B0 i0 b l ov w) (h0:0<=i0) (h1:i0+(l.length:Int)<=1000):Calls Tryz.prog 13 #[.pointer (some ⟨pb,0,none⟩),ov,.int .i64 i0,.int .i64 (i0+(l.length:Int))] w (GivesB true w):=by
 have hmo:=hmO
 obtain⟨ao,cap,rfl,hrd⟩:=Rd.of_own hto.row;have hcap:l.length<=9223372036854775807:=by omega
 have hsub:IntKind.wrap .i64 (i0+(l.length:Int)-i0)=(l.length:Int):=by rw[yaP];omega
 have HE:=hid hto.each;have HB:=hid hb;have H0:=hid (yax h0 h1);have HMAY:=hid (Lt (r:=⟨cl,p.num,K.ov⟩) ho hm);clear hto hb h0 h1;go_in;go_upto_region 1 with fail;have bD:Below w.heap.size w w.drew:=(yaj _ _).drew;have s0:w.drew.heap[pb]?=some (iT cl nd p K):=hP;have hoD:=ho.later bD;refine yaB (S:=fun W=>W.heap[pb]?=some (iT cl nd p K)) hmo ?_;change wpAnyH _ _ _ _ _ _ _ _ (World.drew w);generalize World.drew w=V0 at *;have hc:=oI rC (rqM ⟨cl,p.num,K.ov⟩) (rqC K.oc) _ (Gp hoD) (Jj hu) (G5 _ _) (yam _) (yam _) (yam _);rw[show (rqM ⟨cl,p.num,K.ov⟩).val=.agg #[.int .i64 1,.int .u64 0,.int .u64 0,.int .i64 0,.int .u64 0,.int .u64 0,.int .u64 cl,.int .u64 p.num,.int .i64 K.ov.k,.string K.ov.name,.string K.ov.to,.slice K.ov.ao K.ov.an K.ov.ac,.slice K.ov.bo K.ov.bn K.ov.bc,.slice K.ov.co K.ov.cn K.ov.cc,.int .i64 K.ov.n,.int .i64 0,.bool false,.slice none 0 0,.slice none 0 0,.int .u64 0,.int .u64 0,.int .u64 0,.slice none 0 0,.slice none 0 0,.int .u64 0,.bool false,.slice none 0 0] from rfl] at hc;refine zp 0 (pp pb 0) rfl (zp 1 (pp pb 0) rfl (zp 2 (pp pb 0) rfl ?_));go_simp;refine zHc 3 (.int .u64 cl) rfl (fun _ h=>h) s0 ?_;go_simp;refine zp 4 (pp pb 0) rfl (zp 5 (pp pb 0) rfl (zp 6 (pp pb 1) rfl ?_));go_simp;refine zHc 7 (.int .u64 p.num) rfl (fun _ h=>h) s0 ?_;go_simp;refine zp 8 (pp pb 0) rfl (zp 9 (pp pb 0) rfl (zp 10 (pp pb 8) rfl ?_));go_simp;refine zHc 11 (.agg #[.int .i64 K.ov.k,.string K.ov.name,.string K.ov.to,.slice K.ov.ao K.ov.an K.ov.ac,.slice K.ov.bo K.ov.bn K.ov.bc,.slice K.ov.co K.ov.cn K.ov.cc,.int .i64 K.ov.n]) rfl (fun _ h=>h) s0 ?_;go_simp;refine zp 12 (.agg #[.int .u64 cl,.int .u64 p.num,.int .i64 K.ov.k,.string K.ov.name,.string K.ov.to,.slice K.ov.ao K.ov.an K.ov.ac,.slice K.ov.bo K.ov.bn K.ov.bc,.slice K.ov.co K.ov.cn K.ov.cc,.int .i64 K.ov.n]) rfl (zp 13 (.agg #[.int .i64 1,.int .u64 0,.int .u64 0,.int .i64 0,.int .u64 0,.int .u64 0,.int .u64 cl,.int .u64 p.num,.int .i64 K.ov.k,.string K.ov.name,.string K.ov.to,.slice K.ov.ao K.ov.an K.ov.ac,.slice K.ov.bo K.ov.bn K.ov.bc,.slice K.ov.co K.ov.cn K.ov.cc,.int .i64 K.ov.n,.int .i64 0,.bool false,.slice none 0 0,.slice none 0 0,.int .u64 0,.int .u64 0,.int .u64 0,.slice none 0 0,.slice none 0 0,.int .u64 0,.bool false,.slice none 0 0]) rfl ?_);go_simp;refine zC 14 rfl hc ?_;rintro e X1 ⟨lb,ax,cx,ok,rfl,rd1,hb1,hok,hbl⟩;obtain rfl:ok=true:=hok.trans HMAY.out.1;obtain rfl:lb=b:=(hbl rfl).1.trans HB.out.symm;have s1:=hb1.q s0;clear hc hok hbl;refine⟨s1,?_⟩;go_simp;refine zp 15 (.tuple #[.slice ax lb.length cx,.bool true]) rfl (zp 16 (.slice ax lb.length cx) rfl (zp 17 (.bool true) rfl (zp 18 (.slice ax lb.length cx) rfl (zp 19 (.bool true) rfl ?_))));go_simp;refine zd ?_;have bX:Below w.heap.size w X1:=bD.trans (hb1.mono bD.size);have hrX:=hrd.later bX;have HXX:=hid (yax bX rd1);clear s0 s1 hb1 rd1 hP ho hoD bD hrd;have g1:((l.length:Int) != (l.length:Int))=false:=by simp
 go_wp2_with fail;go_loopw [11] (fun i wr=>∃k:Nat,k<=l.length/\i=.int .i64 (k:Int)/\Below w.heap.size w wr/\Below X1.heap.size X1 wr) (fun i _=>l.length-(intOf i).toNat)
 case atStart=>exact⟨0,yam _,rfl,HXX.out.1,yaj _ _⟩
 case round=>
  obtain⟨k,hk,rfl,hbr,hbx⟩:=hrel;by_cases hkn:k<l.length
  ·obtain⟨b1,o1,rfl,hl1,hc1⟩:=hrX.some (by have:=hrX.le;omega);obtain⟨v,hv⟩:∃v,l[k]?=some v:=⟨_,yac hkn⟩
   obtain⟨x0,x2⟩:=Dk l i0 k v hv;have bd:Below wr.heap.size wr wr.drew:=(yaj _ _).drew;have hbD:=hbr.trans (bd.mono hbr.size);have hbXD:=hbx.trans (bd.mono hbx.size);have y0:wr.drew.cell? ⟨b1,o1+k*3,none⟩=_:=(hbXD.cell (p:=⟨b1,o1+k*3,none⟩) hl1).trans (hc1 _ _ x0);have y2:wr.drew.cell? ⟨b1,o1+k*3+2,none⟩=_:=(hbXD.cell (p:=⟨b1,o1+(k*3+2),none⟩) hl1).trans (hc1 _ _ x2);obtain⟨a2,k2,rfl,hr2⟩:=Rd.of_own (HE.out v (yan hv));have r2:=hr2.later hbD;have r3:=HXX.out.2.later hbXD;have i1:(0:Int)<=(k:Int):=by omega
   have i2:(k:Int)<(l.length:Int):=by omega
   have hw:IntKind.wrap .i64 (i0+(k:Int))=i0+(k:Int):=by have:=H0.out;rw[yaP];omega
   have g2:((i0+(k:Int)) != (i0+(k:Int)))=false:=by simp
   have t0:RqC (b1) (o1+k*3) i0 k a2 lb k2 ax cx wr.drew:=⟨y0,y2,r2,r3⟩
   have HBX:=hid (yax hbD hbXD);clear x0 x2 y0 y2 r2 r3 hr2 hl1 hc1 hv bd hbD hbXD hbr hbx;go_upto_region 7 with fail;refine yaB (S:=RqC b1 (o1+k*3) i0 k a2 lb k2 ax cx) hmo ?_;change wpAnyH _ _ _ _ _ _ _ _ (World.drew wr);generalize World.drew wr=V1 at *;have zf0 w0 (h:RqC b1 (o1+k*3) i0 k a2 lb k2 ax cx w0):=h.x0;have zf1 w0 (h:RqC b1 (o1+k*3) i0 k a2 lb k2 ax cx w0):=h.x2;have zf2 w0 (h:RqC b1 (o1+k*3) i0 k a2 lb k2 ax cx w0):=jc _ _ _ _ _ h.r2;have zf3 w0 (h:RqC b1 (o1+k*3) i0 k a2 lb k2 ax cx w0):=jc _ _ _ _ _ h.r3;have f10:=pz ⟨lb.toArray⟩;have g10:(lb==lb)=true:=(by simp)
   refine zp 0 (.slice (some ⟨b1,o1,none⟩) l.length cap) rfl (zp 1 (.int .i64 (k:Int)) rfl ?_);go_simp;refine zv 2 (.pointer (some ⟨b1,o1+k*3,none⟩)) rfl ?_;go_simp;refine zv 3 (.pointer (some ⟨b1,o1+k*3,none⟩)) rfl ?_;go_simp;refine zv 4 (.int .i64 (i0+(k:Int))) rfl ?_;go_simp;refine zp 5 (.int .i64 i0) rfl (zp 6 (.int .i64 (k:Int)) rfl ?_);go_simp;refine zv 7 (.int .i64 (i0+(k:Int))) rfl ?_;go_simp;refine zv 8 (.bool false) rfl ?_;go_simp;refine zp 9 (.bool false) rfl (zp 10 (.slice (some ⟨b1,o1,none⟩) l.length cap) rfl (zp 11 (.int .i64 (k:Int)) rfl ?_));go_simp;refine zv 12 (.pointer (some ⟨b1,o1+k*3,none⟩)) rfl ?_;go_simp;refine zv 13 (.pointer (some ⟨b1,o1+k*3+2,none⟩)) rfl ?_;go_simp;refine zv 14 (.slice a2 lb.length k2) rfl ?_;go_simp;refine zv 15 (.string ⟨lb.toArray⟩) rfl ?_;go_simp;refine zp 16 (.slice ax lb.length cx) rfl ?_;go_simp;refine zv 17 (.string ⟨lb.toArray⟩) rfl ?_;go_simp;refine zv 18 (.bool false) rfl ?_;go_simp;refine zp 19 (.bool false) rfl ?_;go_simp;refine zd ?_;go_wp2_with fail;go_roundw
   case rel=>exact⟨k+1,by omega,by go_num,HBX.out.1,HBX.out.2⟩
   case measure=>simp[intOf];omega
  have hkn2:k=l.length:=by omega
  go_wp2_with fail;go_ret;exact⟨rfl,hbr⟩
def Ns (B:Nat)(b:List UInt8)(w:World)(e:Ending)(w':World):Prop:=Below w.heap.size w w' /\
 ((∃(m:MV) (c:MC),e=.returned (.tuple #[m.val,.string ⟨#[]⟩])/\MAt w' m c/\U64M m c/\FitsM m c/\bY m c=true/\dL m c=b/\QTyB B w' m.rs c.rs) \/
 (e=.returned (.tuple #[(ay 0).val,.string qK])/\NoKind b) \/
 (e=.returned (.tuple #[(ay 0).val,.string jJ])/\sG b/\lm b))
theorem QX(B:Nat)(b:List UInt8)(ao:Option Addr)(n cap:Nat)(w:World)(hr:Rd w 1 ao n cap (byV b))(hn:n<=8388608)(hBw:B<=w.heap.size)(hty:TyB B w ao cap):Calls Tryz.prog 32 #[.slice ao n cap] w (Ns B b w):=by
 have hbn:b.length=n:=by have:=hr.1;rw[aV] at this;omega
 subst hbn;have f0:decide ((8388608:Int)<(b.length:Int))=false:=yad (by omega);have hb0:=bN w (ay 0).box;have k0:=aN w (ay 0).box;have hr0:=hr.later hb0;have hty0:=TyB.later hty hb0;have hlow:0<cap->∀a,ao=some a->a.block<w.heap.size:=fun h0 a ha=>hr.lt h0 a ha;unfold ay bG aG zeroV MV.box MV.cells at hb0 k0 hr0 hty0;dsimp only at hb0 k0 hr0 hty0;clear hr hty;go_in;go_upto_region 1 with fail;generalize hg:w.alloc _=W0 at *;have k0f:W0.heap[w.heap.size]?=some (ay 0).box:=k0;have HLT:=hid (lA k0f);clear hg k0;have hb1:=bN W0 (.cells #[.slice ao b.length cap,.bool false] 119);have hR:=oz (B:=B) hr0 (yae hBw hb0.size) hty0;go_upto_region 4 with fail;generalize hg:W0.alloc _=W1 at *;have k1:=af k0f hb1;have bel1:=hb0.trans (hb1.mono hb0.size);have hz1:=hb1.size;clear hg k0f hb0 hr0;go_wp2_with fail;refine (rC B W0.heap.size ⟨b,false⟩ W1 hR (yae hBw bel1.size) (by dsimp only;omega)).mono ?_;rintro e W2 ⟨s',hR2,hX,hans⟩;have hgW:W0.heap.size<W1.heap.size:=hR.lt;have hB2:Below W0.heap.size W0 W2:=hb1.trans (mV hX hb1.size (fun j hj=>by rw[yah.1 hj];exact yag _));have k2:W2.heap[w.heap.size]?=some (ay 0).box:=hX.at_ k1 (lA k1) (by have:=HLT.out;simp;omega);have bel2:Below w.heap.size w W2:=bel1.trans (mV hX bel1.size (fun j hj=>by rw[yah.1 hj];have:=HLT.out;omega));obtain⟨g,hgg⟩:∃g,W0.heap.size=g:=⟨_,rfl⟩
 rw[hgg] at hR2;rw[hgg];clear hR hX hb1 hB2 k1 bel1 hz1 hgW hlow hty0;rcases hans with ⟨m,c,rfl,a1,a2,ty2,a4,a5,a6,a7,a8⟩ | ⟨rfl,hno,-⟩
 ·have HKD:Hid (sG b):=hid (by
   obtain⟨r,hr⟩:=a8;exact⟨m.k.toNat,r,by omega,by omega,hr⟩)
  have HT:=hid a6;have HU:=hid a2;have HK4:=hid (yax a4 a5);have HFK:=hid a7;clear a2 a4 a5 a6 a7 a8;unfold MV.val MV.cells;go_upto_region 5 with (refine zNr rfl ?_;go_simp);generalize hg:W2.alloc _=W3;have e3:W2.alloc m.box=W3:=hg;have hb3:=bE e3
  have q3:W3.heap[W2.heap.size]?=some m.box:=aE e3
  have k3:=af k2 hb3;have bel3:=bel2.trans (hb3.mono bel2.size);have a3:=a1.later hb3;have ty3:=ty2.kpn (KeepN.of_below hb3);have hR3:=hR2.later hb3;clear hg e3 hb3 k2 bel2 a1 hR2 ty2;generalize W2.heap.size=mb at *;have hB:=oI rC m c W3 a3 HU.out HFK.out.fits HFK.out.sn HFK.out.hn HFK.out.ln;unfold MV.val MV.cells at hB;go_wp2_with (refine wpList_load_row (ty:=59) q3 rfl rfl rfl (by kernel_rfl) (by kernel_rfl) ?_;go_simp);refine hB.mono ?_;rintro e W4 ⟨l4,ax4,cx4,ok4,rfl,-,hb4,hok4,-⟩;have k4:=af k3 hb4;have q4:=af q3 hb4;have bel4:=bel3.trans (hb4.mono bel3.size);have a4:=a3.later hb4;have ty4:=ty3.kpn (KeepN.of_below hb4);have hR4:=hR3.later hb4;have HOK:=hid hok4;clear hB hb4 k3 q3 bel3 a3 ty3 hR3 hok4;go_wp2_with fail;refine (kZ _ g s' W4 hR4).mono ?_;rintro e _ ⟨rfl,rfl⟩;have f1:∀cs:Array Value,(W4.setRow w.heap.size cs).heap[w.heap.size]?=some (.cells cs 59):=fun cs=>aO k4;have f2:=fun cs=>below_setRow bel4 (yag _) cs;by_cases hd:s'.bad=false/\s'.l=[]
  ·have fd:decide (s'.bad=false/\s'.l=[])=true:=yaa hd;have HD:=hid hd;rw[fd];clear hd fd;cases ok4 with
   | true=>
    have hkk:KeepN B W4 (W4.setRow w.heap.size m.cells):=KeepN.of_belX (lX (BelX.refl _ _ _) w.heap.size _ (by simp)) k4 bJ hBw;have HA:=hid (yax (a4.kpn (ty4) hkk) ((ty4.kpn hkk).rs));have e4:dL m c=b:=by
     obtain⟨-,e5,-⟩:=HT.out.yes HD.out.1;dsimp only at e5;rw[HD.out.2,yaD] at e5;exact e5.symm
    have HE:=hid e4;clear hkk a4 ty4 e4;go_wp2_with (first | (refine wpList_load_row (ty:=59) q4 rfl rfl rfl (by kernel_rfl) (by kernel_rfl) ?_;go_simp) | (refine zSr rfl k4 ?_;go_simp));exact yay (w:=W4.setRow w.heap.size m.cells) (aj (i:=2) (j:=3) (t:=59) rfl rfl rfl (by kernel_rfl) (by kernel_rfl) (f1 _)) rfl ⟨f2 _,.inl ⟨m,c,rfl,HA.out.1,HU.out,HFK.out.fits,HOK.out.symm,HE.out,HA.out.2⟩⟩
   | false=>
    have HNO:Hid (lm b):=hid (fun X x d hM e=>by
     have h1:=Oy HT.out hn a4 HU.out HK4.out.1 HK4.out.2 hM e;have h2:=HOK.out;rw[h1] at h2;cases h2)
    go_wp2_with (refine zSr rfl k4 ?_;go_simp);exact yay (w:=W4.setRow w.heap.size (ay 0).cells) (aj (i:=2) (j:=3) (t:=59) rfl rfl rfl (by kernel_rfl) (by kernel_rfl) (f1 _)) rfl ⟨f2 _,.inr (.inr ⟨rfl,HKD.out,HNO.out⟩)⟩
  have fd:decide (s'.bad=false/\s'.l=[])=false:=yad hd;have HNO:Hid (lm b):=hid (fun X x d hM e=>hd (HT.out.go rfl X x d [] hM (by rw[yaD];exact e.symm)));rw[fd];clear hd fd;go_wp2_with (refine zSr rfl k4 ?_;go_simp);exact yay (w:=W4.setRow w.heap.size (ay 0).cells) (aj (i:=2) (j:=3) (t:=59) rfl rfl rfl (by kernel_rfl) (by kernel_rfl) (f1 _)) rfl ⟨f2 _,.inr (.inr ⟨rfl,HKD.out,HNO.out⟩)⟩
 have HNK:Hid (NoKind b):=hid (fun n r h1 h2=>hno n r rfl h1 h2);clear hno;unfold MV.val MV.cells;go_upto_region 5 with (refine zNr rfl ?_;go_simp);generalize hg:W2.alloc _=W3;have hb3:=bE hg
 have k3:=af k2 hb3;have bel3:=bel2.trans (hb3.mono bel2.size);have f1:∀cs:Array Value,(W3.setRow w.heap.size cs).heap[w.heap.size]?=some (.cells cs 59):=fun cs=>aO k3;have f2:=fun cs=>below_setRow bel3 (yag _) cs;clear hg hb3 k2 bel2 hR2;go_wp2_with (refine zSr rfl k3 ?_;go_simp);exact yay (w:=W3.setRow w.heap.size (ay 0).cells) (aj (i:=2) (j:=3) (t:=59) rfl rfl rfl (by kernel_rfl) (by kernel_rfl) (f1 _)) rfl ⟨f2 _,.inr (.inl ⟨rfl,HNK.out⟩)⟩
structure OpLow (B:Nat)(v:OV):Prop where
 a:0<v.ac->∀a,v.ao=some a->a.block<B
 b:0<v.bc->∀a,v.bo=some a->a.block<B
 c:0<v.cc->∀a,v.co=some a->a.block<B
structure PAt (W:World)(B pb:Nat)(cl nd:Int)(p:PS)(K:Kn):Prop where
 box:W.heap[pb]?=some (iT cl nd p K)
 le:B<=pb
 op:OpAt W K.ov K.oc
 ol:OpLow B K.ov
 may:p.un=true->aA K.ov K.oc=true
 rs:QAt W K.rv K.rc
 rt:QTyB B W K.rv K.rc
theorem OpAt.low(h:OpAt W v c)(hl:OpLow B v)(hb:Below B W W'):OpAt W' v c:=⟨h.a.below hb hl.a,h.b.below hb hl.b,h.c.below hb hl.c,h.la,h.lb,h.lc⟩
theorem PAt.keep{q:PS}(h:PAt W B pb cl nd p K)(hk:KeepN B W W')(hb:Below B W W')(hq:W'.heap[pb]?=some (iT cl nd q K))(hu:q.un=true->p.un=true):PAt W' B pb cl nd q K:=
 ⟨hq,h.le,h.op.low h.ol hb,h.ol,fun e=>h.may (hu e),h.rs.kpn h.rt hk,h.rt.kpn hk⟩
theorem PAt.later(h:PAt W B pb cl nd p K)(hB:B<=W.heap.size)(hb:Below W.heap.size W W'):PAt W' B pb cl nd p K:=
 h.keep (KeepN.of_below hb) (hb.mono hB) ((hb.q h.box)) id
theorem LZ:¬gZ 98:=fun h=>by rcases h with h | h | h | h | h | h<;>exact absurd h (by decide)
theorem ul:¬gZ 41:=fun h=>by rcases h with h | h | h | h | h | h<;>exact absurd h (by decide)
theorem KeepN.oth{S:SV}(ho:Oth B sb W W')(hs:W.heap[sb]?=some S.box):KeepN B W W':=
 ⟨⟨ho.bel.size,fun k c t fr ht hk=>(ho.oth k (lA hk) (fun e=>by
  subst e;rw[hs] at hk;cases hk;exact LZ ht)).trans hk⟩,fun k h1 _=>ho.bel.block k h1⟩
def Ah (d:List UInt8->Option (Int×Int×Int×Int))(B pb sb:Nat)(cl nd:Int)(p:PS)(K:Kn)(b:List UInt8)(w:World)(e:Ending)(w':World):Prop:=e=.returned (.bool true)/\KeepN B w w'/\Below B w w' /\
 ∃(rv:QV) (rc:QC) (uo to_:Option Addr),SAt w' B sb cl nd (fQ d cl b p).1 ⟨K.ov,K.oc,rv,rc,K.M⟩ uo to_/\PAt w' B pb cl nd (fQ d cl b p).1 ⟨K.ov,K.oc,rv,rc,K.M⟩
theorem KeepN.trans{a b c:World}(h:KeepN B a b)(k:KeepN B b c):KeepN B a c:=⟨h.km.trans k.km,fun j h1 h2=>(k.low j h1 (yaz h2 h.km.size)).trans (h.low j h1 h2)⟩
theorem QAt.far{M:Nat}{v:QV}{c:QC}(h:QAt W v c)(hf:FreshQ M v c.ents)(hz:W.heap.size<=W'.heap.size)(hk:∀k,M<=k->k<W.heap.size->W'.heap[k]?=W.heap[k]?):QAt W' v c:=
 ⟨⟨nI h.e.r hf.e hz hk,fun q hq=>⟨nI (h.e.each q hq).a (hf.a q hq) hz hk,(h.e.each q hq).la⟩⟩,nI h.c hf.c hz hk,h.lc⟩
structure PtC (B pb sb rb mb:Nat)(cl nd:Int)(p:PS)(K:Kn)(p1:PS)(K1:Kn)(uo to_:Option Addr)(q:QV)(qc:QC)(m:MV)(c:MC)(w W:World):Prop where
 s:SAt W B sb cl nd p1 K1 uo to_
 p:PAt W B pb cl nd p K
 r:W.heap[rb]?=some q.box
 ra:QAt W q qc
 rf:FreshQ K.M q qc.ents
 mq:W.heap[mb]?=some m.box
 ma:QAt W m.rs c.rs
 mt:QTyB B W m.rs c.rs
 kn:KeepN B w W
 be:Below B w W
 ne:sb≠pb/\rb≠pb/\mb≠pb
 mm:K1.M=K.M/\pb<K.M/\K.M<=rb/\K.M<=mb/\B<=W.heap.size
theorem PtC.later{c:MC}(h:PtC B pb sb rb mb cl nd p K p1 K1 uo to_ q qc m c w W)(hb:Below W.heap.size W W'):PtC B pb sb rb mb cl nd p K p1 K1 uo to_ q qc m c w W':=
 ⟨h.s.later hb,h.p.later h.mm.2.2.2.2 hb,(hb.q h.r),h.ra.later hb,h.rf,af h.mq hb,h.ma.later hb,h.mt.kpn (KeepN.of_below hb),h.kn.trans (KeepN.of_below hb),h.be.trans (hb.mono h.mm.2.2.2.2),h.ne,h.mm.1,h.mm.2.1,h.mm.2.2.1,h.mm.2.2.2.1,yae h.mm.2.2.2.2 hb.size⟩
theorem PtC.set{c:MC}(h:PtC B pb sb rb mb cl nd p K p1 K1 uo to_ q qc m c w W){p2:PS}(hu:p2.un=true->p.un=true)
  (hz:W'.heap.size=W.heap.size) (hk:∀k,k≠pb->W'.heap[k]?=W.heap[k]?) (hbe:Below B W W') (hq:W'.heap[pb]?=some (iT cl nd p2 K)):PtC B pb sb rb mb cl nd p2 K p1 K1 uo to_ q qc m c w W':=by
 have hn:KeepN B W W':=KeepN.box h.p.box ul h.p.le (yaR hz.symm) hk;have hfar:∀k,K1.M<=k->k<W.heap.size->W'.heap[k]?=W.heap[k]?:=fun k h1 _=>hk k (by have:=h.mm;omega);exact⟨h.s.far (yaR hz.symm) (hk _ h.ne.1) hfar,h.p.keep hn hbe hq hu,(hk _ h.ne.2.1).trans h.r,h.ra.far h.rf (yaR hz.symm) (fun k h1 _=>hk k (by have:=h.mm;omega)),h.rf,(hk _ h.ne.2.2).trans h.mq,h.ma.kpn h.mt hn,h.mt.kpn hn,h.kn.trans hn,h.be.trans hbe,h.ne,h.mm.1,h.mm.2.1,h.mm.2.2.1,h.mm.2.2.2.1,by rw[hz];exact h.mm.2.2.2.2⟩
theorem AY(d:List UInt8->Option (Int×Int×Int×Int))(hd:En d)(B pb sb:Nat)(cl nd:Int)(hnd:0<nd)(p:PS)(N:Int)(K:Kn)(uo to_:Option Addr)(b:List UInt8)(ao:Option Addr)(n cap:Nat)(w:World)(hS:SAt w B sb cl nd p K uo to_)(hP:PAt w B pb cl nd p K)(hne:sb≠pb)(hpM:pb<K.M)(hM:K.M<=w.heap.size)
  (hp:p.Ok N) (hN:N<=900) (hr:Rd w 1 ao n cap (byV b)) (hn:n<=8388608) (hty:TyB B w ao cap) (hE:ErrG w):Calls Tryz.prog 14 #[.pointer (some ⟨pb,0,none⟩),.pointer (some ⟨sb,0,none⟩),.slice ao n cap] w (Ah d B pb sb cl nd p K b w):=by
 have hmo:=hmO
 have hBw:B<=w.heap.size:=by have:=hP.le;omega
 have ht:=take_any d hd B sb cl nd hnd p N K uo to_ b ao n cap w hS hM hp (by omega) hr hn hE;have HD:=hid hp.dr;have HST:=hid (yB hd hp cl b);have HM:=hid (yax hM (yax hpM hBw));clear hM hpM hp hE;go_in;go_wp2_with fail;refine ht.mono ?_;rintro e W1 ⟨q,qc,uo1,to1,rfl,ho1,hq1,hf1,hno,hyes⟩;have kn1:=KeepN.oth ho1 hS.box;have P1:=hP.keep (q:=p) kn1 ho1.bel ((ho1.oth pb (lA hP.box) hne.symm).trans hP.box) id;have rd1:=ji hr hty kn1.kb;have ty1:=TyB.kpb hty kn1.kb;have hz1:=ho1.bel.size;obtain⟨K1,hK1,S1,hrel⟩:∃K1:Kn,K1.M=K.M/\SAt W1 B sb cl nd (fQ d cl b p).1 K1 uo1 to1/\(((fQ d cl b p).2=false/\K1=K)\/((fQ d cl b p).2=true/\∃(m:MV) (c:MC),uk b m c/\aF q qc m.rs c.rs=true/\K1=⟨K.ov,K.oc,m.rs,c.rs,K.M⟩)):=by
  cases h2:(fQ d cl b p).2 with
  | false=>exact⟨K,rfl,hno h2,.inl ⟨rfl,rfl⟩⟩
  | true=>
   obtain⟨m,c,h3,h4,h5⟩:=hyes h2;exact⟨⟨K.ov,K.oc,m.rs,c.rs,K.M⟩,rfl,h5,.inr ⟨rfl,m,c,h3,h4,rfl⟩⟩
 have HREL:=hid hrel;have HK1:=hid hK1;have HB1:=hid ho1.bel;clear ht hno hyes hrel hK1 hS hP hr hty;obtain⟨is,his⟩:∃is,(fQ d cl b p).2=is:=⟨_,rfl⟩
 rw[his];have HIS:=hid his;clear his;unfold QV.val QV.cells;go_upto_region 2 with (refine zNr rfl ?_;go_simp);generalize hg:W1.alloc _=W2;have e2:W1.alloc q.box=W2:=hg;have hb2:=bE e2
 have r2:W2.heap[W1.heap.size]?=some q.box:=aE e2
 have rd2:=rd1.later hb2;have ty2:=TyB.later ty1 hb2;have hBW1:B<=W1.heap.size:=by have:=HM.out;omega
 have kn2:=kn1.trans (KeepN.of_below hb2);have hz2:=hb2.size;have S2:=S1.later hb2;have P2:=P1.later hBW1 hb2;have ra2:=hq1.later hb2;have be2:=HB1.out.trans (hb2.mono hBW1);have hrM:K.M<=W1.heap.size:=by have:=HM.out;omega
 have hrp:W1.heap.size≠pb:=by have:=HM.out;omega
 have HF1:=hid (hf1.mono HM.out.1);clear hg e2 hb2 S1 P1 hq1 kn1 rd1 ty1 hf1;obtain⟨rb,hrb⟩:∃rb,W1.heap.size=rb:=⟨_,rfl⟩
 rw[hrb] at r2 hrM hrp hz2 hBW1 ⊢;clear hrb hz1;go_wp2_with fail;refine (QX B b ao n cap W2 rd2 hn (by omega) ty2).mono ?_;rintro e W3 ⟨hb3,hA3⟩;obtain⟨m,c,s,rfl,ma3,mt3,hx⟩:∃(m:MV) (c:MC) (s:ByteArray),e=.returned (.tuple #[m.val,.string s])/\QAt W3 m.rs c.rs/\QTyB B W3 m.rs c.rs/\((s=⟨#[]⟩/\U64M m c/\uk b m c)\/((s=qK\/s=jJ)/\lm b)):=by
  have z:QTyB B W3 (ay 0).rs dO.rs:=⟨fun h=>absurd h (yaw 0),fun _ h=>(by cases h),fun h=>absurd h (yaw 0)⟩
  rcases hA3 with ⟨m,c,rfl,a1,a2,a3,a4,a5,a6⟩ | ⟨rfl,a1⟩ | ⟨rfl,-,a1⟩
  ·exact⟨m,c,_,rfl,a1.rs,a6,.inl ⟨rfl,a2,_,a1,a2,a3,a4,a5⟩⟩
  ·exact⟨ay 0,dO,_,rfl,(fE _ _).rs,z,.inr ⟨.inl rfl,a1.msg⟩⟩
  exact⟨ay 0,dO,_,rfl,(fE _ _).rs,z,.inr ⟨.inr rfl,a1⟩⟩
 have HX:=hid hx;have hBW2:B<=W2.heap.size:=by omega
 have kn3:=kn2.trans (KeepN.of_below hb3);have S3:=S2.later hb3;have P3:=P2.later hBW2 hb3;have r3:=hb3.q r2;have ra3:=ra2.later hb3;have be3:=be2.trans (hb3.mono hBW2);have hz3:=hb3.size;clear hA3 hx hb3 S2 P2 r2 ra2 rd2 ty2 kn2 be2;unfold MV.val MV.cells;go_upto_region 3 with (refine zNr rfl ?_;go_simp);generalize hg:W3.alloc _=W4;have e4:W3.alloc m.box=W4:=hg;have hb4:=bE e4
 have q4:W4.heap[W3.heap.size]?=some m.box:=aE e4
 have hBW3:B<=W3.heap.size:=by omega
 have T4:PtC B pb sb rb W3.heap.size cl nd p K (fQ d cl b p).1 K1 uo1 to1 q qc m c w W4:=
  ⟨S3.later hb4,P3.later hBW3 hb4,(hb4.q r3),ra3.later hb4,HF1.out,q4,ma3.later hb4,mt3.kpn (KeepN.of_below hb4),kn3.trans (KeepN.of_below hb4),be3.trans (hb4.mono hBW3),⟨hne,hrp,by have:=HM.out;omega⟩,HK1.out,HM.out.2.1,hrM,by omega,by have:=hb4.size;omega⟩
 clear hg e4 hb4 q4 S3 P3 r3 ra3 ma3 mt3 kn3 be3;generalize W3.heap.size=mb at *;obtain⟨d1,hd1⟩:∃d1,(s=⟨#[]⟩/\d1=false)\/(s≠⟨#[]⟩/\d1=true):=by
  by_cases h:s=⟨#[]⟩
  ·exact⟨false,.inl ⟨h,rfl⟩⟩
  exact⟨true,.inr ⟨h,rfl⟩⟩
 obtain⟨d2,hd2⟩:∃d,(m.k != 2)=d:=⟨_,rfl⟩
 obtain⟨d3,hd3⟩:∃d,(m.cl != cl)=d:=⟨_,rfl⟩
 have HT4:=hid T4;have HD1:=hid hd1;clear T4 hd1;go_cut [37] from 11 (fun v wk=>v=.bool (d1||d2||d3)/\PtC B pb sb rb mb cl nd p K (fQ d cl b p).1 K1 uo1 to1 q qc m c w wk)
 case first=>
  have c0:=(McAt.of HT4.out.mq).c0;have c4:=(McAt.of HT4.out.mq).c4;obtain⟨p0,-⟩:=fZ HT4.out.p.box;have hs3:(s=⟨#[]⟩/\d1=false)\/(s=qK/\d1=true)\/(s=jJ/\d1=true):=by
   rcases HD1.out with h | ⟨h1,h2⟩
   ·exact .inl h
   rcases HX.out with ⟨h3,-⟩ | ⟨h3 | h3,-⟩
   ·exact absurd h3 h1
   ·exact .inr (.inl ⟨h3,h2⟩)
   exact .inr (.inr ⟨h3,h2⟩)
  clear HD1 HX;rcases hs3 with ⟨rfl,rfl⟩ | ⟨rfl,rfl⟩ | ⟨rfl,rfl⟩
  ·cases d2<;>cases d3
   all_goals
    go_quiet (fail)
    go_wp2_with fail;go_meet
    case rel=>exact⟨rfl,HT4.out.later (below_drewN (yaj _ _) _)⟩
  ·unfold qK;clear hd2 hd3 c0 c4 p0
   go_quiet (fail)
   go_wp2_with fail;go_meet
   case rel=>exact⟨by simp,HT4.out.later (below_drewN (yaj _ _) _)⟩
  unfold jJ;clear hd2 hd3 c0 c4 p0
  go_quiet (fail)
  go_wp2_with fail;go_meet
  case rel=>exact⟨by simp,HT4.out.later (below_drewN (yaj _ _) _)⟩
 obtain⟨rfl,T5⟩:=hcut;clear HT4;generalize hDD:(d1||d2||d3)=D;cases D with
 | true=>
  have HP:Hid (fQ d cl b p=(⟨p.num,p.vi,p.la,p.dr+1,p.un,p.told⟩,false)):=hid (by
   unfold fQ;rcases HX.out with ⟨h0,-,hm⟩ | ⟨-,h1⟩
   ·obtain⟨X,b1,b2,b3,b4,b5⟩:=hm;rw[(hd b).1 _ ⟨X,m,c,b1,b2,b3,b4,b5,rfl⟩];dsimp only;rw[if_neg];rintro⟨e1,e2⟩;rw[e1] at hd2;rw[e2] at hd3;subst hd2 hd3;rcases HD1.out with ⟨-,rfl⟩ | ⟨h,-⟩
    ·simp at hDD
    exact h h0
   rw[(hd b).2.1 h1])
  have his:is=false:=by rw[<-HIS.out,HP.out]
  subst his;have hK:K1=K:=by
   rcases HREL.out with ⟨-,h⟩ | ⟨h,-⟩
   ·exact h
   rw[HP.out] at h;cases h
  subst hK;clear hd2 hd3 hDD HX HD1;obtain⟨-,-,-,-,-,p5,-,-,-,-,-,-,-,-,-,-,-,-,-,pf⟩:=fZ T5.p.box;have hw:IntKind.wrap .i64 (p.dr+1)=p.dr+1:=by have:=HD.out;rw[yaP];omega
  go_upto_region 5 with fail;generalize hg:World.setCell _ _ _=W6;have T6:PtC B pb sb rb mb cl nd ⟨p.num,p.vi,p.la,p.dr+1,p.un,p.told⟩ K1 (fQ d cl b p).1 K1 uo1 to1 q qc m c w W6:=by
   refine T5.set (fun h=>h) ?_ ?_ ?_ ?_<;>rw[<-hg]
   ·exact ybv _ _ _
   ·exact fun k hk=>yaA _ _ _ _ hk
   ·exact (yaj B wc).setCell (p:=⟨pb,5,none⟩) T5.p.le _
   have:=T5.p.box;unfold iT wX at this ⊢;exact at_set this
  clear hg T5 p5 pf hw;go_wp2_with fail;go_ret;exact⟨rfl,T6.kn,T6.be,K1.rv,K1.rc,uo1,to1,T6.s,by rw[HP.out];exact T6.p⟩
 | false=>
  obtain⟨rfl,rfl,rfl⟩:d1=false/\d2=false/\d3=false:=by cases d1<;>cases d2<;>cases d3<;>simp at hDD<;>exact⟨rfl,rfl,rfl⟩
  have hk2:m.k=2:=by simpa using hd2
  have hcl:m.cl=cl:=by simpa using hd3
  have hmo':U64M m c/\uk b m c:=by
   rcases HD1.out with ⟨h,-⟩ | ⟨-,h⟩
   ·rcases HX.out with ⟨-,h1⟩ | ⟨h1,-⟩
    ·exact h1
    rw[h] at h1;rcases h1 with h1 | h1<;>exact absurd h1 (by decide)
   cases h
  have HMO:=hid hmo'.2;have HP:Hid (fQ d cl b p=if p.un=true/\p.num=m.nu then (⟨p.num,max p.vi m.vi,m.nu,p.dr,false,true⟩,true) else (⟨p.num,max p.vi m.vi,p.la,p.dr,p.un,p.told⟩,false)):=hid (by
   obtain⟨X,b1,b2,b3,b4,b5⟩:=hmo'.2;unfold fQ;rw[(hd b).1 _ ⟨X,m,c,b1,b2,b3,b4,b5,rfl⟩];dsimp only;rw[if_pos ⟨hk2,hcl⟩])
  clear hd2 hd3 hDD HX HD1 hk2 hcl hmo';go_wp2_with fail;have c1:=(McAt.of T5.mq).c1;obtain⟨-,-,p2,-⟩:=fZ T5.p.box
  go_quiet (fail)
  have T6:=T5.later (below_drewN (yaj wc.heap.size wc) nq);have HT5:=hid T6;clear T5 T6 c1 p2;generalize World.drewN wc nq=V6 at *;go_upto_if 53 with fail;go_cut [] from 11 (fun wk=>PtC B pb sb rb mb cl nd ⟨p.num,max p.vi m.vi,p.la,p.dr,p.un,p.told⟩ K (fQ d cl b p).1 K1 uo1 to1 q qc m c w wk)
  case first=>
   by_cases hgt:p.vi<m.vi
   ·have f1:decide (p.vi<m.vi)=true:=yaa hgt;have HMX:Hid (max p.vi m.vi=m.vi):=hid (by omega);clear hgt;rw[f1];have c1:=(McAt.of HT5.out.mq).c1;obtain⟨-,-,p2,-,-,-,-,-,-,-,-,-,-,-,-,-,-,-,-,pf⟩:=fZ HT5.out.p.box;go_wp2_with fail;go_meet
    case rel=>
     rw[HMX.out];refine HT5.out.set (fun h=>h) (ybv _ _ _) (fun k hk=>yaA _ _ _ _ hk) ((yaj B V6).setCell (p:=⟨pb,2,none⟩) HT5.out.p.le _) ?_;have:=HT5.out.p.box;unfold iT wX at this ⊢;exact at_set this
   have f1:decide (p.vi<m.vi)=false:=yad hgt;have HMX:Hid (max p.vi m.vi=p.vi):=hid (by omega);clear hgt;rw[f1];go_wp2_with fail;go_meet
   case rel=>rw[HMX.out];exact HT5.out
  have HT6:=hid hcut;clear hcut HT5;generalize hQ:decide (p.un=true/\p.num=m.nu)=Q;have HQ:=hid hQ;clear hQ;go_upto_region 8 with fail;go_cut [72] from 11 (fun v wk=>v=.bool (!Q)/\PtC B pb sb rb mb cl nd ⟨p.num,max p.vi m.vi,p.la,p.dr,p.un,p.told⟩ K (fQ d cl b p).1 K1 uo1 to1 q qc m c w wk)
  case first=>
   have c5:=(McAt.of HT6.out.mq).c5;obtain⟨-,p1,-,-,-,-,p6,-⟩:=fZ HT6.out.p.box;dsimp only at p1 p6;obtain⟨bu,hbu⟩:∃bu,p.un=bu:=⟨_,rfl⟩
   rw[hbu] at p6;obtain⟨dn,hdn⟩:∃dn,(m.nu != p.num)=dn:=⟨_,rfl⟩
   have hq:Q=(bu&&!dn):=by
    rw[<-HQ.out,<-hdn,<-hbu,ybk];simp;intro _;exact eq_comm
   subst hq;clear hbu;cases bu
   ·clear hdn c5 p1
    go_quiet (fail)
    go_wp2_with fail;go_meet
    case rel=>exact⟨rfl,HT6.out.later (below_drewN (yaj _ _) _)⟩
   cases dn
   all_goals
    go_quiet (fail)
    go_wp2_with fail;go_meet
    case rel=>exact⟨rfl,HT6.out.later (below_drewN (yaj _ _) _)⟩
  obtain⟨rfl,T7⟩:=hcut;clear HT6;cases Q with
  | false=>
   have HR:Hid (fQ d cl b p=(⟨p.num,max p.vi m.vi,p.la,p.dr,p.un,p.told⟩,false)):=hid (by rw[HP.out,if_neg (ybQ HQ.out)]);have his:is=false:=by rw[<-HIS.out,HR.out]
   subst his;have hK:K1=K:=by
    rcases HREL.out with ⟨-,h⟩ | ⟨h,-⟩
    ·exact h
    rw[HR.out] at h;cases h
   subst hK;have HF:Hid (Ah d B pb sb cl nd p K1 b w (.returned (.bool true)) wc):=hid ⟨rfl,T7.kn,T7.be,K1.rv,K1.rc,uo1,to1,T7.s,by rw[HR.out];exact T7.p⟩;clear T7;go_wp2_with fail;go_ret;exact HF.out
  | true=>
   have HR:Hid (fQ d cl b p=(⟨p.num,max p.vi m.vi,m.nu,p.dr,false,true⟩,true)):=hid (by rw[HP.out,if_pos (yar HQ.out)]);have his:is=true:=by rw[<-HIS.out,HR.out]
   subst his;obtain⟨m0,c0,hm0,hq0,hK⟩:∃(m0:MV) (c0:MC),uk b m0 c0/\aF q qc m0.rs c0.rs=true/\K1=⟨K.ov,K.oc,m0.rs,c0.rs,K.M⟩:=by
    rcases HREL.out with ⟨h,-⟩ | ⟨-,h⟩
    ·rw[HR.out] at h;cases h
    exact h
   have hsm:aF m0.rs c0.rs m.rs c.rs=true:=by
    obtain⟨X,b1,b2,b3,b4,b5⟩:=hm0;obtain⟨Y,e1,e2,e3,e4,e5⟩:=HMO.out;exact (same_iff.1 (AV b1 e1 b2 e2 b3 e3 b4 e4 (b5.trans e5.symm))).2 114 (by decide)
   have HSM:=hid (yax hsm (kF hq0 hsm));subst hK;clear hm0 hq0 hsm HP HQ HMO HREL;have HT7:=hid T7;clear T7;go_upto_region 10 with fail;have bD:Below wc.heap.size wc (World.drew wc):=(yaj _ _).drew;have T8:=HT7.out.later bD;have s0:uj mb m (World.drew wc):=T8.mq;refine yaB (S:=uj mb m) hmo ?_;change wpAnyH _ _ _ _ _ _ _ _ (World.drew _);have HT8:=hid T8;clear HT7 T8 bD;generalize World.drew wc=V0 at *;obtain⟨-,-,-,p3,-,-,p6,p7,-,-,-,-,-,-,-,p15,p16,p17,p18,pf⟩:=fZ HT8.out.p.box;have hm:=HT8.out.ne.2.2;have zf0 w0 (h:uj mb m w0):=(McAt.of h).c5;have zf1 w0 (h:uj mb m w0):=(McAt.of h).c15;have zf2 w0 (h:uj mb m w0):=(McAt.of h).c16;have zf3 w0 (h:uj mb m w0):=(McAt.of h).c17;have zf4 w0 (h:uj mb m w0):=(McAt.of h).c18;refine zp 0 (pp pb 0) rfl (zp 1 (pp pb 0) rfl (zp 2 (pp pb 0) rfl (zp 3 (pp pb 0) rfl (zp 4 (pp mb 5) rfl ?_))));go_simp;refine zv 5 (.int .u64 m.nu) rfl ?_;go_simp;refine zp 6 (pp mb 15) rfl ?_;go_simp;refine zv 7 (.agg #[.int .i64 m.rs.code,.bool m.rs.yes,.slice m.rs.eo m.rs.en m.rs.ec,.slice m.rs.co m.rs.cn m.rs.cc]) rfl ?_;go_simp;refine zp 8 (pp pb 0) rfl (zp 9 (pp pb 6) rfl ?_);go_simp;refine zH1 10 rfl (fun K hK=>?_);go_simp;have s1:=(ah (i:=6) (x:=.bool false) s0 hm)
   refine hK _ _ ⟨s1,?_⟩;clear hK K;refine zp 11 (pp pb 0) rfl (zp 12 (pp pb 7) rfl ?_);go_simp;refine zH1 13 rfl (fun K hK=>?_);go_simp;have s2:=(ah (i:=7) (x:=.bool true) s1 hm)
   refine hK _ _ ⟨s2,?_⟩;clear hK K;refine zp 14 (pp pb 0) rfl (zp 15 (pp pb 3) rfl ?_);go_simp;refine zH1 16 rfl (fun K hK=>?_);go_simp;have s3:=(ah (i:=3) (x:=.int .u64 m.nu) s2 hm)
   refine hK _ _ ⟨s3,?_⟩;clear hK K;refine zp 17 (pp pb 0) rfl (zp 18 (pp pb 15) rfl ?_);go_simp;refine zH1 19 rfl (fun K hK=>?_);go_simp;have s4:=(ah (i:=18) (x:=.slice m.rs.co m.rs.cn m.rs.cc) (ah (i:=17) (x:=.slice m.rs.eo m.rs.en m.rs.ec) (ah (i:=16) (x:=.bool m.rs.yes) (ah (i:=15) (x:=.int .i64 m.rs.code) s3 hm) hm) hm) hm)
   refine hK _ _ ⟨s4,?_⟩;clear hK K;refine zd ?_;have hbox:=(at_set (i:=18) (x:=.slice m.rs.co m.rs.cn m.rs.cc) (at_set (i:=17) (x:=.slice m.rs.eo m.rs.en m.rs.ec) (at_set (i:=16) (x:=.bool m.rs.yes) (at_set (i:=15) (x:=.int .i64 m.rs.code) (at_set (i:=3) (x:=.int .u64 m.nu) (at_set (i:=7) (x:=.bool true) (at_set (i:=6) (x:=.bool false) HT8.out.p.box))))))).trans (by kernel_rfl:_=some (iT cl nd ⟨p.num,max p.vi m.vi,m.nu,p.dr,false,true⟩ ⟨K.ov,K.oc,m.rs,c.rs,K.M⟩));have hbe:=(ycy (p:=⟨pb,18,none⟩) (ycy (p:=⟨pb,17,none⟩) (ycy (p:=⟨pb,16,none⟩) (ycy (p:=⟨pb,15,none⟩) (ycy (p:=⟨pb,3,none⟩) (ycy (p:=⟨pb,7,none⟩) (ycy (p:=⟨pb,6,none⟩) (yaj B V0) HT8.out.p.le (.bool false)) HT8.out.p.le (.bool true)) HT8.out.p.le (.int .u64 m.nu)) HT8.out.p.le (.int .i64 m.rs.code)) HT8.out.p.le (.bool m.rs.yes)) HT8.out.p.le (.slice m.rs.eo m.rs.en m.rs.ec)) HT8.out.p.le (.slice m.rs.co m.rs.cn m.rs.cc))
   have hsz:((World.setCell (World.setCell (World.setCell (World.setCell (World.setCell (World.setCell (World.setCell V0 ⟨pb,6,none⟩ (.bool false)) ⟨pb,7,none⟩ (.bool true)) ⟨pb,3,none⟩ (.int .u64 m.nu)) ⟨pb,15,none⟩ (.int .i64 m.rs.code)) ⟨pb,16,none⟩ (.bool m.rs.yes)) ⟨pb,17,none⟩ (.slice m.rs.eo m.rs.en m.rs.ec)) ⟨pb,18,none⟩ (.slice m.rs.co m.rs.cn m.rs.cc))).heap.size=V0.heap.size:=by simp[ybv]
   have hkk:∀k,k≠pb->((World.setCell (World.setCell (World.setCell (World.setCell (World.setCell (World.setCell (World.setCell V0 ⟨pb,6,none⟩ (.bool false)) ⟨pb,7,none⟩ (.bool true)) ⟨pb,3,none⟩ (.int .u64 m.nu)) ⟨pb,15,none⟩ (.int .i64 m.rs.code)) ⟨pb,16,none⟩ (.bool m.rs.yes)) ⟨pb,17,none⟩ (.slice m.rs.eo m.rs.en m.rs.ec)) ⟨pb,18,none⟩ (.slice m.rs.co m.rs.cn m.rs.cc))).heap[k]?=V0.heap[k]?:=fun k hk=>by
    repeat rw[yaA _ _ _ k hk]
   clear p3 p6 p7 p15 p16 p17 p18 pf s0 s1 s2 s3 s4;generalize (World.setCell (World.setCell (World.setCell (World.setCell (World.setCell (World.setCell (World.setCell V0 ⟨pb,6,none⟩ (.bool false)) ⟨pb,7,none⟩ (.bool true)) ⟨pb,3,none⟩ (.int .u64 m.nu)) ⟨pb,15,none⟩ (.int .i64 m.rs.code)) ⟨pb,16,none⟩ (.bool m.rs.yes)) ⟨pb,17,none⟩ (.slice m.rs.eo m.rs.en m.rs.ec)) ⟨pb,18,none⟩ (.slice m.rs.co m.rs.cn m.rs.cc))=V1 at *;have T8:=HT8.out;have hn:KeepN B V0 V1:=KeepN.box T8.p.box ul T8.p.le (yaR hsz.symm) hkk;have hfar:∀k,K.M<=k->k<V0.heap.size->V1.heap[k]?=V0.heap[k]?:=fun k h1 _=>hkk k (by have:=T8.mm;omega);have s9:=(T8.s.far (yaR hsz.symm) (hkk _ T8.ne.1) hfar).res HSM.out.1;have P9:PAt V1 B pb cl nd ⟨p.num,max p.vi m.vi,m.nu,p.dr,false,true⟩ ⟨K.ov,K.oc,m.rs,c.rs,K.M⟩:=⟨hbox,T8.p.le,T8.p.op.low T8.p.ol hbe,T8.p.ol,(fun h=>by cases h),T8.ma.kpn T8.mt hn,T8.mt.kpn hn⟩
   have r9:=(hkk _ T8.ne.2.1).trans T8.r;have ra9:=T8.ra.far T8.rf (yaR hsz.symm) hfar;have m9:=(hkk _ T8.ne.2.2).trans T8.mq;have kn9:=T8.kn.trans hn;have be9:=T8.be.trans hbe;have hB9:B<=V1.heap.size:=by rw[hsz];exact T8.mm.2.2.2.2
   have hc:=kT q m.rs qc c.rs V1 ra9 (T8.ma.kpn T8.mt hn);rw[HSM.out.2] at hc;unfold QV.val QV.cells at hc;have c15:=(McAt.of m9).c15;have c16:=(McAt.of m9).c16;have c17:=(McAt.of m9).c17;have c18:=(McAt.of m9).c18;have HF:=hid (yax s9 (yax P9 (yax kn9 (yax be9 hB9))));clear hbox hbe hsz hkk hn hfar s9 P9 ra9 m9 kn9 be9 hB9 T8 HT8;go_wp2_with (refine zLr rfl r9 ?_;go_simp);refine hc.mono ?_;rintro e W9 ⟨rfl,hb9⟩;have HG:Hid (Ah d B pb sb cl nd p K b w (.returned (.bool true)) W9):=hid ⟨rfl,HF.out.2.2.1.trans (KeepN.of_below hb9),HF.out.2.2.2.1.trans (hb9.mono HF.out.2.2.2.2),m.rs,c.rs,uo1,to1,HF.out.1.later hb9,by rw[HR.out];exact HF.out.2.1.later HF.out.2.2.2.2 hb9⟩;clear hc hb9 c15 c16 c17 c18 r9;go_wp2_with fail;go_ret;exact HG.out
