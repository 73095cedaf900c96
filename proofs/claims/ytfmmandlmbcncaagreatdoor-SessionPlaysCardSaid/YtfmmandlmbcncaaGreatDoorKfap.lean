/-A part of the proof.-/
import Derived.Test.YtfmmandlmbcncaaGreatDoorKfao
set_option maxHeartbeats 40000000
set_option maxRecDepth 100000
set_option linter.all false
namespace Go.Proofs.YtfmmandlmbcncaaGreatDoor
namespace Tlv
open Go.RowKit Mem
variable{B cap g:Nat}{W W' w w1:World}{ao:Option Addr}{o:Obj}{s:RS}{t:UInt8}{x:List UInt8}
def TyB (B:Nat)(W:World)(ao:Option Addr)(cap:Nat):Prop:=0<cap->∀a,ao=some a->a.block<B\/∃c fr,W.heap[a.block]?=some (.cells c 5 fr)
theorem TyB.ne(h:TyB B W ao cap)(hB:B<=g)(hg:W.heap[g]?=some o)(ho:∀c fr,o≠.cells c 5 fr):0<cap->∀a,ao=some a->a.block≠g:=fun h0 a ha e=>by
 rcases h h0 a ha with h1 | ⟨c,fr,h1⟩
 ·omega
 rw[e,hg] at h1;exact ho c fr (yaf h1)
theorem TyB.grown{row:Option Nat}(h:TyB B W ao cap)(hg:W.grownBy W' row)(hd:0<cap->∀a,ao=some a->some a.block≠row):TyB B W' ao cap:=fun h0 a ha=>by
 rcases h h0 a ha with h1 | ⟨c,fr,h1⟩
 ·exact .inl h1
 exact .inr ⟨c,fr,(hg.block _ (lA h1) (hd h0 a ha)).trans h1⟩
theorem TyB.later(h:TyB B W ao cap)(hb:Below W.heap.size W W'):TyB B W' ao cap:=fun h0 a ha=>by
 rcases h h0 a ha with h1 | ⟨c,fr,h1⟩
 ·exact .inl h1
 exact .inr ⟨c,fr,(hb.q h1)⟩
theorem TyB.zero(B:Nat)(W:World)(ao:Option Addr):TyB B W ao 0:=fun h=>absurd h (yaw 0)
theorem TyB.lt(h:TyB B W ao cap)(hB:B<=W.heap.size):0<cap->∀a,ao=some a->a.block<W.heap.size:=fun h0 a ha=>by
 rcases h h0 a ha with h1 | ⟨c,fr,h1⟩
 ·omega
 exact lA h1
structure RfAt (B g:Nat)(s:RS)(ao:Option Addr)(cap:Nat)(W:World):Prop where
 at_:W.heap[g]?=some (.cells #[.slice ao s.l.length cap,.bool s.bad] 119)
 le:B<=g
 rd:Rd W 1 ao s.l.length cap (byV s.l)
 ty:TyB B W ao cap
def RfS (B g:Nat)(s:RS)(W:World):Prop:=∃ao cap,RfAt B g s ao cap W
theorem RfAt.ne(h:RfAt B g s ao cap W):0<cap->∀a,ao=some a->a.block≠g:=h.ty.ne h.le h.at_ (fun _ _ h=>by cases h)
theorem RfAt.lt(h:RfAt B g s ao cap W):g<W.heap.size:=lA h.at_
theorem RfS.lt(h:RfS B g s W):g<W.heap.size:=by obtain⟨_,_,h⟩:=h;exact h.lt
theorem RfS.le(h:RfS B g s W):B<=g:=by obtain⟨_,_,h⟩:=h;exact h.le
theorem RfAt.later(h:RfAt B g s ao cap W)(hb:Below W.heap.size W W'):RfAt B g s ao cap W':=⟨(hb.block g h.lt).trans h.at_,h.le,h.rd.later hb,h.ty.later hb⟩
theorem RfS.later(h:RfS B g s W)(hb:Below W.heap.size W W'):RfS B g s W':=by
 obtain⟨ao,cap,h⟩:=h;exact⟨ao,cap,h.later hb⟩
theorem RfS.belX{q:Nat}{wr:World}{xs:List Nat}(h:RfS B q s w1)(hb:BelX w1.heap.size xs w1 wr)(hq:q∉xs)(hB:∀k∈xs,B<=k)(hx:∀k∈xs,∃o,w1.heap[k]?=some o/\∀c fr,o≠.cells c 5 fr):RfS B q s wr:=by
 obtain⟨ao,cap,h⟩:=h;have hne:0<cap->∀a,ao=some a->a.block∉xs:=fun h0 a ha hm=>by
  obtain⟨o,h1,h2⟩:=hx _ hm;rcases h.ty h0 a ha with h3 | ⟨c,fr,h3⟩
  ·have:=hB _ hm;omega
  rw[h3] at h1;exact h2 c fr (yaf h1).symm
 refine⟨ao,cap,(hb.at_ h.at_ h.lt hq),h.le,?_,fun h0 a ha=>?_⟩
 ·obtain⟨h1,h2,h3,h4,h5⟩:=h.rd;refine⟨h1,h2,h3,h4,fun h0 a ha=>?_⟩;obtain⟨s1,l,c⟩:=h5 h0 a ha;exact⟨s1,yaz l hb.size,fun j u hu=>(yaK (a:=⟨a.block,a.off+j,none⟩) (hb.block _ l (hne h0 a ha))).trans (c j u hu)⟩
 rcases h.ty h0 a ha with h3 | ⟨c,fr,h3⟩
 ·exact .inl h3
 exact .inr ⟨c,fr,hb.at_ h3 (lA h3) (hne h0 a ha)⟩
theorem RfS.grown{k:Nat}(h:RfS B g s W)(hg:W.grownBy W' (some k))(hk:W.heap[k]?=some o)(ho:∀c fr,o≠.cells c 5 fr)(hgk:g≠k)(hBk:B<=k):RfS B g s W':=
 h.belX (BelX.of_grown hg) (by simpa using hgk) (fun j hj=>by rw[yah.1 hj];exact hBk) (fun j hj=>by rw[yah.1 hj];exact⟨o,hk,ho⟩)
theorem RfAt.fail(h:RfAt B g s ao cap W):RfAt B g ⟨s.l,true⟩ ao cap (W.setCell ⟨g,1,none⟩ (.bool true)):=by
 have hn:=h.ne;have hs:=yaA W ⟨g,1,none⟩ (.bool true);have hg:=ak W g 1 (.bool true);refine⟨vg h.at_ _,h.le,fO h.rd hg (fun h0 a ha e=>hn h0 a ha (yaf e)),h.ty.grown hg (fun h0 a ha e=>hn h0 a ha (yaf e))⟩
theorem RfAt.move(h:RfAt B g s ao cap W){l':List UInt8}{ao':Option Addr}{cap':Nat}(hr:Rd W 1 ao' l'.length cap' (byV l'))(ht:TyB B W ao' cap') :
  RfAt B g ⟨l',s.bad⟩ ao' cap' (W.setCell ⟨g,0,none⟩ (.slice ao' l'.length cap')):=by
 have hg:=ak W g 0 (.slice ao' l'.length cap');have hn:=ht.ne h.le h.at_ (fun _ _ h=>by cases h);exact⟨vg h.at_ _,h.le,fO hr hg (fun h0 a ha e=>hn h0 a ha (yaf e)),ht.grown hg (fun h0 a ha e=>hn h0 a ha (yaf e))⟩
theorem RfS.fail(h:RfS B g s W):RfS B g ⟨s.l,true⟩ (W.setCell ⟨g,1,none⟩ (.bool true)):=by
 obtain⟨ao,cap,h⟩:=h;exact⟨ao,cap,h.fail⟩
theorem gz(h:RfAt B g s ao cap W):W.cell? ⟨g,0,none⟩=some (.slice ao s.l.length cap)/\W.cell? ⟨g,1,none⟩=some (.bool s.bad)/\W.frozen? ⟨g,0,none⟩=false/\W.frozen? ⟨g,1,none⟩=false:=by
 have:=h.at_;simp[World.cell?,World.frozen?,this]
def gJ (B g:Nat)(s:RS)(t:UInt8)(W:World)(e:Ending)(w':World):Prop:=RfS B g (s.bytes t).2 w'/\W.grownBy w' (some g) /\
 ∃ao cap,e=.returned (.slice ao (s.bytes t).1.length cap)/\Rd w' 1 ao (s.bytes t).1.length cap (byV (s.bytes t).1)/\TyB B w' ao cap
theorem H6(h:s.bad=true\/¬(fs s.l≠0/\(hd1 s.l).1=t)):s.bytes t=([],⟨s.l,true⟩):=by
 obtain⟨l,bad⟩:=s;unfold RS.bytes RS.take;cases bad with
 | true=>rw[if_pos rfl];rfl
 | false=>
  rw[if_neg (by simp)];rcases h with h | h
  ·cases h
  rw[if_neg h];rfl
theorem Gm(hb:s.bad=false)(h:fs s.l≠0/\(hd1 s.l).1=t):s.bytes t=((hd1 s.l).2,⟨s.l.drop (fs s.l),false⟩):=by
 unfold RS.bytes RS.take;rw[if_neg (by simp[hb]),if_pos h];rfl
theorem gB(B g:Nat)(s:RS)(t:UInt8)(W:World)(hr:RfS B g s W)(hl:s.l.length<=100000000):Calls Tryz.prog 92 #[.pointer (some ⟨g,0,none⟩),.int .u8 (t.toNat:Int)] W (gJ B g s t W):=by
 obtain⟨ao,cap,hr⟩:=hr;obtain⟨l,bad⟩:=s;obtain⟨c0,c1,z0,z1⟩:=gz hr;dsimp only at hl c0 c1;go_in;go_wp2_with fail;refine (uQ ao l.length cap l W hr.rd (by omega)).mono ?_;rintro e w1 ⟨hb1,hc1⟩;have hr1:=hr.later hb1;obtain⟨d0,d1,y0,y1⟩:=gz hr1;dsimp only at d0 d1;have hgb:=gU hb1 (some g);have hbad:(bad=true\/¬(fs l≠0/\(hd1 l).1=t))->gJ B g ⟨l,bad⟩ t W (.returned (.slice none 0 0)) (w1.setCell ⟨g,1,none⟩ (.bool true)):=by
  intro h;unfold gJ;rw[H6 h];exact⟨⟨ao,cap,hr1.fail⟩,bi hgb (ak _ _ _ _),none,0,rfl,Rd.nil _ _,TyB.zero _ _ _⟩
 have Hb:=Lib.hid hbad;clear hbad;cases bad with
 | true=>
  rcases hc1 with ⟨h0,rfl⟩ | ⟨h0,ao2,cap2,rfl,hr2,hbk⟩
  ·go_wp2_with fail;go_ret;exact Hb.out (.inl (by first | rfl | trivial))
  go_wp2_with fail;go_ret;exact Hb.out (.inl (by first | rfl | trivial))
 | false=>
  rcases hc1 with ⟨h0,rfl⟩ | ⟨h0,ao2,cap2,rfl,hr2,hbk⟩
  ·go_wp2_with fail;go_ret;exact Hb.out (.inr (fun h=>h.1 h0))
  have hf5:=iH l h0;have hfle:=lq l;have f2:((fs l:Int)==0)=false:=by rw[yap];omega
  by_cases htg:(hd1 l).1=t
  ·have Hts:=Lib.hid (Gm (s:=⟨l,false⟩) rfl ⟨h0,htg⟩);have hat1:=hr1.at_;have hdl:(l.drop (fs l)).length=l.length-fs l:=yaM;have Hdl:=Lib.hid hdl;have hrd1:=hr1.rd;dsimp only at hrd1;have hcl:=hrd1.le;have hne1:=hr1.ne;obtain⟨b1,o1,e1,hlt1,hcc1⟩:=hrd1.some (by omega);subst e1;have hty1:=hr1.ty;have ht1:∀(ao':Option Addr) (c':Nat),(0<c'->∀a,ao'=some a->a.block=b1)->TyB B w1 ao' c':=fun ao' c' h h0 a ha=>by
    rw[h h0 a ha];exact hty1 (by omega) _ rfl
   have hx3:TyB B w1 ao2 cap2:=ht1 _ _ (fun h a ha=>by
    obtain⟨a0,h1,h2⟩:=hbk h a ha;cases h1;exact h2)
   have hx2:0<cap2->∀a,ao2=some a->a.block≠g:=hx3.ne hr1.le hat1 (fun _ _ h=>by cases h);have f1:(((hd1 l).1.toNat:Int) != (t.toNat:Int))=false:=by rw[htg];simp
   clear hdl;obtain⟨it,hit⟩:∃it,hd1 l=it:=⟨_,rfl⟩
   rw[hit] at hr2 f1 htg;rw[hit];have hok:∀w',RfS B g ⟨l.drop (fs l),false⟩ w'->W.grownBy w' (some g)->Rd w' 1 ao2 (hd1 l).2.length cap2 (byV (hd1 l).2)->TyB B w' ao2 cap2->gJ B g ⟨l,false⟩ t W (.returned (.slice ao2 (hd1 l).2.length cap2)) w':=by
    intro w' h1 h2 h3 h4;unfold gJ;rw[Hts.out];exact⟨h1,h2,ao2,cap2,rfl,h3,h4⟩
   rw[hit] at hok;have hmv:=fun (q:Nat) (a:Addr) (c:Nat) (hq:q=l.length-fs l) (h:Rd w1 1 (some a) (l.length-fs l) c (byV (l.drop (fs l)))) (hn:0<c->a.block=b1)=>hr1.move (l':=l.drop (fs l)) (ao':=some a) (cap':=c) (by rw[Hdl.out];exact h) (ht1 _ _ (fun h0 a' ha=>by cases ha;exact hn h0));rw[Hdl.out] at hmv;have Hmv:=Lib.hid hmv;clear hmv;have Hok:=Lib.hid hok;clear hok hit Hts;generalize hff:fs l=f at *;clear hff;have i0:(0:Int)<=(f:Int):=by omega
   have i1:(f:Int)<=(l.length:Int):=by omega
   have i2:(f:Int)<=(cap:Int):=by omega
   by_cases hcf:cap=f
   ·subst hcf;have hq0:l.length=cap:=by omega
    have hq1:l.length-cap=0:=by omega
    have hre:=DX hrd1 (f:=cap) (by omega) rfl;have hm:=Hmv.out _ ⟨b1,o1,none⟩ 0 rfl (by rw[hq1];exact hre) (fun h=>absurd h (yaw 0));rw[hq1] at hm;have Hm:=Lib.hid hm;have hr3:=fO hr2 (ak w1 g 0 (.slice (some ⟨b1,o1,none⟩) 0 0)) (fun h0 a ha e=>hx2 h0 a ha (yaf e));have hr4:=fun (v:Value)=>hx3.grown (ak w1 g 0 v) (fun h0 a ha e=>hx2 h0 a ha (yaf e));clear hm hre;go_wp2_with fail;go_ret;exact Hok.out _ ⟨_,_,Hm.out⟩ (bi hgb (ak _ _ _ _)) hr3 (hr4 _)
   have hcf2:¬cap-f=0:=by omega
   have hre:=pq hrd1 (f:=f) (by omega);have hm:=Hmv.out _ ⟨b1,o1+f,none⟩ (cap-f) rfl hre (fun _=>rfl);have Hm:=Lib.hid hm;have hr3:=fO hr2 (ak w1 g 0 (.slice (some ⟨b1,o1+f,none⟩) (l.length-f) (cap-f))) (fun h0 a ha e=>hx2 h0 a ha (yaf e));have hr4:=fun (v:Value)=>hx3.grown (ak w1 g 0 v) (fun h0 a ha e=>hx2 h0 a ha (yaf e));clear hm hre;go_wp2_with fail;go_ret;exact Hok.out _ ⟨_,_,Hm.out⟩ (bi hgb (ak _ _ _ _)) hr3 (hr4 _)
  have f1:((((hd1 l).1.toNat:Int)) != (t.toNat:Int))=true:=by
   rw[bne_iff_ne];intro e;exact htg (ybw.1 (by omega))
  go_wp2_with fail;go_ret;exact Hb.out (.inr (fun h=>htg h.2))
def Ee (B g:Nat)(v:Value)(s:RS)(W:World)(e:Ending)(w':World):Prop:=e=.returned v/\RfS B g s w'/\W.grownBy w' (some g)
theorem ni(B g:Nat)(s:RS)(t:UInt8)(W:World)(hr:RfS B g s W)(hl:s.l.length<=100000000):Calls Tryz.prog 159 #[.pointer (some ⟨g,0,none⟩),.int .u8 (t.toNat:Int)] W
  (Ee B g (.string ⟨(s.bytes t).1.toArray⟩) (s.bytes t).2 W):=by
 have hc:=gB B g s t W hr hl;unfold gJ at hc;generalize s.bytes t=r at *;go_in;go_wp2_with fail;refine hc.mono ?_;rintro e w' ⟨h1,h2,ao,cap,rfl,h3,h4⟩;have hs:=jc ao _ cap _ w' h3;go_wp2;go_ret;exact⟨rfl,h1,h2⟩
theorem kZ(B g:Nat)(s:RS)(W:World)(hr:RfS B g s W):Calls Tryz.prog 64 #[.pointer (some ⟨g,0,none⟩)] W fun e w'=>e=.returned (.bool (decide (s.bad=false/\s.l=[])))/\W=w':=by
 obtain⟨ao,cap,hr⟩:=hr;obtain⟨l,bad⟩:=s;obtain⟨c0,c1,-,-⟩:=gz hr;dsimp only at c0 c1;cases bad with
 | true=>
  have he:decide (RS.bad ⟨l,true⟩=false/\RS.l ⟨l,true⟩=[])=false:=by simp
  rw[he];go_in;go_wp2;go_ret;exact⟨rfl,rfl⟩
 | false=>
  cases l with
  | nil=>
   have he:decide (RS.bad ⟨[],false⟩=false/\RS.l ⟨[],false⟩=[])=true:=by simp
   rw[he];go_in;go_wp2;go_ret;exact⟨rfl,rfl⟩
  | cons x l=>
   have he:decide (RS.bad ⟨x::l,false⟩=false/\RS.l ⟨x::l,false⟩=[])=false:=by simp
   have f0:(((x::l).length:Int)==0)=false:=by rw[yap,yaF];omega
   rw[he];clear he hr;generalize (x::l).length=q at *;go_in;go_wp2;go_ret;exact⟨rfl,rfl⟩
theorem Bq(s:RS)(t:UInt8):s.num t=if (s.bytes t).2.bad=true\/¬(s.bytes t).1.length=8 then (0,⟨(s.bytes t).2.l,true⟩) else (jG (s.bytes t).1 8,(s.bytes t).2):=by
 unfold RS.num RS.bytes;cases h:s.take t with
 | mk ox s'=>
  cases ox with
  | none=>
   have hb:=vS h;dsimp only;rw[if_pos (.inl hb),<-hb]
  | some x=>
   have hb:=(dW h).2.1;dsimp only[Option.getD_some];by_cases h8:x.length=8
   ·rw[if_pos h8,if_neg (by rw[hb];simp[h8])]
   rw[if_neg h8,if_pos (.inr h8)]
theorem jQ(B g:Nat)(s:RS)(t:UInt8)(W:World)(hr:RfS B g s W)(hl:s.l.length<=100000000):Calls Tryz.prog 90 #[.pointer (some ⟨g,0,none⟩),.int .u8 (t.toNat:Int)] W
  (Ee B g (.int .u64 ((s.num t).1:Int)) (s.num t).2 W):=by
 have hc:=gB B g s t W hr hl;unfold gJ at hc;rw[Bq];generalize s.bytes t=r at *;obtain⟨x,s'⟩:=r;dsimp only at hc ⊢;by_cases hb:s'.bad=true\/¬x.length=8
 ·rw[if_pos hb];have HB:=Lib.hid hb;clear hb;go_in;go_wp2_with fail;refine hc.mono ?_;rintro e w' ⟨⟨ao1,cap1,h1⟩,h2,ao,cap,rfl,h3,h4⟩;obtain⟨c0,c1,z0,z1⟩:=gz h1;have Hf:=Lib.hid h1.fail;cases hs:s'.bad with
  | true=>
   rw[hs] at c1;clear h1 hs;go_wp2_with fail;go_ret;exact⟨rfl,⟨_,_,Hf.out⟩,bi h2 (ak _ _ _ _)⟩
  | false=>
   rw[hs] at c1;have f0:((x.length:Int) != 8)=true:=by
    rw[bne_iff_ne];rcases HB.out with h | h
    ·rw[hs] at h;cases h
    omega
   clear h1 hs;go_wp2_with fail;go_ret;exact⟨rfl,⟨_,_,Hf.out⟩,bi h2 (ak _ _ _ _)⟩
 rw[if_neg hb];simp only[not_or,ybs,Decidable.not_not] at hb;obtain⟨hb1,h8⟩:=hb;have hc2:Calls Tryz.prog 92 #[.pointer (some ⟨g,0,none⟩),.int .u8 (t.toNat:Int)] W fun e w'=>∃b o cap,e=.returned (.slice (some ⟨b,o,none⟩) 8 cap)/\(∀k,k<8->w'.cell? ⟨b,o+k,none⟩=some (.int .u8 ((x[k]?.getD 0).toNat:Int)))/\w'.cell? ⟨g,1,none⟩=some (.bool false)/\RfS B g s' w'/\W.grownBy w' (some g):=by
  refine hc.mono ?_;rintro e w' ⟨h1,h2,ao,cap,rfl,h4,_⟩;have hle:=h4.le;obtain⟨b,o,rfl,_,hcc⟩:=h4.some (by omega);have hc1:w'.cell? ⟨g,1,none⟩=some (.bool false):=by
   obtain⟨_,_,h⟩:=h1;rw[<-hb1];exact (gz h).2.1
  exact⟨b,o,cap,by rw[h8],fun k hk=>hcc k _ (iG x k (by omega)),hc1,h1,h2⟩
 have hk:=pF x;have hv:∀k:Nat,Hid ((x[k]?.getD 0).toNat<256):=fun k=>ybo _;have hsx:∀k:Nat,Hid (jG x (k+1)=jG x k*256+(x[k]?.getD 0).toNat):=fun k=>rfl;clear hc h8 hb1;go_in;go_wp2_with fail;refine hc2.mono ?_;rintro e w' ⟨b,o,cap,rfl,hcell,hc1,h1,h2⟩;have Hcell:=Lib.hid hcell;have Hk:=Lib.hid hk;clear hcell hk;go_wp2_with fail
 go_loop [6,7] (fun v p=>∃k:Nat,k<=8/\v=.int .u64 (jG x k:Int)/\p=.int .i64 (k:Int)) (fun _ p=>(8-intOf p).toNat)
 case atStart=>exact⟨0,by omega,rfl,rfl⟩
 case round=>
  obtain⟨k,hk8,rfl,rfl⟩:=hrel;by_cases hk9:k=8
  ·subst hk9;go_wp2;go_ret;exact⟨rfl,h1,h2⟩
  have hk7:k<8:=by omega
  have hc3:=Hcell.out k hk7;have hlt:=Hk.out k;have hpow:256 ^ k<=256 ^ 7:=Nat.pow_le_pow_right (by decide) (by omega);have hv1:=(hv k).out;have hs1:=(hsx k).out;have Hs1:=Lib.hid hs1;clear hs1;generalize jG x k=q at *;generalize (x[k]?.getD 0).toNat=c at *;have hq7:q<72057594037927936:=yaz hlt hpow;clear hlt hpow;have j0:IntKind.u64.wrap (256*(q:Int))=(q:Int)*256:=by rw[ycC]<;>omega
  have j1:IntKind.u64.wrap ((q:Int)*256+(c:Int))=(q:Int)*256+(c:Int):=by rw[ycC]<;>omega
  go_wp2
  case roundEnd=>exact⟨⟨k+1,by omega,by rw[Hs1.out];go_num,by go_num⟩,by simp[intOf];omega⟩
def allIn (B:Nat)(w:World)(xs:List El)(W:World):Prop:=∀x∈xs,elG x W/\TyB B w x.ao x.cap
theorem allIn.below{xs:List El}(h:allIn B w xs W)(hB:B<=w.heap.size)(hb:Below w.heap.size W W'):allIn B w xs W':=fun x hx=>⟨Rd.below (h x hx).1 hb ((h x hx).2.lt hB),(h x hx).2⟩
theorem allIn.snoc{xs:List El}{x:El}(h:allIn B w xs W)(h1:elG x W)(h2:TyB B w x.ao x.cap):allIn B w (xs++[x]) W:=by
 intro y hy;rcases yaQ.1 hy with hy | hy
 ·exact h y hy
 rw[yah] at hy;subst hy;exact⟨h1,h2⟩
def F7 (B:Nat)(w:World)(b:List UInt8)(e:Ending)(w':World):Prop:=∃ao cap xs,e=.returned (.tuple #[.slice ao (its b).length cap,.int .i64 (ip (its b) (its b).length:Nat)])/\came xs=its b /\
 Rd w' 2 ao (its b).length cap (itV xs)/\allIn B w xs w'/\Below w.heap.size w w'/\(0<cap->∀a,ao=some a->w.heap.size<=a.block)
def TI (B:Nat)(w0 w:World)(l:List UInt8)(e:Ending)(w':World):Prop:=Below w.heap.size w w' /\
 ((fs l=0/\e=.returned (.tuple #[.int .u8 0,.slice none 0 0,.int .i64 0])) \/
 (fs l≠0/\∃x:El,x.it=hd1 l/\e=.returned (.tuple #[.int .u8 (x.it.1.toNat:Int),.slice x.ao x.it.2.length x.cap,.int .i64 (fs l:Int)])/\elG x w'/\TyB B w0 x.ao x.cap))
theorem AL(B:Nat)(w0:World)(ao:Option Addr)(n cap:Nat)(l:List UInt8)(w:World)(hr:Rd w 1 ao n cap (byV l))(hn:n<=1000000000)(hlow:TyB B w0 ao cap) :
  Calls Tryz.prog 132 #[.slice ao n cap] w (TI B w0 w l):=by
 refine (uQ ao n cap l w hr hn).mono ?_;rintro e w' ⟨hb,h⟩;refine⟨hb,?_⟩;rcases h with h | ⟨hf,ao2,cap2,he,hg,hl⟩
 ·exact .inl h
 refine .inr ⟨hf,⟨hd1 l,ao2,cap2⟩,rfl,he,hg,fun h0 a ha=>?_⟩;obtain⟨a0,h1,h2⟩:=hl h0 a ha;have h5:=iH l hf;have hle:=lq l;have hlen:=hr.1;rw[aV] at hlen;have hcap:=hr.le;rw[h2];exact hlow (by omega) a0 h1
theorem CV{b:List UInt8}{rs:List It}{xs:List El}{v:Value}(hrs:its b=rs)(hx:came xs=rs.take rs.length)(ho:w1.ownsRow w.heap.size 226 2 v rs.length (itV xs))(ha:allIn B w xs w1)(hb:Below w.heap.size w w1) :
  F7 B w b (.returned (.tuple #[v,.int .i64 ((ip rs rs.length:Nat):Int)])) w1:=by
 subst hrs;obtain⟨ao,cap,rfl,hr⟩:=Rd.of_own ho;refine⟨ao,cap,xs,rfl,by rw[hx,yak (yag _)],hr,ha,hb,fun h0 a hh=>?_⟩;subst hh;rcases ho.2 with ⟨h,_⟩ | ⟨g,c,cur,h,hg,_⟩
 ·cases (ybC h).1
 have:=(ybC h).1;cases this;exact hg
theorem QH(B:Nat)(ao:Option Addr)(n cap:Nat)(b:List UInt8)(w:World)(hrd:Rd w 1 ao n cap (byV b))(hB:B<=w.heap.size)(hty:TyB B w ao cap)(hn:n<=100000000) :
  Calls Tryz.prog 134 #[.slice ao n cap] w (F7 B w b):=by
 have hb:b.length=n:=by have:=hrd.1;rw[aV] at this;omega
 have HB:=Lib.hid hb;have hAt:=Lib.hid (DK b);have hLast:=Lib.hid (yx b);have hlR:=zQ b;rw[hb] at hlR;clear hb;generalize hrs:its b=rs at *;have Hrs:=Lib.hid hrs;clear hrs;go_in;go_wp2_with fail;have ho0:w.ownsRow w.heap.size 226 2 (.slice none 0 0) 0 (itV []):=yaC _ _ _ _;go_loopw [4,5] (fun v p wr=>∃(k:Nat) (xs:List El),k<=rs.length/\p=.int .i64 ((ip rs k:Nat):Int)/\wr.ownsRow w.heap.size 226 2 v k (itV xs)/\Hid (came xs=rs.take k)/\allIn B w xs wr/\Below w.heap.size w wr) (fun _ p _=>n-(intOf p).toNat)
 case atStart=>exact⟨0,[],yam _,by rw[pI];rfl,ho0,rfl,(fun x hx=>by cases hx),yaj _ _⟩
 case round=>
  obtain⟨k,xs,hk,rfl,hown,Hx,hall,hbr⟩:=hrel;have hip:ip rs k<=n:=by
   by_cases hkr:k<rs.length
   ·obtain⟨_,_,h3,h4⟩:=hAt.out k hkr;have:=HB.out;omega
   obtain rfl:k=rs.length:=by omega
   have:=hLast.out.2;have:=HB.out;omega
  have hlow0:0<cap->∀a,ao=some a->a.block<w.heap.size:=hrd.lt;have hrw:=hrd.below hbr hlow0;have hca:cap=0\/∃b1 o1,ao=some ⟨b1,o1,none⟩/\b1<w.heap.size:=by
   by_cases h0:0<cap
   ·obtain⟨b1,o1,h1,h2,_⟩:=hrd.some h0;exact .inr ⟨b1,o1,h1,h2⟩
   exact .inl (by omega)
  by_cases hc:cap=ip rs k
  ·have hn0:n-ip rs k=0:=by have:=hrd.le;omega
   have hd0:b.drop (ip rs k)=[]:=List.drop_eq_nil_of_le (by have:=HB.out;omega);have Hd0:=Lib.hid hd0;clear hd0;subst hc;go_wp2_with fail;refine (AL B w _ _ _ (b.drop (ip rs k)) wr (by rw[Hd0.out];exact⟨rfl,yag _,yam _,(fun _=>rfl),fun h=>absurd h (yaw 0)⟩) (by omega) (fun h=>absurd h (yaw 0))).mono ?_;rintro e w1 ⟨hb1,hc1⟩;have hbc:=hbr.trans (hb1.mono hbr.size);have hall1:=hall.below hB (hb1.mono hbr.size);have hown1:=ag hown hb1;by_cases hkr:k<rs.length
   ·obtain⟨hx,hf,hip1,hle⟩:=hAt.out k hkr;rcases hc1 with ⟨h00,_⟩ | ⟨_,x,hxi,rfl,hg,hlw⟩
    ·exact absurd h00 hf
    have Hxi:=Lib.hid (hx.trans hxi.symm);have Hip:=Lib.hid hip1;have hfp:=iH _ hf;have hle2:ip rs k+fs (b.drop (ip rs k))<=n:=by have:=HB.out;omega
    clear hx hip1 hle hxi;generalize hff:fs (b.drop (ip rs k))=f at *;clear hff;exfalso;have:=hrd.le;omega
   obtain rfl:k=rs.length:=by omega
   rcases hc1 with ⟨_,rfl⟩ | ⟨h00,_⟩
   case inr=>exact absurd hLast.out.1 h00
   have hfin:=CV Hrs.out Hx.out hown1 hall1 hbc;go_wp2;go_ret2;exact hfin
  obtain⟨b1,o1,e1,hlt1⟩:∃b1 o1,ao=some ⟨b1,o1,none⟩/\b1<w.heap.size:=hca.resolve_left (fun h0=>hc (by have:=hrd.le;omega));subst e1;have hc2:¬cap-ip rs k=0:=by have:=hrd.le;omega
  go_wp2_with fail;refine (AL B w _ _ _ (b.drop (ip rs k)) wr (pq hrw hip) (by omega) (fun _ a ha=>by cases ha;exact hty (by have:=hrd.le;omega) ⟨b1,o1,none⟩ rfl)).mono ?_;rintro e w1 ⟨hb1,hc1⟩;have hbc:=hbr.trans (hb1.mono hbr.size);have hall1:=hall.below hB (hb1.mono hbr.size);have hown1:=ag hown hb1;by_cases hkr:k<rs.length
  ·obtain⟨hx,hf,hip1,hle⟩:=hAt.out k hkr;rcases hc1 with ⟨h00,_⟩ | ⟨_,x,hxi,rfl,hg,hlw⟩
   ·exact absurd h00 hf
   have Hxi:=Lib.hid (hx.trans hxi.symm);have Hip:=Lib.hid hip1;have hfp:=iH _ hf;have hle2:ip rs k+fs (b.drop (ip rs k))<=n:=by have:=HB.out;omega
   clear hx hip1 hle hxi;generalize hff:fs (b.drop (ip rs k))=f at *;clear hff;have f1:((f:Int)==0)=false:=by simp;omega
   have hk5:k<=100000000:=by omega
   go_wp2_with (at_builtin;refine fM _ rfl (.tmp 21) (.tmp 25) 222 rfl w.heap.size 226 (.agg #[.int .u8 0,.slice none 0 0]) 2 32 itT (by decide) _ k (itV xs) rfl hown1 1 [.int .u8 (x.it.1.toNat:Int),.slice x.ao x.it.2.length x.cap] rfl rfl (fun u hu=>by simp at hu;rcases hu with rfl|rfl<;>rfl) hbc.size (by omega) ?_;intro ao' cap' w2 ho2 _ hb2 _);go_roundw
   case rel=>exact⟨k+1,xs++[x],by omega,(by rw[Hip.out];go_num),(by rw[Rt];exact ho2),oG Hx.out hkr Hxi.out,(hall1.snoc hg hlw).below hB hb2,hbc.trans hb2⟩
   case measure=>simp[intOf];omega
  obtain rfl:k=rs.length:=by omega
  rcases hc1 with ⟨_,rfl⟩ | ⟨h00,_⟩
  case inr=>exact absurd hLast.out.1 h00
  have hfin:=CV Hrs.out Hx.out hown1 hall1 hbc;go_wp2;go_ret2;exact hfin
def lsV (xs:List El):List Value:=xs.map fun x=>.slice x.ao x.it.2.length x.cap
theorem Aw(a b:List El):lsV (a++b)=lsV a++lsV b:=by simp[lsV]
theorem sO(xs:List El)(k:Nat)(y:El)(h:xs[k]?=some y):(lsV xs)[k]?=some (.slice y.ao y.it.2.length y.cap):=by simp[lsV,h]
theorem PH(xs:List El)(k:Nat)(y:El)(h:xs[k]?=some y):(itV xs)[k*2]?=some (.int .u8 (y.it.1.toNat:Int))/\(itV xs)[k*2+1]?=some (.slice y.ao y.it.2.length y.cap):=by
 induction xs generalizing k with
 | nil=>simp at h
 | cons z xs ih=>
  cases k with
  | zero=>
   rw[ybx,ybN] at h;subst h;exact⟨rfl,rfl⟩
  | succ k=>
   rw[ybd] at h;obtain⟨h1,h2⟩:=ih k h;have e1:(k+1)*2=k*2+2:=by omega
   rw[e1];exact⟨h1,h2⟩
theorem lsT:SliceT Tryz.prog 151 34 (.slice none 0 0) 1 24:=⟨Tryz.underlying151,by kernel_rfl,rfl,by decide⟩
def aK (o:UInt8)(L:List (List UInt8)):List UInt8:=L.flatMap (val o)
theorem oL(o:UInt8)(x:List UInt8)(L:List (List UInt8)):aK o (x::L)=val o x++aK o L:=rfl
theorem qO(o:UInt8)(ho:0<o.toNat):∀L:List (List UInt8),(aK o L).length<=4194304->its (aK o L)=L.map fun b=>(o,b)
 | [],_=>rfl
 | x::L,h=>by
  rw[oL,yab,ae] at h;rw[oL,FX o x _ ho (by omega),qO o ho L (by omega)];rfl
theorem uN(o:UInt8):∀rs:List It,(∀x∈rs,x.1=o)->vals rs=aK o (rs.map (·.2))
 | [],_=>rfl
 | x::rs,h=>by
  rw[qL,ybS,oL,uN o rs (fun y hy=>h y (by simp[hy])),h x (by simp)]
theorem IB(n:Nat):∀l:List UInt8,l.length<=n->∃r,l=vals (its l)++r:=by
 induction n with
 | zero=>
  intro l hl;have:l=[]:=yat (by omega);subst this;exact⟨[],rfl⟩
 | succ n ih=>
  intro l hl;by_cases h:fs l=0
  ·exact⟨l,by rw[Dt l h];rfl⟩
  have h5:=iH l h;have hle:=lq l;obtain⟨r,hr⟩:=ih (l.drop (fs l)) (by rw[yaM];omega);have h1:=(Aq l h).1;refine⟨r,?_⟩;rw[xW l h,qL,yav,<-hr];exact h1
theorem KF(n:Nat):∀l:List UInt8,l.length<=n->∀y∈its l,y.2.length<=4194304:=by
 induction n with
 | zero=>
  intro l hl y hy;have:l=[]:=yat (by omega);subst this;cases hy
 | succ n ih=>
  intro l hl y hy;by_cases h:fs l=0
  ·rw[Dt l h] at hy;cases hy
  have h5:=iH l h;have hle:=lq l;rw[xW l h] at hy;rcases yas.1 hy with rfl | hy
  ·exact (Aq l h).2.2
  exact ih (l.drop (fs l)) (by rw[yaM];omega) y hy
theorem Ic(l:List UInt8)(h:ip (its l) (its l).length=l.length):l=vals (its l):=by
 obtain⟨r,hr⟩:=IB l.length l (yag _);have h1:=congrArg List.length hr;rw[yab,<-Dz,h] at h1;have:r=[]:=yat (by omega);rw[this,yaD] at hr;exact hr
theorem NY{o:UInt8}(ho:0<o.toNat)(h:(∃y∈its x,y.1≠o)\/ip (its x) (its x).length≠x.length)(L:List (List UInt8))(hl:(aK o L).length<=4194304):aK o L≠x:=by
 intro e;have h1:=qO o ho L hl;rw[e] at h1;rcases h with ⟨y,hy,hne⟩ | h
 ·rw[h1,ybM] at hy;obtain⟨b,_,rfl⟩:=hy;exact hne rfl
 refine h ?_;have h2:=uN o (its x) (by rw[h1];intro y hy;rw[ybM] at hy;obtain⟨b,_,rfl⟩:=hy;rfl);rw[Dz,h2,h1,List.map_map];rw[show ((fun x:It=>x.2)∘fun b=>(o,b))=id from rfl,List.map_id,e]
theorem RN{n size:Nat}{e:TypeId}{xs:List Value}(h:W.ownsRow B e size (.slice ao n cap) n xs):∀a,ao=some a->B<=a.block:=by
 intro a ha;subst ha;rcases h.2 with ⟨h,_⟩ | ⟨g,c,cur,h,hg,_⟩
 ·cases h
 cases h;exact hg
def QZ (B g:Nat)(t o:UInt8)(s:RS)(W:World)(e:Ending)(w':World):Prop:=∃ao cap xs s',e=.returned (.slice ao xs.length cap)/\Rd w' 1 ao xs.length cap (lsV xs)/\allIn B w' xs w'/\(∀a,ao=some a->W.heap.size<=a.block)/\xs.length<=100000000/\((∀x∈xs,x.it.2.length<=4194304)/\(aK o (xs.map fun x=>x.it.2)).length<=4194304)/\RfS B g s' w'/\W.grownBy w' (some g) /\
 Took (fun L=>val t (aK o L)) (fun L=>(aK o L).length<=4194304) (fun L=>(aK o L).length<=4194304) s (xs.map fun x=>x.it.2) s'
theorem allIn.self{xs:List El}(h:allIn B w xs W)(hb:Below w.heap.size w W):allIn B W xs W:=fun x hx=>⟨(h x hx).1,(h x hx).2.later hb⟩
theorem LH{s1:RS}{o:UInt8}{xs:List El}(T:Took (val t) (fun z=>z.length<=4194304) (fun z=>z.length<=4194304) s x s1)(ht:0<t.toNat)(ho:0<o.toNat)(hc:came xs=its x) :
  (s1.bad=false->(∀y∈its x,y.1=o)->ip (its x) (its x).length=x.length->Took (fun L=>val t (aK o L)) (fun L=>(aK o L).length<=4194304) (fun L=>(aK o L).length<=4194304) s (xs.map fun x=>x.it.2) s1) /\
  (s1.bad=true\/(∃y∈its x,y.1≠o)\/ip (its x) (its x).length≠x.length->Took (fun L=>val t (aK o L)) (fun L=>(aK o L).length<=4194304) (fun L=>(aK o L).length<=4194304) s [] ⟨s1.l,true⟩):=by
 constructor
 ·intro hb h1 h2;have hx:x=aK o (xs.map fun x=>x.it.2):=by
   have h3:=Ic x h2;rw[uN o (its x) h1,<-hc] at h3;rw[h3];unfold came;rw[List.map_map];rfl
  refine⟨fun _=>?_,fun h=>(by rw[hb] at h;cases h),T.le⟩;obtain⟨e1,e2,e3⟩:=T.yes hb;rw[<-hx];exact⟨e1,e2,e3⟩
 intro h;refine⟨fun hb=>(by cases hb),fun _=>?_,T.le⟩;cases hb:s1.bad with
 | true=>exact (T.no hb).imp id (fun h L r hL=>h _ r hL)
 | false=>
  obtain⟨e1,e2,e3⟩:=T.yes hb;refine .inr fun L r hL e=>?_;rw[e2] at e;have hx:=(az ht e3 hL e).1;rcases h with h | h
  ·rw[hb] at h;cases h
  exact NY ho h L hL hx.symm
theorem oM(B g:Nat)(s:RS)(t o:UInt8)(W:World)(ht:0<t.toNat)(ho:0<o.toNat)(hr:RfS B g s W)(hl:s.l.length<=100000000):Calls Tryz.prog 94 #[.pointer (some ⟨g,0,none⟩),.int .u8 (t.toNat:Int),.int .u8 (o.toNat:Int)] W (QZ B g t o s W):=by
 have hgs:=hr.lt;have hc:=gB B g s t W hr hl;have T:=bC s t ht;have hxl:(s.bytes t).1.length<=4194304:=by
  unfold RS.bytes;cases h:s.take t with
  | mk ox s'=>
   cases ox with
   | none=>simp
   | some x=>exact (dW h).2.2.2.1
 unfold gJ at hc;generalize s.bytes t=r at *;obtain⟨x,s1⟩:=r;dsimp only at hc T hxl;have HTt:=Lib.hid ht;have HTo:=Lib.hid ho;clear ht ho hr;go_in;go_wp2_with fail;refine hc.mono ?_;rintro e W1 ⟨hr1,hg1,ao1,cap1,rfl,hrd1,hty1⟩;go_wp2_with fail;have hBW:B<=W1.heap.size:=yae hr1.le (yaZ hr1.lt);refine (QH B ao1 x.length cap1 x W1 hrd1 hBW hty1 (by omega)).mono ?_;rintro e W2 ⟨ao2,cap2,xs,rfl,hcame,hrd2,hall2,hb2,hfr2⟩;have hTL:=LH (o:=o) T HTt.out HTo.out hcame;have hipl:=(yx x).2;have hlR:=zQ x;have hxn:xs.length=(its x).length:=by rw[<-hcame];simp[came]
 have hsm:=KF x.length x (yag _);generalize hrs:its x=rs at *;have Hsm:=Lib.hid hsm;clear hsm;have Hcame:=Lib.hid hcame;have HTL:=Lib.hid hTL;clear hcame hTL T hrs;have hz1:=hg1.size;have hz2:=hb2.size;have hr2:=hr1.later hb2;have hg2:W.grownBy W2 (some g):=bi hg1 (gU hb2 _);have ho0:W2.ownsRow W2.heap.size 34 1 (.slice none 0 0) 0 (lsV []):=yaC _ _ _ _;have i64:IntKind.i64.wrap (1:Int)=1:=rfl;go_wp2_with fail;go_loopw [10,11] (fun v p wr=>∃k:Nat,k<=rs.length/\p=.int .i64 (k:Int)/\wr.ownsRow W2.heap.size 34 1 v k (lsV (xs.take k))/\Below W2.heap.size W2 wr/\Hid (∀y∈rs.take k,y.1=o)) (fun _ p _=>rs.length-(intOf p).toNat)
 case atStart=>exact⟨0,yam _,rfl,ho0,yaj _ _,Lib.hid (fun y hy=>by simp at hy)⟩
 case round=>
  obtain⟨k,hk,rfl,own,hbr,Hall⟩:=hrel;have hr3:=hr2.later hbr;have hg3:W.grownBy wr (some g):=bi hg2 (gU hbr _);by_cases hkn:k<rs.length
  ·obtain⟨b1,o1,rfl,hl1,hc1⟩:=hrd2.some (by have:=hrd2.le;omega);obtain⟨u,hue⟩:∃u,xs[k]?=some u:=⟨_,yac (by omega)⟩
   obtain⟨v1,v2⟩:=PH xs k u hue;have c1:=(hbr.cell (p:=⟨b1,o1+k*2,none⟩) hl1).trans (hc1 (k*2) _ v1);have c2:wr.cell? ⟨b1,o1+k*2+1,none⟩=_:=(hbr.cell (p:=⟨b1,o1+(k*2+1),none⟩) hl1).trans (hc1 (k*2+1) _ v2);have hru:rs[k]?=some u.it:=by rw[<-Hcame.out];simp[came,hue]
   have i0:(0:Int)<=(k:Int):=by omega
   have i1:(k:Int)<(rs.length:Int):=by omega
   obtain⟨ao3,cap3,h3⟩:=hr3;obtain⟨d0,d1,z0,z1⟩:=gz h3;have Hru:=Lib.hid hru;have Hue:=Lib.hid hue;clear hc1 v1 v2 hru hue;by_cases hto:u.it.1=o
   ·have f0:(((u.it.1.toNat:Int)) != (o.toNat:Int))=false:=by rw[hto];simp
    have z0:=hbr.size;go_wp2_with (at_builtin;refine fM _ rfl (.tmp 36) (.tmp 42) 151 rfl W2.heap.size 34 (.slice none 0 0) 1 24 lsT (by decide) _ k (lsV (xs.take k)) rfl own 1 [.slice u.ao u.it.2.length u.cap] rfl rfl (one1 _ rfl) z0 (by omega) ?_;intro ao' cap' w2 ho2 _ hb3 _);go_roundw
    case rel=>
     refine⟨k+1,by omega,by go_num,?_,hbr.trans hb3,Lib.hid (fun y hy=>?_)⟩
     ·have e:xs.take (k+1)=xs.take k++[u]:=by rw[yaE,Hue.out];rfl
      rw[e,Aw];exact ho2
     have e:rs.take (k+1)=rs.take k++[u.it]:=by rw[yaE,Hru.out];rfl
     rw[e,yaQ,yah] at hy;rcases hy with hy | rfl
     ·exact Hall.out y hy
     exact hto
    case measure=>simp[intOf];omega
   have f0:(((u.it.1.toNat:Int)) != (o.toNat:Int))=true:=by
    rw[bne_iff_ne];intro e;exact hto (ybw.1 (by omega))
   have hT:=HTL.out.2 (.inr (.inl ⟨u.it,yan Hru.out,hto⟩));have hF:=h3.fail;go_wp2_with fail;go_ret;exact⟨none,0,[],⟨s1.l,true⟩,rfl,Rd.nil _ _,(fun x hx=>by cases hx),(fun a ha=>by cases ha),yam _,⟨(fun x hx=>by cases hx),yam _⟩,⟨_,_,hF⟩,bi hg3 (ak _ _ _ _),hT⟩
  obtain rfl:k=rs.length:=by omega
  obtain⟨ao3,cap3,h3⟩:=hr3;obtain⟨d0,d1,z0,z1⟩:=gz h3;rw[yak (yag _)] at Hall;rw[yak (by omega)] at own;have hF:=h3.fail;cases hs1:s1.bad with
  | true=>
   have hT:=HTL.out.2 (.inl hs1);rw[hs1] at d1;clear hs1;go_wp2_with fail;go_ret;exact⟨none,0,[],⟨s1.l,true⟩,rfl,Rd.nil _ _,(fun x hx=>by cases hx),(fun a ha=>by cases ha),yam _,⟨(fun x hx=>by cases hx),yam _⟩,⟨_,_,hF⟩,bi hg3 (ak _ _ _ _),hT⟩
  | false=>
   rw[hs1] at d1;by_cases hip:ip rs rs.length=x.length
   ·have hT:=HTL.out.1 hs1 Hall.out hip;have f0:(((ip rs rs.length:Nat):Int) != (x.length:Int))=false:=by rw[hip];simp
    obtain⟨ao4,cap4,rfl,hrd4⟩:=Rd.of_own own;have hfr:=RN own;have HB1:Hid ((aK o (xs.map fun x=>x.it.2)).length<=4194304):=Lib.hid (hT.yes hs1).2.2;clear hs1 hip;go_wp2_with fail;go_ret;rw[<-hxn] at hrd4 ⊢;exact⟨ao4,cap4,xs,s1,rfl,hrd4,(hall2.below hBW (hbr.mono hb2.size)).self (hb2.trans (hbr.mono hb2.size)),fun a ha=>yae (yae hz1 hz2) (hfr a ha),by omega,⟨fun y hy=>Hsm.out y.it (by rw[<-Hcame.out];exact List.mem_map_of_mem hy),HB1.out⟩,⟨_,_,h3⟩,hg3,hT⟩
   have hT:=HTL.out.2 (.inr (.inr hip));have f0:(((ip rs rs.length:Nat):Int) != (x.length:Int))=true:=by rw[bne_iff_ne];omega
   clear hs1 hip;go_wp2_with fail;go_ret;exact⟨none,0,[],⟨s1.l,true⟩,rfl,Rd.nil _ _,(fun x hx=>by cases hx),(fun a ha=>by cases ha),yam _,⟨(fun x hx=>by cases hx),yam _⟩,⟨_,_,hF⟩,bi hg3 (ak _ _ _ _),hT⟩
end Tlv
namespace Msg
open Go.RowKit Go.Lib Mem Tlv
variable{L:List (List UInt8)}{W W':World}{c c':QC}{s:RS}{v v':QV}
theorem kz(ys:List (ByteArray×ByteArray)):aI ys=aK 3 (ys.map iD):=by
 unfold aI aK;rw[List.flatMap_map];rfl
theorem vP{o:UInt8}(ho:0<o.toNat){M:List (List UInt8)}(hL:(aK o L).length<=4194304)(h:aK o L=aK o M):L=M:=by
 have h1:=qO o ho L hL;have h2:=qO o ho M (by rw[<-h];exact hL);rw[h,h2] at h1;have h3:=congrArg (List.map Prod.snd) h1;rw[List.map_map,List.map_map,show (Prod.snd∘fun b:List UInt8=>(o,b))=id from rfl,List.map_id,List.map_id] at h3;exact h3.symm
theorem Pj(e:List UInt8):((RS.bytes (RS.bytes ⟨e,false⟩ 1).2 2).2.bad=false/\(RS.bytes (RS.bytes ⟨e,false⟩ 1).2 2).2.l=[]->e=iD (⟨(RS.bytes ⟨e,false⟩ 1).1.toArray⟩,⟨(RS.bytes (RS.bytes ⟨e,false⟩ 1).2 2).1.toArray⟩)) /\
  (¬((RS.bytes (RS.bytes ⟨e,false⟩ 1).2 2).2.bad=false/\(RS.bytes (RS.bytes ⟨e,false⟩ 1).2 2).2.l=[])->DZ e):=by
 have T1:=bC ⟨e,false⟩ 1 (by decide);have T2:=bC (RS.bytes ⟨e,false⟩ 1).2 2 (by decide);generalize RS.bytes ⟨e,false⟩ 1=r1 at *;obtain⟨y1,s1⟩:=r1;dsimp only at *;generalize s1.bytes 2=r2 at *;obtain⟨y2,s2⟩:=r2;dsimp only at *;constructor
 ·rintro⟨h1,h2⟩;obtain⟨e1,e2,e3⟩:=T2.yes h1;obtain⟨_,f2,f3⟩:=T1.yes e1;rw[h2,yaD] at e2;dsimp only at f2;rw[f2,e2];rfl
 intro h u hu ee;subst ee;rw[mi] at hu;cases hb1:s1.bad with
 | true=>
  rcases T1.no hb1 with h | h
  ·cases h
  exact h u.1.data.toList (val 2 u.2.data.toList) (by omega) rfl
 | false=>
  obtain⟨_,f2,f3⟩:=T1.yes hb1;dsimp only at f2;unfold iD at f2;obtain⟨_,f4⟩:=az (t:=1) (by decide) (by omega) f3 f2;cases hb2:s2.bad with
  | true=>
   rcases T2.no hb2 with h | h
   ·rw[hb1] at h;cases h
   exact h u.2.data.toList [] (by omega) (by rw[yaD];exact f4.symm)
  | false=>
   obtain⟨_,g2,g3⟩:=T2.yes hb2;rw[<-f4] at g2;have:=(az (t:=2) (a:=u.2.data.toList) (b:=y2) (r:=[]) (r':=s2.l) (by decide) (by omega) g3 (by rw[yaD];exact g2)).2;exact h ⟨hb2,this.symm⟩
def QB (B g:Nat)(t:UInt8)(s:RS)(W:World)(e:Ending)(w':World):Prop:=∃ao n cap xs s',e=.returned (.slice ao n cap)/\Rd w' 2 ao n cap (atV xs)/\n<=100000000/\TyX 106 w' ao cap/\RfS B g s' w'/\W.grownBy w' (some g) /\
 Took (fun ys=>val t (aI ys)) (fun ys=>ys.length<=50/\(aI ys).length<=4194304) (fun ys=>(aI ys).length<=4194304) s xs s'
theorem Kr{s1:RS}{t:UInt8}(T:Took (fun L=>val t (aK 3 L)) (fun L=>(aK 3 L).length<=4194304) (fun L=>(aK 3 L).length<=4194304) s L s1)(ht:0<t.toNat) :
  (∀ys,ys.map iD=L->Took (fun ys=>val t (aI ys)) (fun ys=>ys.length<=50/\(aI ys).length<=4194304) (fun ys=>(aI ys).length<=4194304) s ys s1) /\
  ((∃e∈L,DZ e)->Took (fun ys=>val t (aI ys)) (fun ys=>ys.length<=50/\(aI ys).length<=4194304) (fun ys=>(aI ys).length<=4194304) s [] ⟨s1.l,true⟩):=by
 constructor
 ·intro ys hy;refine⟨fun hb=>?_,fun hb=>(T.no hb).imp id (fun h zs r hz=>?_),T.le⟩
  ·rw[kz,hy];exact T.yes hb
  rw[kz];exact h _ r (by rw[<-kz];exact hz.2)
 rintro⟨e,he,hno⟩;refine⟨fun hb=>(by cases hb),fun _=>?_,T.le⟩;cases hb:s1.bad with
 | true=>
  refine (T.no hb).imp id (fun h zs r hz=>?_);rw[kz];exact h _ r (by rw[<-kz];exact hz.2)
 | false=>
  obtain⟨h1,h2,h3⟩:=T.yes hb;refine .inr fun zs r hz ee=>?_;rw[h2,kz] at ee;have h4:=(az ht h3 (by rw[<-kz];exact hz.2) ee).1;have h5:=vP (by decide) h3 h4;rw[h5,ybM] at he;obtain⟨u,hu,rfl⟩:=he;refine hno u ?_ rfl;have h6:∀(zs:List (ByteArray×ByteArray)),u∈zs->(iD u).length<=(aI zs).length:=by
   intro zs;induction zs with
   | nil=>intro h;cases h
   | cons z zs ih=>
    intro h;rw[dY,yab,ae];rcases yas.1 h with rfl | h
    ·unfold iD;omega
    have:=ih h;omega
  have:=h6 zs hu;have:=hz.2;omega
theorem oz{B:Nat}{w:World}{l:List UInt8}{ao:Option Addr}{cap:Nat}(hr:Rd w 1 ao l.length cap (byV l))(hB:B<=w.heap.size)(ht:TyB B w ao cap):RfS B w.heap.size ⟨l,false⟩ (w.alloc (.cells #[.slice ao l.length cap,.bool false] 119)):=by
 have hb:=bN w (.cells #[.slice ao l.length cap,.bool false] 119);exact⟨ao,cap,aN _ _,hB,hr.later hb,ht.later hb⟩
theorem sH(B g:Nat)(s:RS)(t:UInt8)(W:World)(ht:0<t.toNat)(hr:RfS B g s W)(hl:s.l.length<=100000000) :
  Calls Tryz.prog 160 #[.pointer (some ⟨g,0,none⟩),.int .u8 (t.toNat:Int)] W (QB B g t s W):=by
 have hgs:=hr.lt;have hc:=oM B g s t 3 W ht (by decide) hr hl;have HT:=hid ht;clear ht hr;go_in;go_wp2_with fail;refine hc.mono ?_;rintro e W1 ⟨ao1,cap1,els,s1,rfl,hrd1,hall1,hfr1,hn1,⟨hel,-⟩,hr1,hg1,T⟩;have hTA:=hid (Kr T HT.out);have Hel:=hid hel;have Hall1:=hid hall1;have hz1:=hg1.size;clear T hel hall1;have ho0:W1.ownsRow W1.heap.size 106 2 (.slice none 0 0) 0 (atV []):=yaC _ _ _ _;go_wp2_with fail;go_loopw [6,7] (fun v p wr=>∃(k:Nat) (ys:List (ByteArray×ByteArray)),k<=els.length/\p=.int .i64 (k:Int)/\wr.ownsRow W1.heap.size 106 2 v k (atV ys)/\Below W1.heap.size W1 wr/\Hid (ys.length=k/\ys.map iD=(els.map fun x=>x.it.2).take k)) (fun _ p _=>els.length-(intOf p).toNat)
 case atStart=>exact⟨0,[],yam _,rfl,ho0,yaj _ _,hid ⟨rfl,rfl⟩⟩
 case round=>
  obtain⟨k,ys,hk,rfl,own,hbr,Hys⟩:=hrel;have hr2:=hr1.later hbr;have hg2:W.grownBy wr (some g):=bi hg1 (gU hbr _);by_cases hkn:k<els.length
  ·obtain⟨b1,o1,rfl,hl1,hc1⟩:=hrd1.some (by have:=hrd1.le;omega);obtain⟨u,hue⟩:∃u,els[k]?=some u:=⟨_,yac hkn⟩
   have c1:=(hbr.cell (p:=⟨b1,o1+k,none⟩) hl1).trans (hc1 k _ (sO els k u hue));have c2:wr.cell? ⟨b1,o1+k*1,none⟩=some (.slice u.ao u.it.2.length u.cap):=by rw[ycf];exact c1
   have hum:=yan hue;have hul:=Hel.out u hum;obtain⟨hu1,hu2⟩:=Hall1.out u hum;have hu3:Rd wr 1 u.ao u.it.2.length u.cap (byV u.it.2):=hu1.later hbr;have hu4:TyB B wr u.ao u.cap:=hu2.later hbr;have hBwr:B<=wr.heap.size:=yae hr2.le (yaZ hr2.lt);have i0:(0:Int)<=(k:Int):=by omega
   have i1:(k:Int)<(els.length:Int):=by omega
   have hX:=oz hu3 hBwr hu4;have hbX:=bN wr (.cells #[.slice u.ao u.it.2.length u.cap,.bool false] 119);have Hue:=hid hue;have hAR:=hid (Pj u.it.2);clear hc1 hue hum hu1 hu2 hu3 hu4;obtain⟨eb,hub⟩:∃eb,u.it.2=eb:=⟨_,rfl⟩
   have Hub:=hid hub;rw[hub] at hX hbX hAR hul c1 c2;clear hub;have hB1:=RS.bytes ⟨eb,false⟩ 1;have hT1:=(bC ⟨eb,false⟩ 1 (by decide)).le;have hc1:=fun W0 h0=>ni B wr.heap.size ⟨eb,false⟩ 1 W0 h0 (by dsimp only;omega);clear hB1;generalize RS.bytes ⟨eb,false⟩ 1=r1 at *;obtain⟨y1,e1⟩:=r1;dsimp only at hT1 hc1 hAR;have hc2:=fun W0 h0=>ni B wr.heap.size e1 2 W0 h0 (by omega);have hT2:=(bC e1 2 (by decide)).le;generalize RS.bytes e1 2=r2 at *;obtain⟨y2,e2⟩:=r2;dsimp only at hT2 hc2 hAR;go_upto_region 7 with fail;generalize hg:wr.alloc _=W3 at *;have hzA:W3.heap.size=wr.heap.size+1:=by rw[<-hg];simp
   clear hg;go_upto_region 8 with (refine zNr rfl ?_;go_simp);generalize hg:W3.alloc _=W4;have hbA:=bE hg
   have kA:W4.heap[W3.heap.size]?=some (bU (⟨#[]⟩,⟨#[]⟩)):=aE hg
   have hX4:=hX.later hbA;have hb4:Below wr.heap.size wr W4:=hbX.trans (hbA.mono (by omega));rw[hzA] at kA;clear hg hbA hX hbX;go_wp2_with fail;refine (hc1 W4 hX4).mono ?_;rintro e W5 ⟨rfl,hX5,hg5⟩;have kA5:W5.heap[wr.heap.size+1]?=some (bU (⟨#[]⟩,⟨#[]⟩)):=(hg5.block _ (lA kA) (fun e=>by have:=yaf e;omega)).trans kA;have hb5:Below wr.heap.size wr W5:=hb4.trans (below_of_grown hg5 (yag _) hX4.lt);obtain⟨g0,g1⟩:=nG kA5;have g2:∀i,W5.frozen? ⟨wr.heap.size+1,i,none⟩=false:=fun i=>by simp[World.frozen?,kA5,bU]
   have kA6:(W5.setCell ⟨wr.heap.size+1,0,none⟩ (.string ⟨y1.toArray⟩)).heap[wr.heap.size+1]?=some (bU (⟨y1.toArray⟩,⟨#[]⟩)):=at_set kA5;have hX6:=hX5.grown (ak W5 (wr.heap.size+1) 0 (.string ⟨y1.toArray⟩)) kA5 (fun c fr h=>by cases h) (by omega) (by omega);have hb6:Below wr.heap.size wr (W5.setCell ⟨wr.heap.size+1,0,none⟩ (.string ⟨y1.toArray⟩)):=hb5.setCell (p:=⟨wr.heap.size+1,0,none⟩) (by show wr.heap.size<=wr.heap.size+1;omega) _;clear hc1 hX4 hb4 kA hX5 hg5 hb5;go_upto_region 9 with fail;generalize W5.setCell _ _=W6 at *;clear kA5 g0 g1 g2;go_wp2_with fail;refine (hc2 W6 hX6).mono ?_;rintro e W7 ⟨rfl,hX7,hg7⟩;have kA7:W7.heap[wr.heap.size+1]?=some (bU (⟨y1.toArray⟩,⟨#[]⟩)):=(hg7.block _ (lA kA6) (fun e=>by have:=yaf e;omega)).trans kA6;have hb7:Below wr.heap.size wr W7:=hb6.trans (below_of_grown hg7 (yag _) hX6.lt);obtain⟨g0,g1⟩:=nG kA7;have g2:∀i,W7.frozen? ⟨wr.heap.size+1,i,none⟩=false:=fun i=>by simp[World.frozen?,kA7,bU]
   have kA8:(W7.setCell ⟨wr.heap.size+1,1,none⟩ (.string ⟨y2.toArray⟩)).heap[wr.heap.size+1]?=some (bU (⟨y1.toArray⟩,⟨y2.toArray⟩)):=at_set kA7;have hX8:=hX7.grown (ak W7 (wr.heap.size+1) 1 (.string ⟨y2.toArray⟩)) kA7 (fun c fr h=>by cases h) (by omega) (by omega);have hb8:Below wr.heap.size wr (W7.setCell ⟨wr.heap.size+1,1,none⟩ (.string ⟨y2.toArray⟩)):=hb7.setCell (p:=⟨wr.heap.size+1,1,none⟩) (by show wr.heap.size<=wr.heap.size+1;omega) _;clear hc2 hX6 hb6 kA6 hX7 hg7 hb7;go_upto_region 10 with fail;generalize W7.setCell _ _=W8 at *;clear kA7 g0 g1 g2;have own8:=ag own hb8;have hr8:=hr2.later hb8;have hg8:W.grownBy W8 (some g):=bi hg2 (gU hb8 _);have hbr8:=hbr.trans (hb8.mono hbr.size);go_wp2_with fail;refine (kZ _ _ e2 W8 hX8).mono ?_;rintro e W9 ⟨rfl,rfl⟩;by_cases hdone:e2.bad=false/\e2.l=[]
   ·have hy:=hAR.out.1 hdone;have f0:decide (e2.bad=false/\e2.l=[])=true:=yaa hdone;obtain⟨g0,g1⟩:=nG kA8;have hz8:=hbr8.size;have Hy:=hid hy;clear hy hdone;go_wp2_with (at_builtin;refine fM _ rfl (.tmp 38) (.tmp 40) 32 rfl W1.heap.size 106 (.agg #[.string ⟨#[]⟩,.string ⟨#[]⟩]) 2 32 oP (by decide) _ k (atV ys) rfl own8 1 [.string ⟨y1.toArray⟩,.string ⟨y2.toArray⟩] rfl rfl (fun x hx=>by simp at hx;rcases hx with rfl|rfl<;>rfl) hz8 (by omega) ?_;intro ao' cap' w2 ho2 _ hb3 _);go_roundw
    case rel=>
     refine⟨k+1,ys++[(⟨y1.toArray⟩,⟨y2.toArray⟩)],by omega,by go_num,?_,hbr8.trans hb3,hid ⟨by rw[yab,Hys.out.1];rfl,?_⟩⟩
     ·rw[yu];exact ho2
     rw[yaE,List.map_append,Hys.out.2,ybh,Hue.out];simp only[ybS,List.map_nil,Option.map_some,ybu];rw[<-Hy.out,Hub.out]
    case measure=>simp[intOf];omega
   have hno:=hAR.out.2 hdone;have f0:decide (e2.bad=false/\e2.l=[])=false:=yad hdone;obtain⟨ao9,cap9,h9⟩:=hr8;obtain⟨d0,d1,z0,z1⟩:=gz h9;have hT:=hTA.out.2 ⟨eb,ybM.2 ⟨u,yan Hue.out,Hub.out⟩,hno⟩;have hF:=h9.fail;clear hno hdone;go_wp2_with fail;go_ret;exact⟨none,0,0,[],⟨s1.l,true⟩,rfl,Rd.nil _ _,yam _,(fun h=>absurd h (yaw 0)),⟨_,_,hF⟩,bi hg8 (ak _ _ _ _),hT⟩
  obtain rfl:k=els.length:=by omega
  obtain⟨hy1,hy2⟩:=Hys.out;rw[yak (by rw[ybl];omega)] at hy2;have hT:=hTA.out.1 ys hy2;obtain⟨ao4,cap4,rfl,hrd4⟩:=Rd.of_own own;have hty:=TyX.of_own own;clear hy2;go_wp2_with fail;go_ret;exact⟨ao4,els.length,cap4,ys,s1,rfl,hrd4,hn1,hty,hr2,hg2,hT⟩
theorem BR{v v':EV}{x x':List (ByteArray×ByteArray)}(h:bZ v x v' x'=true):aB v x=aB v' x'/\eX v x=eX v' x':=by
 unfold bZ at h;simp only[yaq,yaG] at h;obtain⟨h1,rfl⟩:=h;unfold aB eX;rw[h1];exact⟨rfl,rfl⟩
theorem vC:∀ {l m:List EP},aP l m=true->(l.any fun u=>!aB u.1 u.2)=(m.any fun u=>!aB u.1 u.2)/\dH l=dH m
 | [],[],_=>⟨rfl,rfl⟩
 | [],_::_,h=>by simp[aP] at h
 | _::_,[],h=>by simp[aP] at h
 | p::l,q::m,h=>by
  unfold aP at h;simp only[yaq] at h;obtain⟨h1,h2⟩:=h;obtain⟨a1,a2⟩:=BR h1;obtain⟨b1,b2⟩:=vC h2;rw[List.any_cons,List.any_cons,a1,b1,iU,iU,a2,b2];exact⟨rfl,rfl⟩
theorem Aa{l m:List EP}(h:aP l m=true):aP l []=aP m []:=by
 have:=kQ h;cases l with
 | nil=>cases m with
  | nil=>rfl
  | cons q m=>simp at this
 | cons p l=>cases m with
  | nil=>simp at this
  | cons q m=>rfl
theorem xB(h:QAt W v c)(h':QAt W' v' c')(hs:aF v c v' c'=true):bz v c=bz v' c':=by
 have lx:=h.e.len;have lx':=h'.e.len;have lc:c.cursor.length=v.cn:=by have:=h.c.1;rw[aV] at this;omega
 have lc':c'.cursor.length=v'.cn:=by have:=h'.c.1;rw[aV] at this;omega
 unfold aF at hs;simp only[yaq,yaG] at hs;obtain⟨h1,h2,h3,h4⟩:=hs;obtain⟨a1,a2⟩:=vC h3;have e1:v.en=v'.en:=by have:=kQ h3;omega
 have e2:v.cn=v'.cn:=by rw[<-lc,<-lc',h4]
 unfold bz aF lF;dsimp only;rw[h1,h2,e1,e2,a1,a2,h4,Aa h3]
theorem QL(h:QAt W v c)(h':QAt W' v' c')(hm:bz v c=true)(hm':bz v' c'=true)(e:dM v c=dM v' c'):aF v c v' c'=true:=by
 have F:=FitQ.of h hm;have F':=FitQ.of h' hm';have lc:c.cursor.length=v.cn:=by have:=h.c.1;rw[aV] at this;omega
 have lc':c'.cursor.length=v'.cn:=by have:=h'.c.1;rw[aV] at this;omega
 have a0:=F.c0;have a1:=F.c14;have a2:=F.len;have a3:=F.cn;have b0:=F'.c0;have b1:=F'.c14;have b2:=F'.len;have b3:=F'.cn;unfold dM at e;obtain⟨h1,e⟩:=az (by decide) (by rw[ai];omega) (by rw[ai];omega) e;obtain⟨h2,e⟩:=az (by decide) (by simp) (by simp) e;obtain⟨h3,e⟩:=az (by decide) (by omega) (by omega) e;obtain⟨h4,-⟩:=az (by decide) (by omega) (by omega) e;have e1:=iM (by omega) (by omega) h1;have e2:v.yes=v'.yes:=by
  cases hy:v.yes<;>cases hy':v'.yes<;>rw[hy,hy'] at h2<;>first | rfl | (simp at h2)
 have e3:=uh _ _ F.all F'.all h3;unfold aF;rw[yaa (show v.code=v'.code by omega),yaa e2,e3,yaa h4];rfl
def uI (b:List UInt8):Prop:=∀W v c,QAt W v c->bz v c=true->dM v c≠b
theorem Dx{α β:Type}{body:α->List UInt8}{may good:α->Prop}{body':β->List UInt8}{may' good':β->Prop}{f:α->β}{s':RS}{y:α}(h:Took body may good s y s')(hb:∀z,body z=body' (f z))(hm:∀Y,may' Y->∃z,may z/\f z=Y)(hg:∀z,good z->good' (f z)):Took body' may' good' s (f y) s':=
 ⟨fun h1=>by obtain⟨a,b,c⟩:=h.yes h1;exact⟨a,by rw[<-hb];exact b,hg _ c⟩,fun h1=>(h.no h1).imp id (fun k Y r hY=>by obtain⟨z,hz,rfl⟩:=hm Y hY;rw[<-hb];exact k z r hz),h.le⟩
def Dq (Y:List UInt8):Prop:=∃l:List EP,Y=dH l/\(∀p∈l,aB p.1 p.2=true)/\l.length<=1000/\(dH l).length<=4194304
section
variable {b cur Y:List UInt8} {s1 s2 s3 s4:RS} {n1:Nat} {y2:Bool}
 (T1:Took (fun n:Nat=>val 1 (au n)) (fun n=>n<=14) (fun n=>n<18446744073709551616) ⟨b,false⟩ n1 s1)
 (T2:Took (fun y:Bool=>val 2 [if y then 1 else 0]) (fun _=>True) (fun _=>True) s1 y2 s2)
 (T3:Took (val 3) Dq (fun z=>z.length<=4194304) s2 Y s3)
 (T4:Took (val 4) (fun z=>z.length<=4194304) (fun z=>z.length<=4194304) s3 cur s4)
include T1 T2 T3 T4
theorem qE(h:(s4.bad=true\/0<s4.l.length)\/∀W v c,QAt W v c->bz v c=true->v.code=(n1:Int)->v.yes=y2->dH c.ents=Y->c.cursor=cur->False):uI b:=by
 intro W v c ho hm e;have F:=FitQ.of ho hm;have lx:=ho.e.len;have lc:c.cursor.length=v.cn:=by have:=ho.c.1;rw[aV] at this;omega
 have a0:=F.c0;have a1:=F.c14;have a2:=F.len;have a3:=F.cn;unfold dM at e;cases h1:s1.bad with
 | true=>
  rcases T1.no h1 with h | h
  ·cases h
  exact h v.code.toNat _ (by omega) e.symm
 | false=>
  obtain⟨-,e1,g1⟩:=T1.yes h1;dsimp only at e1;rw[e1] at e;obtain⟨k1,e⟩:=az (by decide) (by rw[ai];omega) (by rw[ai];omega) e;cases h2:s2.bad with
  | true=>
   rcases T2.no h2 with h | h
   ·rw[h1] at h;cases h
   exact h v.yes _ trivial e.symm
  | false=>
   obtain⟨-,e2,g2⟩:=T2.yes h2;rw[e2] at e;obtain⟨k2,e⟩:=az (by decide) (by simp) (by simp) e;cases h3:s3.bad with
   | true=>
    rcases T3.no h3 with h | h
    ·rw[h2] at h;cases h
    exact h (dH c.ents) _ ⟨c.ents,rfl,F.all,by have:=F.en;omega,a2⟩ e.symm
   | false=>
    obtain⟨-,e3,g3⟩:=T3.yes h3;rw[e3] at e;obtain⟨k3,e⟩:=az (by decide) (by omega) g3 e;cases h4:s4.bad with
    | true=>
     rcases T4.no h4 with h | h
     ·rw[h3] at h;cases h
     exact h c.cursor [] (by omega) e.symm
    | false=>
     obtain⟨-,e4,g4⟩:=T4.yes h4;rw[e4] at e;obtain⟨k4,e⟩:=az (by decide) (by omega) g4 e;rcases h with (h | h) | h
     ·rw[h4] at h;cases h
     ·rw[<-e] at h;simp at h
     have q1:=iM (by omega) (by omega) k1;have q2:v.yes=y2:=by
      cases hy:v.yes<;>cases hy':y2<;>rw[hy,hy'] at k2<;>first | rfl | (simp at k2)
     exact h W v c ho hm (by omega) q2 k3 k4
theorem Dc(h4:s4.bad=false)(hl:s4.l=[]):b=val 1 (au n1)++(val 2 [if y2 then 1 else 0]++(val 3 Y++(val 4 cur++[])))/\n1<18446744073709551616/\Y.length<=4194304/\cur.length<=4194304:=by
 obtain⟨h3,e4,g4⟩:=T4.yes h4;obtain⟨h2,e3,g3⟩:=T3.yes h3;obtain⟨h1,e2,-⟩:=T2.yes h2;obtain⟨-,e1,g1⟩:=T1.yes h1;dsimp only at e1;exact⟨by rw[e1,e2,e3,e4,hl],g1,g3,g4⟩
end
def eU {α:Type}(el:α->List UInt8)(l:List α):List UInt8:=l.flatMap el
theorem oK{α:Type}(el:α->List UInt8)(z:α)(l:List α):eU el (z::l)=el z++eU el l:=rfl
theorem IR{α:Type}(el:α->List UInt8)(l:List α)(z:α):eU el (l++[z])=eU el l++el z:=by simp[eU]
theorem xI{α:Type}{el:α->List UInt8}{may:α->Prop}(hinj:∀z z' r r',may z->may z'->el z++r=el z'++r'->r=r')(hpos:∀z,0<(el z).length):∀(l ys:List α) (b:List UInt8),(∀y∈l,may y)->(∀y∈ys,may y)->eU el ys=eU el l++b->∃zs,(∀z∈zs,may z)/\ys.length=l.length+zs.length/\b=eU el zs
 | [],ys,b,_,hy,h=>⟨ys,hy,by simp,h.symm⟩
 | u::l,[],b,_,_,h=>by
  have:=congrArg List.length h;rw[oK,yab,yab] at this;have e0:(eU el []).length=0:=rfl;have:=hpos u;omega
 | u::l,y::ys,b,hl,hy,h=>by
  rw[oK,oK,yav] at h;have h2:=hinj _ _ _ _ (hy y (by simp)) (hl u (by simp)) h;obtain⟨zs,k1,k2,k3⟩:=xI hinj hpos l ys b (fun z hz=>hl z (by simp[hz])) (fun z hz=>hy z (by simp[hz])) h2;exact⟨zs,k1,by rw[yaF,yaF];omega,k3⟩
theorem yV{α:Type}{el:α->List UInt8}(hpos:∀z,0<(el z).length)(l:List α):l.length<=(eU el l).length:=by
 induction l with
 | nil=>simp
 | cons u l ih=>rw[oK,yab,yaF];have:=hpos u;omega
def Fg {α:Type}(B g:Nat)(t:UInt8)(s:RS)(xs:List Nat)(el:α->List UInt8)(may:α->Prop)(N:Nat)(St:Nat->List α->World->Prop)(W:World)(e:Ending)(w':World):Prop:=
 (∃r,e=.returned r)/\∃s' q l,RdS B g s' w'/\W.heap.size<=q/\St q l w'/\BelX W.heap.size (g::xs) W w'/\l.length<=20000000 /\
  Took (fun ys=>val t (eU el ys)) (fun ys=>(∀y∈ys,may y)/\ys.length<=N/\(eU el ys).length<=4194304) (fun ys=>(∀y∈ys,may y)/\ys.length<=N/\(eU el ys).length<=4194304) s l s'
def TM {α:Type}(B g:Nat)(t:UInt8)(s:RS)(xs:List Nat)(el:α->List UInt8)(may:α->Prop)(N:Nat)(St:Nat->List α->World->Prop)(W:World)(q:Nat)(rest b:List UInt8)(wr:World):Prop:=
 ∃(x:List UInt8) (w1:World) (l:List α),s.take t=(some x,⟨rest,false⟩)/\w1.heap.size=q/\RdS B g ⟨rest,false⟩ w1/\W.grownBy w1 (some g)/\BelX q xs w1 wr/\RdS q q ⟨b,false⟩ wr/\St q l wr/\x=eU el l++b/\(∀y∈l,may y)/\l.length<=N
def TY {α:Type}(B g:Nat)(t:UInt8)(s:RS)(xs:List Nat)(el:α->List UInt8)(may:α->Prop)(N:Nat)(St:Nat->List α->World->Prop)(W:World)(rest:List UInt8)(wr:World):Prop:=
 ∃(x:List UInt8) (w1:World) (l:List α),s.take t=(some x,⟨rest,false⟩)/\RdS B g ⟨rest,false⟩ w1/\W.grownBy w1 (some g)/\BelX w1.heap.size xs w1 wr/\St w1.heap.size l wr/\l.length<=20000000/\∀ys,(∀y∈ys,may y)->ys.length<=N->(eU el ys).length<=4194304->eU el ys≠x
def um {α:Type}(q:Nat)(xs:List Nat)(el:α->List UInt8)(may:α->Prop)(N:Nat)(St:Nat->List α->World->Prop)(l:List α)(b:List UInt8)(wr:World)(e:Ending)(w':World):Prop:=
 ∃r s' y,e=.returned (.bool r)/\RdS q q s' w'/\St q (l++[y]) w'/\BelX q xs wr w'/\s'.l.length<=b.length/\(r=true->s'.bad=false->l.length<N/\b=el y++s'.l/\may y)/\(r=false\/s'.bad=true->N<=l.length\/∀z rest,may z->b≠el z++rest)
theorem wM{α:Type}(B g:Nat)(s:RS)(t:UInt8)(f:FuncId)(caps:Array Value)(W:World)(ht:0<t.toNat)(hr:RdS B g s W)(hl:s.l.length<=100000000)
  (hf:∀args w,(callFunc f args).run Tryz.prog w=.ok (.enter f args) w)
  (xs:List Nat) (hxs:∀k∈xs,k≠g/\∃o,W.heap[k]?=some o/\∀c fr,o≠.cells c 5 fr)
  (el:α->List UInt8) (may:α->Prop) (N:Nat) (hinj:∀z z' r r',may z->may z'->el z++r=el z'++r'->r=r') (hpos:∀z,0<(el z).length)
  (St:Nat->List α->World->Prop) (hst:∀q w1,W.grownBy w1 (some g)->St q [] w1)
  (hset:∀q l wx cs v,W.heap.size<=q->St q l wx->wx.heap[g]?=some (.cells cs 237)->St q l (wx.setCell ⟨g,1,none⟩ v))
  (hstep:∀q l b wr,W.heap.size<=q->St q l wr->RdS q q ⟨b,false⟩ wr->b.length<=4194304->l.length<=4194304->l.length<=N->Calls Tryz.prog f (#[.pointer (some ⟨q,0,none⟩)]++caps) wr (um q xs el may N St l b wr)) :
  Calls Tryz.prog 207 #[.pointer (some ⟨g,0,none⟩),.int .u8 (t.toNat:Int),.func (.func f) #[] caps] W (Fg B g t s xs el may N St W):=by
 have hgs:g<W.heap.size:=by obtain⟨_,_,h⟩:=hr;exact h.lt
 have htc:=jy s t ht;have hlow:∀w1:World,W.grownBy w1 (some g)->∀k∈xs,∃o,w1.heap[k]?=some o/\∀c fr,o≠.cells c 5 fr:=by
  intro w1 h k hk;obtain⟨h1,o,h2,h3⟩:=hxs k hk;exact⟨o,(h.block _ (lA h2) (fun e=>h1 (yaf e))).trans h2,h3⟩
 have hgx:g∉xs:=fun h=>(hxs g h).1 rfl;have hX:∀(w1 w':World),W.grownBy w1 (some g)->BelX w1.heap.size xs w1 w'->BelX W.heap.size (g::xs) W w':=fun w1 w' h k=>
  ((BelX.of_grown h).mono (yag _) (fun k hk _=>by rw[yah.1 hk];simp)).trans (k.mono h.size (fun k hk _=>List.mem_cons_of_mem _ hk))
 refine (rE B g s t f caps W hr hl hf (TM B g t s xs el may N St W) (TY B g t s xs el may N St W) ?bad (fun q rest b w' h=>by obtain⟨x,w1,l,_,_,_,_,_,h,_⟩:=h;exact h) ?init ?step).mono ?post
 case bad=>
  rintro rest w' ⟨x,w1,l,_,k2,k3,k4,_⟩;exact RdS.belX k2 k4 hgx (hlow w1 k3)
 case init=>
  intro x rest ao cap w1 htk hgr hrg hrd hty;have hb1:=bN w1 (.cells #[.slice ao x.length cap,.bool false,.bool true] 237);refine⟨x,w1,[],htk,rfl,hrg,hgr,BelX.of_below hb1 _,⟨ao,cap,?_,yag _,hrd.later hb1,hty.later hb1⟩,hst _ _ (bi hgr (gU hb1 _)),rfl,fun y hy=>(by cases hy),yam _⟩;show (w1.heap.push _)[w1.heap.size]?=some _;simp
 case step=>
  rintro q rest b wr hb ⟨x,w1,l,htk,k1,k2,k3,k4,k5,k6,k8,k9,k10⟩;obtain⟨_,_,_,t4,_⟩:=dW htk;have hxl:=t4;rw[k8,yab] at hxl;have hlong:=yV hpos l;have hWq:W.heap.size<=q:=by rw[<-k1];exact k3.size
  refine (hstep q l b wr hWq k6 k5 (by omega) (by omega) k10).mono ?_;rintro e w' ⟨r,s',y,rfl,m1,m2,m4,m5,m6,m7⟩;have hlen:(l++[y]).length<=20000000:=by rw[yab,ybg];omega
  refine⟨r,s',rfl,m1,m5,fun hn=>⟨x,w1,l++[y],htk,k2,k3,?_,?_,hlen,fun ys hm hy1 hy2 e=>?_⟩,fun hr hb' hlt=>⟨x,w1,l++[y],htk,k1,k2,k3,k4.trans m4,uP m1 hb',m2,?_,?_,?_⟩⟩
  ·rw[k1];exact k4.trans m4
  ·rw[k1];exact m2
  ·rw[k8] at e;obtain⟨zs,hzm,hzl,hz⟩:=xI hinj hpos l ys b k9 hm e
   match zs,hz with
   | [],hz=>rw[hz] at hb;simp[eU] at hb
   | z::zs,hz=>
    rw[yaF] at hzl;by_cases hc:r=false\/s'.bad=true
    ·rcases m7 hc with h | h
     ·omega
     exact h z (eU el zs) (hzm z (by simp)) hz
    simp only[not_or,Bool.not_eq_false,ybs] at hc;obtain⟨_,h3,_⟩:=m6 hc.1 hc.2;refine hn ⟨hc.1,hc.2,?_⟩;have:=congrArg List.length h3;rw[yab] at this;have:=hpos y;omega
  ·obtain⟨_,h3,_⟩:=m6 hr hb';rw[IR,yav,<-h3];exact k8
  ·obtain⟨_,_,h3⟩:=m6 hr hb';intro z hz;rcases yaQ.1 hz with hz | hz
   ·exact k9 z hz
   rw[yah] at hz;subst hz;exact h3
  have:=(m6 hr hb').1;rw[yab,ybg];omega
 case post=>
  rintro e w' (⟨hx,rfl,m1,m2⟩ | ⟨x,rest,hx,⟨rfl,q,x',w1,l,hx',k1,k2,k3,k4,k5,k6,k8,k9,k10⟩ | ⟨rfl,wx,⟨x',w1,l,hx',k2,k3,k4,k6,k8,k9⟩,rfl⟩⟩)
  ·rcases htc with ⟨x,rest,h,_⟩ | ⟨s',h,e1,e2,e3⟩
   ·rw[h] at hx;cases hx
   refine⟨⟨_,rfl⟩,(s.take t).2,W.heap.size,[],m1,yag _,hst _ _ m2,hX w' w' m2 (BelX.refl _ _ _),yam _,⟨fun hb=>?_,fun _=>e3.imp id (fun h ys rest hy=>h _ rest hy.2.2),?_⟩⟩
   ·rw[h] at hb;rw[show s'.bad=true from e1] at hb;cases hb
   rw[h];exact yaR (congrArg List.length e2)
  ·rw[hx] at hx';obtain rfl:=yaf (congrArg Prod.fst hx');obtain⟨t1,_,t3,t4,_⟩:=dW hx;rw[yaD] at k8;have hlong:=yV hpos l;subst k8;refine⟨⟨_,rfl⟩,⟨rest,false⟩,q,l,RdS.belX k2 (k1▸k4) hgx (hlow w1 k3),by rw[<-k1];exact k3.size,k6,hX w1 w' k3 (k1▸k4),by omega,⟨fun _=>⟨t1,t3,k9,k10,t4⟩,fun h=>(by cases h),?_⟩⟩;rw[t3];exact gW _ _ _
  rw[hx] at hx';obtain rfl:=yaf (congrArg Prod.fst hx');obtain⟨t1,_,t3,t4,_⟩:=dW hx;have hR:=RdS.belX k2 k4 hgx (hlow w1 k3);obtain⟨ao,cap,hR⟩:=hR;refine⟨⟨_,rfl⟩,⟨rest,true⟩,w1.heap.size,l,⟨ao,cap,hR.fail⟩,k3.size,hset _ _ _ _ _ k3.size k6 hR.at_,(hX w1 wx k3 k4).set _ _ _ (.inl (by simp)),k8,⟨fun h=>(by cases h),fun _=>.inr fun ys rest' hy e=>?_,?_⟩⟩
  ·rw[t3] at e;exact k9 ys hy.1 hy.2.1 hy.2.2 (az ht t4 hy.2.2 e).1.symm
  rw[t3];exact gW _ _ _
