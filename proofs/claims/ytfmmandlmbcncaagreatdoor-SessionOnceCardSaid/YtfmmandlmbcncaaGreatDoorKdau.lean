/-
  A part of the proof.
-/
import Derived.Test.YtfmmandlmbcncaaGreatDoorKdat
set_option maxHeartbeats 40000000
set_option maxRecDepth 100000
namespace Go.Proofs.YtfmmandlmbcncaaGreatDoor.Tlv
open Go.RowKit Mem
def TyB (B:Nat)(W:World)(ao:Option Addr)(cap:Nat):Prop:=0<cap->∀a,ao=some a->a.block<B\/∃c fr,W.heap[a.block]?=some (.cells c 5 fr)
theorem TyB.ne {B:Nat}{W:World}{ao:Option Addr}{cap g:Nat}{o:Obj}(h:TyB B W ao cap)(hB:B<=g)(hg:W.heap[g]?=some o)(ho:∀c fr,o≠.cells c 5 fr):0<cap->∀a,ao=some a->a.block≠g:=fun h0 a ha e=>by
 rcases h h0 a ha with h1 | ⟨c,fr,h1⟩
 ·omega
 rw[e,hg] at h1;exact ho c fr (Option.some.inj h1)
theorem TyB.grown {B:Nat}{W W':World}{ao:Option Addr}{cap:Nat}{row:Option Nat}(h:TyB B W ao cap)(hg:W.grownBy W' row)(hd:0<cap->∀a,ao=some a->some a.block≠row):TyB B W' ao cap:=fun h0 a ha=>by
 rcases h h0 a ha with h1 | ⟨c,fr,h1⟩
 ·exact .inl h1
 exact .inr ⟨c,fr,(hg.block _ (Array.getElem?_eq_some_iff.1 h1).1 (hd h0 a ha)).trans h1⟩
theorem TyB.later {B:Nat}{W W':World}{ao:Option Addr}{cap:Nat}(h:TyB B W ao cap)(hb:Below W.heap.size W W'):TyB B W' ao cap:=fun h0 a ha=>by
 rcases h h0 a ha with h1 | ⟨c,fr,h1⟩
 ·exact .inl h1
 exact .inr ⟨c,fr,(hb.block _ (Array.getElem?_eq_some_iff.1 h1).1).trans h1⟩
theorem TyB.zero (B:Nat)(W:World)(ao:Option Addr):TyB B W ao 0:=fun h=>absurd h (Nat.lt_irrefl 0)
theorem TyB.lt {B:Nat}{W:World}{ao:Option Addr}{cap:Nat}(h:TyB B W ao cap)(hB:B<=W.heap.size):0<cap->∀a,ao=some a->a.block<W.heap.size:=fun h0 a ha=>by
 rcases h h0 a ha with h1 | ⟨c,fr,h1⟩
 ·omega
 exact (Array.getElem?_eq_some_iff.1 h1).1
structure RfAt (B g:Nat)(s:RS)(ao:Option Addr)(cap:Nat)(W:World):Prop where
 at_:W.heap[g]?=some (.cells #[.slice ao s.l.length cap,.bool s.bad] 119)
 le:B<=g
 rd:Rd W 1 ao s.l.length cap (byV s.l)
 ty:TyB B W ao cap
def RfS (B g:Nat)(s:RS)(W:World):Prop:=∃ao cap,RfAt B g s ao cap W
theorem RfAt.ne {B g:Nat}{s:RS}{ao:Option Addr}{cap:Nat}{W:World}(h:RfAt B g s ao cap W):0<cap->∀a,ao=some a->a.block≠g:=h.ty.ne h.le h.at_ (fun _ _ h=>by cases h)
theorem RfAt.lt {B g:Nat}{s:RS}{ao:Option Addr}{cap:Nat}{W:World}(h:RfAt B g s ao cap W):g<W.heap.size:=(Array.getElem?_eq_some_iff.1 h.at_).1
theorem RfS.lt {B g:Nat}{s:RS}{W:World}(h:RfS B g s W):g<W.heap.size:=by obtain⟨_,_,h⟩:=h;exact h.lt
theorem RfS.le {B g:Nat}{s:RS}{W:World}(h:RfS B g s W):B<=g:=by obtain⟨_,_,h⟩:=h;exact h.le
theorem RfAt.later {B g:Nat}{s:RS}{ao:Option Addr}{cap:Nat}{W W':World}(h:RfAt B g s ao cap W)(hb:Below W.heap.size W W'):RfAt B g s ao cap W':=⟨(hb.block g h.lt).trans h.at_,h.le,h.rd.later hb,h.ty.later hb⟩
theorem RfS.later {B g:Nat}{s:RS}{W W':World}(h:RfS B g s W)(hb:Below W.heap.size W W'):RfS B g s W':=by
 obtain⟨ao,cap,h⟩:=h;exact⟨ao,cap,h.later hb⟩
theorem RfS.belX {B q:Nat}{s:RS}{w1 wr:World}{xs:List Nat}(h:RfS B q s w1)(hb:BelX w1.heap.size xs w1 wr)(hq:q∉xs)(hB:∀k∈xs,B<=k)(hx:∀k∈xs,∃o,w1.heap[k]?=some o/\∀c fr,o≠.cells c 5 fr):RfS B q s wr:=by
 obtain⟨ao,cap,h⟩:=h;have hne:0<cap->∀a,ao=some a->a.block∉xs:=fun h0 a ha hm=>by
  obtain⟨o,h1,h2⟩:=hx _ hm;rcases h.ty h0 a ha with h3 | ⟨c,fr,h3⟩
  ·have:=hB _ hm;omega
  rw[h3] at h1;exact h2 c fr (Option.some.inj h1).symm
 refine⟨ao,cap,(hb.at_ h.at_ h.lt hq),h.le,?_,fun h0 a ha=>?_⟩
 ·obtain⟨h1,h2,h3,h4,h5⟩:=h.rd;refine⟨h1,h2,h3,h4,fun h0 a ha=>?_⟩;obtain⟨s1,l,c⟩:=h5 h0 a ha;exact⟨s1,Nat.lt_of_lt_of_le l hb.size,fun j u hu=>(World.cell?_of_block (a:=⟨a.block,a.off+j,none⟩) (hb.block _ l (hne h0 a ha))).trans (c j u hu)⟩
 rcases h.ty h0 a ha with h3 | ⟨c,fr,h3⟩
 ·exact .inl h3
 exact .inr ⟨c,fr,hb.at_ h3 (Array.getElem?_eq_some_iff.1 h3).1 (hne h0 a ha)⟩
theorem RfS.grown {B g k:Nat}{s:RS}{W W':World}{o:Obj}(h:RfS B g s W)(hg:W.grownBy W' (some k))(hk:W.heap[k]?=some o)(ho:∀c fr,o≠.cells c 5 fr)(hgk:g≠k)(hBk:B<=k):RfS B g s W':=
 h.belX (BelX.of_grown hg) (by simpa using hgk) (fun j hj=>by rw[List.mem_singleton.1 hj];exact hBk) (fun j hj=>by rw[List.mem_singleton.1 hj];exact⟨o,hk,ho⟩)
theorem RfAt.fail {B g:Nat}{s:RS}{ao:Option Addr}{cap:Nat}{W:World}(h:RfAt B g s ao cap W):RfAt B g ⟨s.l,true⟩ ao cap (W.setCell ⟨g,1,none⟩ (.bool true)):=by
 have hn:=h.ne;have hs:=Below.heap_setCell W ⟨g,1,none⟩ (.bool true);have hg:=ai W g 1 (.bool true);refine⟨tq h.at_ _,h.le,eU h.rd hg (fun h0 a ha e=>hn h0 a ha (Option.some.inj e)),h.ty.grown hg (fun h0 a ha e=>hn h0 a ha (Option.some.inj e))⟩
theorem RfAt.move {B g:Nat}{s:RS}{ao:Option Addr}{cap:Nat}{W:World}(h:RfAt B g s ao cap W){l':List UInt8}{ao':Option Addr}{cap':Nat}(hr:Rd W 1 ao' l'.length cap' (byV l'))(ht:TyB B W ao' cap') :
  RfAt B g ⟨l',s.bad⟩ ao' cap' (W.setCell ⟨g,0,none⟩ (.slice ao' l'.length cap')):=by
 have hg:=ai W g 0 (.slice ao' l'.length cap');have hn:=ht.ne h.le h.at_ (fun _ _ h=>by cases h);exact⟨tq h.at_ _,h.le,eU hr hg (fun h0 a ha e=>hn h0 a ha (Option.some.inj e)),ht.grown hg (fun h0 a ha e=>hn h0 a ha (Option.some.inj e))⟩
theorem gy {B g:Nat}{s:RS}{ao:Option Addr}{cap:Nat}{W:World}(h:RfAt B g s ao cap W):W.cell? ⟨g,0,none⟩=some (.slice ao s.l.length cap)/\W.cell? ⟨g,1,none⟩=some (.bool s.bad)/\W.frozen? ⟨g,0,none⟩=false/\W.frozen? ⟨g,1,none⟩=false:=by
 have:=h.at_;simp[World.cell?,World.frozen?,this]
def iU (B g:Nat)(s:RS)(t:UInt8)(W:World)(e:Ending)(w':World):Prop:=RfS B g (s.bytes t).2 w'/\W.grownBy w' (some g) /\
 ∃ao cap,e=.returned (.slice ao (s.bytes t).1.length cap)/\Rd w' 1 ao (s.bytes t).1.length cap (byV (s.bytes t).1)/\TyB B w' ao cap
theorem G9 {s:RS}{t:UInt8}(h:s.bad=true\/¬(fs s.l≠0/\(hd1 s.l).1=t)):s.bytes t=([],⟨s.l,true⟩):=by
 obtain⟨l,bad⟩:=s;unfold RS.bytes RS.take;cases bad with
 | true=>rw[if_pos rfl];rfl
 | false=>
  rw[if_neg (by simp)];rcases h with h | h
  ·cases h
  rw[if_neg h];rfl
theorem Gg {s:RS}{t:UInt8}(hb:s.bad=false)(h:fs s.l≠0/\(hd1 s.l).1=t):s.bytes t=((hd1 s.l).2,⟨s.l.drop (fs s.l),false⟩):=by
 unfold RS.bytes RS.take;rw[if_neg (by simp[hb]),if_pos h];rfl
theorem jS (B g:Nat)(s:RS)(t:UInt8)(W:World)(hr:RfS B g s W)(hl:s.l.length<=100000000):Calls Tryz.prog 92 #[.pointer (some ⟨g,0,none⟩),.int .u8 (t.toNat:Int)] W (iU B g s t W):=by
 obtain⟨ao,cap,hr⟩:=hr;obtain⟨l,bad⟩:=s;obtain⟨c0,c1,z0,z1⟩:=gy hr;dsimp only at hl c0 c1;go_in;go_wp2_with fail;refine (xI ao l.length cap l W hr.rd (by omega)).mono ?_;rintro e w1 ⟨hb1,hc1⟩;have hr1:=hr.later hb1;obtain⟨d0,d1,y0,y1⟩:=gy hr1;dsimp only at d0 d1;have hgb:=fG hb1 (some g);have hbad:(bad=true\/¬(fs l≠0/\(hd1 l).1=t))->iU B g ⟨l,bad⟩ t W (.returned (.slice none 0 0)) (w1.setCell ⟨g,1,none⟩ (.bool true)):=by
  intro h;unfold iU;rw[G9 h];exact⟨⟨ao,cap,hr1.fail⟩,aV hgb (ai _ _ _ _),none,0,rfl,Rd.nil _ _,TyB.zero _ _ _⟩
 have Hb:=Lib.hid hbad;clear hbad;cases bad with
 | true=>
  rcases hc1 with ⟨h0,rfl⟩ | ⟨h0,ao2,cap2,rfl,hr2,hbk⟩
  ·go_wp2_with fail;go_ret;exact Hb.out (.inl (by first | rfl | trivial))
  go_wp2_with fail;go_ret;exact Hb.out (.inl (by first | rfl | trivial))
 | false=>
  rcases hc1 with ⟨h0,rfl⟩ | ⟨h0,ao2,cap2,rfl,hr2,hbk⟩
  ·go_wp2_with fail;go_ret;exact Hb.out (.inr (fun h=>h.1 h0))
  have hf5:=gm l h0;have hfle:=jU l;have f2:((fs l:Int)==0)=false:=by rw[beq_eq_false_iff_ne];omega
  by_cases htg:(hd1 l).1=t
  ·have Hts:=Lib.hid (Gg (s:=⟨l,false⟩) rfl ⟨h0,htg⟩);have hat1:=hr1.at_;have hdl:(l.drop (fs l)).length=l.length-fs l:=List.length_drop;have Hdl:=Lib.hid hdl;have hrd1:=hr1.rd;dsimp only at hrd1;have hcl:=hrd1.le;have hne1:=hr1.ne;obtain⟨b1,o1,e1,hlt1,hcc1⟩:=hrd1.some (by omega);subst e1;have hty1:=hr1.ty;have ht1:∀(ao':Option Addr) (c':Nat),(0<c'->∀a,ao'=some a->a.block=b1)->TyB B w1 ao' c':=fun ao' c' h h0 a ha=>by
    rw[h h0 a ha];exact hty1 (by omega) _ rfl
   have hx3:TyB B w1 ao2 cap2:=ht1 _ _ (fun h a ha=>by
    obtain⟨a0,h1,h2⟩:=hbk h a ha;cases h1;exact h2)
   have hx2:0<cap2->∀a,ao2=some a->a.block≠g:=hx3.ne hr1.le hat1 (fun _ _ h=>by cases h);have f1:(((hd1 l).1.toNat:Int) != (t.toNat:Int))=false:=by rw[htg];simp
   clear hdl;obtain⟨it,hit⟩:∃it,hd1 l=it:=⟨_,rfl⟩
   rw[hit] at hr2 f1 htg;rw[hit];have hok:∀w',RfS B g ⟨l.drop (fs l),false⟩ w'->W.grownBy w' (some g)->Rd w' 1 ao2 (hd1 l).2.length cap2 (byV (hd1 l).2)->TyB B w' ao2 cap2->iU B g ⟨l,false⟩ t W (.returned (.slice ao2 (hd1 l).2.length cap2)) w':=by
    intro w' h1 h2 h3 h4;unfold iU;rw[Hts.out];exact⟨h1,h2,ao2,cap2,rfl,h3,h4⟩
   rw[hit] at hok;have hmv:=fun (q:Nat) (a:Addr) (c:Nat) (hq:q=l.length-fs l) (h:Rd w1 1 (some a) (l.length-fs l) c (byV (l.drop (fs l)))) (hn:0<c->a.block=b1)=>hr1.move (l':=l.drop (fs l)) (ao':=some a) (cap':=c) (by rw[Hdl.out];exact h) (ht1 _ _ (fun h0 a' ha=>by cases ha;exact hn h0));rw[Hdl.out] at hmv;have Hmv:=Lib.hid hmv;clear hmv;have Hok:=Lib.hid hok;clear hok hit Hts;generalize hff:fs l=f at *;clear hff;have i0:(0:Int)<=(f:Int):=by omega
   have i1:(f:Int)<=(l.length:Int):=by omega
   have i2:(f:Int)<=(cap:Int):=by omega
   by_cases hcf:cap=f
   ·subst hcf;have hq0:l.length=cap:=by omega
    have hq1:l.length-cap=0:=by omega
    have hre:=AL hrd1 (f:=cap) (by omega) rfl;have hm:=Hmv.out _ ⟨b1,o1,none⟩ 0 rfl (by rw[hq1];exact hre) (fun h=>absurd h (Nat.lt_irrefl 0));rw[hq1] at hm;have Hm:=Lib.hid hm;have hr3:=eU hr2 (ai w1 g 0 (.slice (some ⟨b1,o1,none⟩) 0 0)) (fun h0 a ha e=>hx2 h0 a ha (Option.some.inj e));have hr4:=fun (v:Value)=>hx3.grown (ai w1 g 0 v) (fun h0 a ha e=>hx2 h0 a ha (Option.some.inj e));clear hm hre;go_wp2_with fail;go_ret;exact Hok.out _ ⟨_,_,Hm.out⟩ (aV hgb (ai _ _ _ _)) hr3 (hr4 _)
   have hcf2:¬cap-f=0:=by omega
   have hre:=nz hrd1 (f:=f) (by omega);have hm:=Hmv.out _ ⟨b1,o1+f,none⟩ (cap-f) rfl hre (fun _=>rfl);have Hm:=Lib.hid hm;have hr3:=eU hr2 (ai w1 g 0 (.slice (some ⟨b1,o1+f,none⟩) (l.length-f) (cap-f))) (fun h0 a ha e=>hx2 h0 a ha (Option.some.inj e));have hr4:=fun (v:Value)=>hx3.grown (ai w1 g 0 v) (fun h0 a ha e=>hx2 h0 a ha (Option.some.inj e));clear hm hre;go_wp2_with fail;go_ret;exact Hok.out _ ⟨_,_,Hm.out⟩ (aV hgb (ai _ _ _ _)) hr3 (hr4 _)
  have f1:((((hd1 l).1.toNat:Int)) != (t.toNat:Int))=true:=by
   rw[bne_iff_ne];intro e;exact htg (UInt8.toNat_inj.1 (by omega))
  go_wp2_with fail;go_ret;exact Hb.out (.inr (fun h=>htg h.2))
def Bv (B g:Nat)(v:Value)(s:RS)(W:World)(e:Ending)(w':World):Prop:=e=.returned v/\RfS B g s w'/\W.grownBy w' (some g)
theorem rF (B g:Nat)(s:RS)(t:UInt8)(W:World)(hr:RfS B g s W)(hl:s.l.length<=100000000):Calls Tryz.prog 159 #[.pointer (some ⟨g,0,none⟩),.int .u8 (t.toNat:Int)] W
  (Bv B g (.string ⟨(s.bytes t).1.toArray⟩) (s.bytes t).2 W):=by
 have hc:=jS B g s t W hr hl;unfold iU at hc;generalize s.bytes t=r at *;go_in;go_wp2_with fail;refine hc.mono ?_;rintro e w' ⟨h1,h2,ao,cap,rfl,h3,h4⟩;have hs:=lV ao _ cap _ w' h3;go_wp2;go_ret;exact⟨rfl,h1,h2⟩
theorem qM (B g:Nat)(s:RS)(W:World)(hr:RfS B g s W):Calls Tryz.prog 64 #[.pointer (some ⟨g,0,none⟩)] W fun e w'=>e=.returned (.bool (decide (s.bad=false/\s.l=[])))/\W=w':=by
 obtain⟨ao,cap,hr⟩:=hr;obtain⟨l,bad⟩:=s;obtain⟨c0,c1,-,-⟩:=gy hr;dsimp only at c0 c1;cases bad with
 | true=>
  have he:decide (RS.bad ⟨l,true⟩=false/\RS.l ⟨l,true⟩=[])=false:=by simp
  rw[he];go_in;go_wp2;go_ret;exact⟨rfl,rfl⟩
 | false=>
  cases l with
  | nil=>
   have he:decide (RS.bad ⟨[],false⟩=false/\RS.l ⟨[],false⟩=[])=true:=by simp
   rw[he];go_in;go_wp2;go_ret;exact⟨rfl,rfl⟩
  | cons x l=>
   have he:decide (RS.bad ⟨x::l,false⟩=false/\RS.l ⟨x::l,false⟩=[])=false:=by simp
   have f0:(((x::l).length:Int)==0)=false:=by rw[beq_eq_false_iff_ne,List.length_cons];omega
   rw[he];clear he hr;generalize (x::l).length=q at *;go_in;go_wp2;go_ret;exact⟨rfl,rfl⟩
theorem zO (s:RS)(t:UInt8):s.num t=if (s.bytes t).2.bad=true\/¬(s.bytes t).1.length=8 then (0,⟨(s.bytes t).2.l,true⟩) else (iP (s.bytes t).1 8,(s.bytes t).2):=by
 unfold RS.num RS.bytes;cases h:s.take t with
 | mk ox s'=>
  cases ox with
  | none=>
   have hb:=tV h;dsimp only;rw[if_pos (.inl hb),<-hb]
  | some x=>
   have hb:=(dJ h).2.1;dsimp only[Option.getD_some];by_cases h8:x.length=8
   ·rw[if_pos h8,if_neg (by rw[hb];simp[h8])]
   rw[if_neg h8,if_pos (.inr h8)]
theorem uF (B g:Nat)(s:RS)(t:UInt8)(W:World)(hr:RfS B g s W)(hl:s.l.length<=100000000):Calls Tryz.prog 90 #[.pointer (some ⟨g,0,none⟩),.int .u8 (t.toNat:Int)] W
  (Bv B g (.int .u64 ((s.num t).1:Int)) (s.num t).2 W):=by
 have hc:=jS B g s t W hr hl;unfold iU at hc;rw[zO];generalize s.bytes t=r at *;obtain⟨x,s'⟩:=r;dsimp only at hc ⊢;by_cases hb:s'.bad=true\/¬x.length=8
 ·rw[if_pos hb];have HB:=Lib.hid hb;clear hb;go_in;go_wp2_with fail;refine hc.mono ?_;rintro e w' ⟨⟨ao1,cap1,h1⟩,h2,ao,cap,rfl,h3,h4⟩;obtain⟨c0,c1,z0,z1⟩:=gy h1;have Hf:=Lib.hid h1.fail;cases hs:s'.bad with
  | true=>
   rw[hs] at c1;clear h1 hs;go_wp2_with fail;go_ret;exact⟨rfl,⟨_,_,Hf.out⟩,aV h2 (ai _ _ _ _)⟩
  | false=>
   rw[hs] at c1;have f0:((x.length:Int) != 8)=true:=by
    rw[bne_iff_ne];rcases HB.out with h | h
    ·rw[hs] at h;cases h
    omega
   clear h1 hs;go_wp2_with fail;go_ret;exact⟨rfl,⟨_,_,Hf.out⟩,aV h2 (ai _ _ _ _)⟩
 rw[if_neg hb];simp only[not_or,Bool.not_eq_true,Decidable.not_not] at hb;obtain⟨hb1,h8⟩:=hb;have hc2:Calls Tryz.prog 92 #[.pointer (some ⟨g,0,none⟩),.int .u8 (t.toNat:Int)] W fun e w'=>∃b o cap,e=.returned (.slice (some ⟨b,o,none⟩) 8 cap)/\(∀k,k<8->w'.cell? ⟨b,o+k,none⟩=some (.int .u8 ((x[k]?.getD 0).toNat:Int)))/\w'.cell? ⟨g,1,none⟩=some (.bool false)/\RfS B g s' w'/\W.grownBy w' (some g):=by
  refine hc.mono ?_;rintro e w' ⟨h1,h2,ao,cap,rfl,h4,_⟩;have hle:=h4.le;obtain⟨b,o,rfl,_,hcc⟩:=h4.some (by omega);have hc1:w'.cell? ⟨g,1,none⟩=some (.bool false):=by
   obtain⟨_,_,h⟩:=h1;rw[<-hb1];exact (gy h).2.1
  exact⟨b,o,cap,by rw[h8],fun k hk=>hcc k _ (fQ x k (by omega)),hc1,h1,h2⟩
 have hk:=ni x;have hv:∀k:Nat,Hid ((x[k]?.getD 0).toNat<256):=fun k=>UInt8.toNat_lt _;have hsx:∀k:Nat,Hid (iP x (k+1)=iP x k*256+(x[k]?.getD 0).toNat):=fun k=>rfl;clear hc h8 hb1;go_in;go_wp2_with fail;refine hc2.mono ?_;rintro e w' ⟨b,o,cap,rfl,hcell,hc1,h1,h2⟩;have Hcell:=Lib.hid hcell;have Hk:=Lib.hid hk;clear hcell hk;go_wp2_with fail
 go_loop [6,7] (fun v p=>∃k:Nat,k<=8/\v=.int .u64 (iP x k:Int)/\p=.int .i64 (k:Int)) (fun _ p=>(8-intOf p).toNat)
 case atStart=>exact⟨0,by omega,rfl,rfl⟩
 case round=>
  obtain⟨k,hk8,rfl,rfl⟩:=hrel;by_cases hk9:k=8
  ·subst hk9;go_wp2;go_ret;exact⟨rfl,h1,h2⟩
  have hk7:k<8:=by omega
  have hc3:=Hcell.out k hk7;have hlt:=Hk.out k;have hpow:256 ^ k<=256 ^ 7:=Nat.pow_le_pow_right (by decide) (by omega);have hv1:=(hv k).out;have hs1:=(hsx k).out;have Hs1:=Lib.hid hs1;clear hs1;generalize iP x k=q at *;generalize (x[k]?.getD 0).toNat=c at *;have hq7:q<72057594037927936:=Nat.lt_of_lt_of_le hlt hpow;clear hlt hpow;have j0:IntKind.u64.wrap (256*(q:Int))=(q:Int)*256:=by rw[IntWalk.u64_in]<;>omega
  have j1:IntKind.u64.wrap ((q:Int)*256+(c:Int))=(q:Int)*256+(c:Int):=by rw[IntWalk.u64_in]<;>omega
  go_wp2
  case roundEnd=>exact⟨⟨k+1,by omega,by rw[Hs1.out];go_num,by go_num⟩,by simp[intOf];omega⟩
def allIn (B:Nat)(w:World)(xs:List El)(W:World):Prop:=∀x∈xs,elG x W/\TyB B w x.ao x.cap
theorem allIn.below {B:Nat}{w:World}{xs:List El}{W W':World}(h:allIn B w xs W)(hB:B<=w.heap.size)(hb:Below w.heap.size W W'):allIn B w xs W':=fun x hx=>⟨Rd.below (h x hx).1 hb ((h x hx).2.lt hB),(h x hx).2⟩
theorem allIn.snoc {B:Nat}{w:World}{xs:List El}{W:World}{x:El}(h:allIn B w xs W)(h1:elG x W)(h2:TyB B w x.ao x.cap):allIn B w (xs++[x]) W:=by
 intro y hy;rcases List.mem_append.1 hy with hy | hy
 ·exact h y hy
 rw[List.mem_singleton] at hy;subst hy;exact⟨h1,h2⟩
def Dv (B:Nat)(w:World)(b:List UInt8)(e:Ending)(w':World):Prop:=∃ao cap xs,e=.returned (.tuple #[.slice ao (its b).length cap,.int .i64 (ip (its b) (its b).length:Nat)])/\came xs=its b /\
 Rd w' 2 ao (its b).length cap (itV xs)/\allIn B w xs w'/\Below w.heap.size w w'/\(0<cap->∀a,ao=some a->w.heap.size<=a.block)
def Qa (B:Nat)(w0 w:World)(l:List UInt8)(e:Ending)(w':World):Prop:=Below w.heap.size w w' /\
 ((fs l=0/\e=.returned (.tuple #[.int .u8 0,.slice none 0 0,.int .i64 0])) \/
 (fs l≠0/\∃x:El,x.it=hd1 l/\e=.returned (.tuple #[.int .u8 (x.it.1.toNat:Int),.slice x.ao x.it.2.length x.cap,.int .i64 (fs l:Int)])/\elG x w'/\TyB B w0 x.ao x.cap))
theorem zC (B:Nat)(w0:World)(ao:Option Addr)(n cap:Nat)(l:List UInt8)(w:World)(hr:Rd w 1 ao n cap (byV l))(hn:n<=1000000000)(hlow:TyB B w0 ao cap) :
  Calls Tryz.prog 132 #[.slice ao n cap] w (Qa B w0 w l):=by
 refine (xI ao n cap l w hr hn).mono ?_;rintro e w' ⟨hb,h⟩;refine⟨hb,?_⟩;rcases h with h | ⟨hf,ao2,cap2,he,hg,hl⟩
 ·exact .inl h
 refine .inr ⟨hf,⟨hd1 l,ao2,cap2⟩,rfl,he,hg,fun h0 a ha=>?_⟩;obtain⟨a0,h1,h2⟩:=hl h0 a ha;have h5:=gm l hf;have hle:=jU l;have hlen:=hr.1;rw[aS] at hlen;have hcap:=hr.le;rw[h2];exact hlow (by omega) a0 h1
theorem AO {B:Nat}{w w1:World}{b:List UInt8}{rs:List It}{xs:List El}{v:Value}(hrs:its b=rs)(hx:came xs=rs.take rs.length)(ho:w1.ownsRow w.heap.size 226 2 v rs.length (itV xs))(ha:allIn B w xs w1)(hb:Below w.heap.size w w1) :
  Dv B w b (.returned (.tuple #[v,.int .i64 ((ip rs rs.length:Nat):Int)])) w1:=by
 subst hrs;obtain⟨ao,cap,rfl,hr⟩:=Rd.of_own ho;refine⟨ao,cap,xs,rfl,by rw[hx,List.take_of_length_le (Nat.le_refl _)],hr,ha,hb,fun h0 a hh=>?_⟩;subst hh;rcases ho.2 with ⟨h,_⟩ | ⟨g,c,cur,h,hg,_⟩
 ·cases (Value.slice.inj h).1
 have:=(Value.slice.inj h).1;cases this;exact hg
theorem Oh (B:Nat)(ao:Option Addr)(n cap:Nat)(b:List UInt8)(w:World)(hrd:Rd w 1 ao n cap (byV b))(hB:B<=w.heap.size)(hty:TyB B w ao cap)(hn:n<=100000000) :
  Calls Tryz.prog 134 #[.slice ao n cap] w (Dv B w b):=by
 have hb:b.length=n:=by have:=hrd.1;rw[aS] at this;omega
 have HB:=Lib.hid hb;have hAt:=Lib.hid (Am b);have hLast:=Lib.hid (wu b);have hlR:=xR b;rw[hb] at hlR;clear hb;generalize hrs:its b=rs at *;have Hrs:=Lib.hid hrs;clear hrs;go_in;go_wp2_with fail;have ho0:w.ownsRow w.heap.size 226 2 (.slice none 0 0) 0 (itV []):=World.ownsRow_nil _ _ _ _;go_loopw [4,5] (fun v p wr=>∃(k:Nat) (xs:List El),k<=rs.length/\p=.int .i64 ((ip rs k:Nat):Int)/\wr.ownsRow w.heap.size 226 2 v k (itV xs)/\Hid (came xs=rs.take k)/\allIn B w xs wr/\Below w.heap.size w wr) (fun _ p _=>n-(intOf p).toNat)
 case atStart=>exact⟨0,[],Nat.zero_le _,by rw[ny];rfl,ho0,rfl,(fun x hx=>by cases hx),Below.refl _ _⟩
 case round=>
  obtain⟨k,xs,hk,rfl,hown,Hx,hall,hbr⟩:=hrel;have hip:ip rs k<=n:=by
   by_cases hkr:k<rs.length
   ·obtain⟨_,_,h3,h4⟩:=hAt.out k hkr;have:=HB.out;omega
   obtain rfl:k=rs.length:=by omega
   have:=hLast.out.2;have:=HB.out;omega
  have hlow0:0<cap->∀a,ao=some a->a.block<w.heap.size:=hrd.lt;have hrw:=hrd.below hbr hlow0;have hca:cap=0\/∃b1 o1,ao=some ⟨b1,o1,none⟩/\b1<w.heap.size:=by
   by_cases h0:0<cap
   ·obtain⟨b1,o1,h1,h2,_⟩:=hrd.some h0;exact .inr ⟨b1,o1,h1,h2⟩
   exact .inl (by omega)
  by_cases hc:cap=ip rs k
  ·have hn0:n-ip rs k=0:=by have:=hrd.le;omega
   have hd0:b.drop (ip rs k)=[]:=List.drop_eq_nil_of_le (by have:=HB.out;omega);have Hd0:=Lib.hid hd0;clear hd0;subst hc;go_wp2_with fail;refine (zC B w _ _ _ (b.drop (ip rs k)) wr (by rw[Hd0.out];exact⟨rfl,Nat.le_refl _,Nat.zero_le _,(fun _=>rfl),fun h=>absurd h (Nat.lt_irrefl 0)⟩) (by omega) (fun h=>absurd h (Nat.lt_irrefl 0))).mono ?_;rintro e w1 ⟨hb1,hc1⟩;have hbc:=hbr.trans (hb1.mono hbr.size);have hall1:=hall.below hB (hb1.mono hbr.size);have hown1:=aF hown hb1;by_cases hkr:k<rs.length
   ·obtain⟨hx,hf,hip1,hle⟩:=hAt.out k hkr;rcases hc1 with ⟨h00,_⟩ | ⟨_,x,hxi,rfl,hg,hlw⟩
    ·exact absurd h00 hf
    have Hxi:=Lib.hid (hx.trans hxi.symm);have Hip:=Lib.hid hip1;have hfp:=gm _ hf;have hle2:ip rs k+fs (b.drop (ip rs k))<=n:=by have:=HB.out;omega
    clear hx hip1 hle hxi;generalize hff:fs (b.drop (ip rs k))=f at *;clear hff;exfalso;have:=hrd.le;omega
   obtain rfl:k=rs.length:=by omega
   rcases hc1 with ⟨_,rfl⟩ | ⟨h00,_⟩
   case inr=>exact absurd hLast.out.1 h00
   have hfin:=AO Hrs.out Hx.out hown1 hall1 hbc;go_wp2;go_ret2;exact hfin
  obtain⟨b1,o1,e1,hlt1⟩:∃b1 o1,ao=some ⟨b1,o1,none⟩/\b1<w.heap.size:=hca.resolve_left (fun h0=>hc (by have:=hrd.le;omega));subst e1;have hc2:¬cap-ip rs k=0:=by have:=hrd.le;omega
  go_wp2_with fail;refine (zC B w _ _ _ (b.drop (ip rs k)) wr (nz hrw hip) (by omega) (fun _ a ha=>by cases ha;exact hty (by have:=hrd.le;omega) ⟨b1,o1,none⟩ rfl)).mono ?_;rintro e w1 ⟨hb1,hc1⟩;have hbc:=hbr.trans (hb1.mono hbr.size);have hall1:=hall.below hB (hb1.mono hbr.size);have hown1:=aF hown hb1;by_cases hkr:k<rs.length
  ·obtain⟨hx,hf,hip1,hle⟩:=hAt.out k hkr;rcases hc1 with ⟨h00,_⟩ | ⟨_,x,hxi,rfl,hg,hlw⟩
   ·exact absurd h00 hf
   have Hxi:=Lib.hid (hx.trans hxi.symm);have Hip:=Lib.hid hip1;have hfp:=gm _ hf;have hle2:ip rs k+fs (b.drop (ip rs k))<=n:=by have:=HB.out;omega
   clear hx hip1 hle hxi;generalize hff:fs (b.drop (ip rs k))=f at *;clear hff;have f1:((f:Int)==0)=false:=by simp;omega
   have hk5:k<=100000000:=by omega
   go_wp2_with (at_builtin;refine fD _ rfl (.tmp 21) (.tmp 25) 222 rfl w.heap.size 226 (.agg #[.int .u8 0,.slice none 0 0]) 2 32 itT (by decide) _ k (itV xs) rfl hown1 1 [.int .u8 (x.it.1.toNat:Int),.slice x.ao x.it.2.length x.cap] rfl rfl (fun u hu=>by simp at hu;rcases hu with rfl|rfl<;>rfl) hbc.size (by omega) ?_;intro ao' cap' w2 ho2 _ hb2 _);go_roundw
   case rel=>exact⟨k+1,xs++[x],by omega,(by rw[Hip.out];go_num),(by rw[NP];exact ho2),mF Hx.out hkr Hxi.out,(hall1.snoc hg hlw).below hB hb2,hbc.trans hb2⟩
   case measure=>simp[intOf];omega
  obtain rfl:k=rs.length:=by omega
  rcases hc1 with ⟨_,rfl⟩ | ⟨h00,_⟩
  case inr=>exact absurd hLast.out.1 h00
  have hfin:=AO Hrs.out Hx.out hown1 hall1 hbc;go_wp2;go_ret2;exact hfin
def lsV (xs:List El):List Value:=xs.map fun x=>.slice x.ao x.it.2.length x.cap
theorem Dk (a b:List El):lsV (a++b)=lsV a++lsV b:=by simp[lsV]
theorem wX (xs:List El)(k:Nat)(y:El)(h:xs[k]?=some y):(lsV xs)[k]?=some (.slice y.ao y.it.2.length y.cap):=by simp[lsV,h]
theorem OG (xs:List El)(k:Nat)(y:El)(h:xs[k]?=some y):(itV xs)[k*2]?=some (.int .u8 (y.it.1.toNat:Int))/\(itV xs)[k*2+1]?=some (.slice y.ao y.it.2.length y.cap):=by
 induction xs generalizing k with
 | nil=>simp at h
 | cons z xs ih=>
  cases k with
  | zero=>
   rw[List.getElem?_cons_zero,Option.some.injEq] at h;subst h;exact⟨rfl,rfl⟩
  | succ k=>
   rw[List.getElem?_cons_succ] at h;obtain⟨h1,h2⟩:=ih k h;have e1:(k+1)*2=k*2+2:=by omega
   rw[e1];exact⟨h1,h2⟩
theorem lsT:SliceT Tryz.prog 151 34 (.slice none 0 0) 1 24:=⟨Tryz.underlying151,by kernel_rfl,rfl,by decide⟩
def aP (o:UInt8)(L:List (List UInt8)):List UInt8:=L.flatMap (val o)
theorem qL (o:UInt8)(x:List UInt8)(L:List (List UInt8)):aP o (x::L)=val o x++aP o L:=rfl
theorem oU (o:UInt8)(ho:0<o.toNat):∀L:List (List UInt8),(aP o L).length<=4194304->its (aP o L)=L.map fun b=>(o,b)
 | [],_=>rfl
 | x::L,h=>by
  rw[qL,List.length_append,ae] at h;rw[qL,Ea o x _ ho (by omega),oU o ho L (by omega)];rfl
theorem qw (o:UInt8):∀rs:List It,(∀x∈rs,x.1=o)->vals rs=aP o (rs.map (·.2))
 | [],_=>rfl
 | x::rs,h=>by
  rw[oZ,List.map_cons,qL,qw o rs (fun y hy=>h y (by simp[hy])),h x (by simp)]
theorem FY (n:Nat):∀l:List UInt8,l.length<=n->∃r,l=vals (its l)++r:=by
 induction n with
 | zero=>
  intro l hl;have:l=[]:=List.eq_nil_of_length_eq_zero (by omega);subst this;exact⟨[],rfl⟩
 | succ n ih=>
  intro l hl;by_cases h:fs l=0
  ·exact⟨l,by rw[BB l h];rfl⟩
  have h5:=gm l h;have hle:=jU l;obtain⟨r,hr⟩:=ih (l.drop (fs l)) (by rw[List.length_drop];omega);have h1:=(yA l h).1;refine⟨r,?_⟩;rw[wH l h,oZ,List.append_assoc,<-hr];exact h1
theorem H9 (n:Nat):∀l:List UInt8,l.length<=n->∀y∈its l,y.2.length<=4194304:=by
 induction n with
 | zero=>
  intro l hl y hy;have:l=[]:=List.eq_nil_of_length_eq_zero (by omega);subst this;cases hy
 | succ n ih=>
  intro l hl y hy;by_cases h:fs l=0
  ·rw[BB l h] at hy;cases hy
  have h5:=gm l h;have hle:=jU l;rw[wH l h] at hy;rcases List.mem_cons.1 hy with rfl | hy
  ·exact (yA l h).2.2
  exact ih (l.drop (fs l)) (by rw[List.length_drop];omega) y hy
theorem Et (l:List UInt8)(h:ip (its l) (its l).length=l.length):l=vals (its l):=by
 obtain⟨r,hr⟩:=FY l.length l (Nat.le_refl _);have h1:=congrArg List.length hr;rw[List.length_append,<-BG,h] at h1;have:r=[]:=List.eq_nil_of_length_eq_zero (by omega);rw[this,List.append_nil] at hr;exact hr
theorem Le {x:List UInt8}{o:UInt8}(ho:0<o.toNat)(h:(∃y∈its x,y.1≠o)\/ip (its x) (its x).length≠x.length)(L:List (List UInt8))(hl:(aP o L).length<=4194304):aP o L≠x:=by
 intro e;have h1:=oU o ho L hl;rw[e] at h1;rcases h with ⟨y,hy,hne⟩ | h
 ·rw[h1,List.mem_map] at hy;obtain⟨b,_,rfl⟩:=hy;exact hne rfl
 refine h ?_;have h2:=qw o (its x) (by rw[h1];intro y hy;rw[List.mem_map] at hy;obtain⟨b,_,rfl⟩:=hy;rfl);rw[BG,h2,h1,List.map_map];rw[show ((fun x:It=>x.2)∘fun b=>(o,b))=id from rfl,List.map_id,e]
theorem OI {W:World}{B n size:Nat}{e:TypeId}{ao:Option Addr}{cap:Nat}{xs:List Value}(h:W.ownsRow B e size (.slice ao n cap) n xs):∀a,ao=some a->B<=a.block:=by
 intro a ha;subst ha;rcases h.2 with ⟨h,_⟩ | ⟨g,c,cur,h,hg,_⟩
 ·cases h
 cases h;exact hg
def NS (B g:Nat)(t o:UInt8)(s:RS)(W:World)(e:Ending)(w':World):Prop:=∃ao cap xs s',e=.returned (.slice ao xs.length cap)/\Rd w' 1 ao xs.length cap (lsV xs)/\allIn B w' xs w'/\(∀a,ao=some a->W.heap.size<=a.block)/\xs.length<=100000000/\((∀x∈xs,x.it.2.length<=4194304)/\(aP o (xs.map fun x=>x.it.2)).length<=4194304)/\RfS B g s' w'/\W.grownBy w' (some g) /\
 Took (fun L=>val t (aP o L)) (fun L=>(aP o L).length<=4194304) (fun L=>(aP o L).length<=4194304) s (xs.map fun x=>x.it.2) s'
theorem allIn.self {B:Nat}{w W:World}{xs:List El}(h:allIn B w xs W)(hb:Below w.heap.size w W):allIn B W xs W:=fun x hx=>⟨(h x hx).1,(h x hx).2.later hb⟩
theorem J9 {s s1:RS}{x:List UInt8}{t o:UInt8}{xs:List El}(T:Took (val t) (fun z=>z.length<=4194304) (fun z=>z.length<=4194304) s x s1)(ht:0<t.toNat)(ho:0<o.toNat)(hc:came xs=its x) :
  (s1.bad=false->(∀y∈its x,y.1=o)->ip (its x) (its x).length=x.length->Took (fun L=>val t (aP o L)) (fun L=>(aP o L).length<=4194304) (fun L=>(aP o L).length<=4194304) s (xs.map fun x=>x.it.2) s1) /\
  (s1.bad=true\/(∃y∈its x,y.1≠o)\/ip (its x) (its x).length≠x.length->Took (fun L=>val t (aP o L)) (fun L=>(aP o L).length<=4194304) (fun L=>(aP o L).length<=4194304) s [] ⟨s1.l,true⟩):=by
 constructor
 ·intro hb h1 h2;have hx:x=aP o (xs.map fun x=>x.it.2):=by
   have h3:=Et x h2;rw[qw o (its x) h1,<-hc] at h3;rw[h3];unfold came;rw[List.map_map];rfl
  refine⟨fun _=>?_,fun h=>(by rw[hb] at h;cases h),T.le⟩;obtain⟨e1,e2,e3⟩:=T.yes hb;rw[<-hx];exact⟨e1,e2,e3⟩
 intro h;refine⟨fun hb=>(by cases hb),fun _=>?_,T.le⟩;cases hb:s1.bad with
 | true=>exact (T.no hb).imp id (fun h L r hL=>h _ r hL)
 | false=>
  obtain⟨e1,e2,e3⟩:=T.yes hb;refine .inr fun L r hL e=>?_;rw[e2] at e;have hx:=(ak ht e3 hL e).1;rcases h with h | h
  ·rw[hb] at h;cases h
  exact Le ho h L hL hx.symm
theorem xu (B g:Nat)(s:RS)(t o:UInt8)(W:World)(ht:0<t.toNat)(ho:0<o.toNat)(hr:RfS B g s W)(hl:s.l.length<=100000000):Calls Tryz.prog 94 #[.pointer (some ⟨g,0,none⟩),.int .u8 (t.toNat:Int),.int .u8 (o.toNat:Int)] W (NS B g t o s W):=by
 have hgs:=hr.lt;have hc:=jS B g s t W hr hl;have T:=bI s t ht;have hxl:(s.bytes t).1.length<=4194304:=by
  unfold RS.bytes;cases h:s.take t with
  | mk ox s'=>
   cases ox with
   | none=>simp
   | some x=>exact (dJ h).2.2.2.1
 unfold iU at hc;generalize s.bytes t=r at *;obtain⟨x,s1⟩:=r;dsimp only at hc T hxl;have HTt:=Lib.hid ht;have HTo:=Lib.hid ho;clear ht ho hr;go_in;go_wp2_with fail;refine hc.mono ?_;rintro e W1 ⟨hr1,hg1,ao1,cap1,rfl,hrd1,hty1⟩;go_wp2_with fail;have hBW:B<=W1.heap.size:=Nat.le_trans hr1.le (Nat.le_of_lt hr1.lt);refine (Oh B ao1 x.length cap1 x W1 hrd1 hBW hty1 (by omega)).mono ?_;rintro e W2 ⟨ao2,cap2,xs,rfl,hcame,hrd2,hall2,hb2,hfr2⟩;have hTL:=J9 (o:=o) T HTt.out HTo.out hcame;have hipl:=(wu x).2;have hlR:=xR x;have hxn:xs.length=(its x).length:=by rw[<-hcame];simp[came]
 have hsm:=H9 x.length x (Nat.le_refl _);generalize hrs:its x=rs at *;have Hsm:=Lib.hid hsm;clear hsm;have Hcame:=Lib.hid hcame;have HTL:=Lib.hid hTL;clear hcame hTL T hrs;have hz1:=hg1.size;have hz2:=hb2.size;have hr2:=hr1.later hb2;have hg2:W.grownBy W2 (some g):=aV hg1 (fG hb2 _);have ho0:W2.ownsRow W2.heap.size 34 1 (.slice none 0 0) 0 (lsV []):=World.ownsRow_nil _ _ _ _;have i64:IntKind.i64.wrap (1:Int)=1:=rfl;go_wp2_with fail;go_loopw [10,11] (fun v p wr=>∃k:Nat,k<=rs.length/\p=.int .i64 (k:Int)/\wr.ownsRow W2.heap.size 34 1 v k (lsV (xs.take k))/\Below W2.heap.size W2 wr/\Hid (∀y∈rs.take k,y.1=o)) (fun _ p _=>rs.length-(intOf p).toNat)
 case atStart=>exact⟨0,Nat.zero_le _,rfl,ho0,Below.refl _ _,Lib.hid (fun y hy=>by simp at hy)⟩
 case round=>
  obtain⟨k,hk,rfl,own,hbr,Hall⟩:=hrel;have hr3:=hr2.later hbr;have hg3:W.grownBy wr (some g):=aV hg2 (fG hbr _);by_cases hkn:k<rs.length
  ·obtain⟨b1,o1,rfl,hl1,hc1⟩:=hrd2.some (by have:=hrd2.le;omega);obtain⟨u,hue⟩:∃u,xs[k]?=some u:=⟨_,List.getElem?_eq_getElem (by omega)⟩
   obtain⟨v1,v2⟩:=OG xs k u hue;have c1:=(hbr.cell (p:=⟨b1,o1+k*2,none⟩) hl1).trans (hc1 (k*2) _ v1);have c2:wr.cell? ⟨b1,o1+k*2+1,none⟩=_:=(hbr.cell (p:=⟨b1,o1+(k*2+1),none⟩) hl1).trans (hc1 (k*2+1) _ v2);have hru:rs[k]?=some u.it:=by rw[<-Hcame.out];simp[came,hue]
   have i0:(0:Int)<=(k:Int):=by omega
   have i1:(k:Int)<(rs.length:Int):=by omega
   obtain⟨ao3,cap3,h3⟩:=hr3;obtain⟨d0,d1,z0,z1⟩:=gy h3;have Hru:=Lib.hid hru;have Hue:=Lib.hid hue;clear hc1 v1 v2 hru hue;by_cases hto:u.it.1=o
   ·have f0:(((u.it.1.toNat:Int)) != (o.toNat:Int))=false:=by rw[hto];simp
    have z0:=hbr.size;go_wp2_with (at_builtin;refine fD _ rfl (.tmp 36) (.tmp 42) 151 rfl W2.heap.size 34 (.slice none 0 0) 1 24 lsT (by decide) _ k (lsV (xs.take k)) rfl own 1 [.slice u.ao u.it.2.length u.cap] rfl rfl (one1 _ rfl) z0 (by omega) ?_;intro ao' cap' w2 ho2 _ hb3 _);go_roundw
    case rel=>
     refine⟨k+1,by omega,by go_num,?_,hbr.trans hb3,Lib.hid (fun y hy=>?_)⟩
     ·have e:xs.take (k+1)=xs.take k++[u]:=by rw[List.take_add_one,Hue.out];rfl
      rw[e,Dk];exact ho2
     have e:rs.take (k+1)=rs.take k++[u.it]:=by rw[List.take_add_one,Hru.out];rfl
     rw[e,List.mem_append,List.mem_singleton] at hy;rcases hy with hy | rfl
     ·exact Hall.out y hy
     exact hto
    case measure=>simp[intOf];omega
   have f0:(((u.it.1.toNat:Int)) != (o.toNat:Int))=true:=by
    rw[bne_iff_ne];intro e;exact hto (UInt8.toNat_inj.1 (by omega))
   have hT:=HTL.out.2 (.inr (.inl ⟨u.it,List.mem_of_getElem? Hru.out,hto⟩));have hF:=h3.fail;go_wp2_with fail;go_ret;exact⟨none,0,[],⟨s1.l,true⟩,rfl,Rd.nil _ _,(fun x hx=>by cases hx),(fun a ha=>by cases ha),Nat.zero_le _,⟨(fun x hx=>by cases hx),Nat.zero_le _⟩,⟨_,_,hF⟩,aV hg3 (ai _ _ _ _),hT⟩
  obtain rfl:k=rs.length:=by omega
  obtain⟨ao3,cap3,h3⟩:=hr3;obtain⟨d0,d1,z0,z1⟩:=gy h3;rw[List.take_of_length_le (Nat.le_refl _)] at Hall;rw[List.take_of_length_le (by omega)] at own;have hF:=h3.fail;cases hs1:s1.bad with
  | true=>
   have hT:=HTL.out.2 (.inl hs1);rw[hs1] at d1;clear hs1;go_wp2_with fail;go_ret;exact⟨none,0,[],⟨s1.l,true⟩,rfl,Rd.nil _ _,(fun x hx=>by cases hx),(fun a ha=>by cases ha),Nat.zero_le _,⟨(fun x hx=>by cases hx),Nat.zero_le _⟩,⟨_,_,hF⟩,aV hg3 (ai _ _ _ _),hT⟩
  | false=>
   rw[hs1] at d1;by_cases hip:ip rs rs.length=x.length
   ·have hT:=HTL.out.1 hs1 Hall.out hip;have f0:(((ip rs rs.length:Nat):Int) != (x.length:Int))=false:=by rw[hip];simp
    obtain⟨ao4,cap4,rfl,hrd4⟩:=Rd.of_own own;have hfr:=OI own;have HB1:Hid ((aP o (xs.map fun x=>x.it.2)).length<=4194304):=Lib.hid (hT.yes hs1).2.2;clear hs1 hip;go_wp2_with fail;go_ret;rw[<-hxn] at hrd4 ⊢;exact⟨ao4,cap4,xs,s1,rfl,hrd4,(hall2.below hBW (hbr.mono hb2.size)).self (hb2.trans (hbr.mono hb2.size)),fun a ha=>Nat.le_trans (Nat.le_trans hz1 hz2) (hfr a ha),by omega,⟨fun y hy=>Hsm.out y.it (by rw[<-Hcame.out];exact List.mem_map_of_mem hy),HB1.out⟩,⟨_,_,h3⟩,hg3,hT⟩
   have hT:=HTL.out.2 (.inr (.inr hip));have f0:(((ip rs rs.length:Nat):Int) != (x.length:Int))=true:=by rw[bne_iff_ne];omega
   clear hs1 hip;go_wp2_with fail;go_ret;exact⟨none,0,[],⟨s1.l,true⟩,rfl,Rd.nil _ _,(fun x hx=>by cases hx),(fun a ha=>by cases ha),Nat.zero_le _,⟨(fun x hx=>by cases hx),Nat.zero_le _⟩,⟨_,_,hF⟩,aV hg3 (ai _ _ _ _),hT⟩
end Go.Proofs.YtfmmandlmbcncaaGreatDoor.Tlv
