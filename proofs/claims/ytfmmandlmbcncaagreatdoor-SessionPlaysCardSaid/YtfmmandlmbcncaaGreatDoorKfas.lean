/-A part of the proof.-/
import Derived.ArgAppend
import Derived.Test.YtfmmandlmbcncaaGreatDoorKfar
set_option maxHeartbeats 40000000
set_option maxRecDepth 100000
set_option linter.all false
namespace Go.Proofs.YtfmmandlmbcncaaGreatDoor
namespace Mem
open Go Go.RowKit
theorem Fh {w:World}{C:Nat}{e:TypeId}{size:Nat}{v:Value}{n:Nat}{xs:List Value}(h:w.ownsRow C e size v n xs):∀k,v.ownBlock=some k->C<=k:=by
 intro k hk;rcases h.2 with ⟨rfl,_⟩ | ⟨g,cap,cur,rfl,h4,_⟩
 ·cases hk
 have:g=k:=by simpa [Value.ownBlock] using hk
 omega
section
variable {P:Program} {w:World}
theorem yC (base:Nat)(t ty e:TypeId)(z:Value)(size bytes:Nat)(T:SliceT P t e z size bytes)
  (v:Value) (n:Nat) (xs:List Value) (hown:w.ownsRow base e size v n xs) (ao:Option Addr) (m c:Nat) (news:List Value) (hr:Rd w size ao m c news) (h1:∀u∈news,u.oneCell'=true)
  (h63:n+m<=maxLen) (hbytes:(n+m)*bytes<=140737488355328) (hbase:base<=w.heap.size) :
  ∃ao' cap' w',(Builtin.append_ #[t,t] ty #[v,.slice ao m c]).run P w=.ok (.slice ao' (n+m) cap') w'/\w'.ownsRow base e size (.slice ao' (n+m) cap') (n+m) (xs++news)/\w.grownBy w' v.ownBlock/\Below base w w' /\
   (∀k,(Value.slice ao' (n+m) cap').ownBlock=some k->v.ownBlock=some k\/w.heap.size<=k):=by
 obtain⟨ao',cap',w',hrun,r1,r2,r3,r4⟩:=xk (P:=P) w base t ty e z size bytes T v n xs hown ao m c news hr h1 h63 hbytes hbase;refine⟨ao',cap',w',hrun,r1,r2,r3,?_⟩;have hown':=hown;rcases hown'.2 with ⟨rfl,rfl⟩ | ⟨g,cap,cur,rfl,hb,hg,hn,hc,hs,ht⟩
 ·have hx:xs=[]:=yat (by have:=hown.1;simpa using this);subst hx;obtain⟨ao2,cap2,w2,hrun2,q1,-⟩:=xk (P:=P) w w.heap.size t ty e z size bytes T (.slice none 0 0) 0 [] (yaC _ _ _ _) ao m c news hr h1 h63 hbytes (yag _);rw[hrun] at hrun2;injection hrun2 with e1 e2;rw[<-e1] at q1;intro k hk;exact .inr (Fh q1 k hk)
 by_cases hroom:n+m<=cap
 ·obtain⟨i,hi,hz,hs',hby⟩:=info_parts T.info;have hsame:∃w2,(Builtin.append_ #[t,t] ty #[.slice (some ⟨g,0,none⟩) n cap,.slice ao m c]).run P w=.ok (.slice (some ⟨g,0,none⟩) (n+m) cap) w2:=by
   cases ao with
   | none=>
    have h0:c=0:=hr.2.2.2.1 rfl;have hm:m=0:=by have:=hr.2.1;omega
    subst h0;subst hm;exact⟨w,run_append_owned_none (P:=P) w base t ty e i size T.ht hi _ n xs hown⟩
   | some a=>
    refine⟨_,run_append_room_cells (P:=P) w t ty e i T.ht hi g 0 n cap a m c news (by rw[hs'];exact hr.1) hr.adds h1 hroom (fun j hj=>?_) (fun j hj=>by simp[World.frozen?,hg])⟩;have h2:=hr.1;have h3:(n+m)*size<=cap*size:=ybc size hroom;rw[Nat.add_mul] at h3;have hlt:0+n*i.size+j<cur.size:=by rw[hs'];omega
    simp[World.cell?,hg];omega
  obtain⟨w2,hrun2⟩:=hsame;rw[hrun] at hrun2;injection hrun2 with e1 e2;rw[e1];intro k hk;exact .inl hk
 obtain⟨g2,cap2,w2,hrun2,q1,-⟩:=NR (P:=P) w t ty e z size bytes T _ n cap xs (Rd.of_own_slice hown) ao m c news hr h1 (by omega) h63 hbytes;rw[hrun] at hrun2;injection hrun2 with e1 e2;rw[<-e1] at q1;intro k hk;exact .inr (Fh q1 k hk)
theorem oh {ops:Array Oper}{Q:Exit->Act->World->Prop}{o:Oper}{a:Act}{w:World}{K:Act->World->Prop}{E:Prop}(hgd:o.guard=none)(s x:Operand)(t:TypeId)
  (ho:o.op=.call { callee:=.builtin .append,args:=#[s,x],argTypes:=#[t,t] }) (base:Nat) (e:TypeId) (z:Value) (size bytes:Nat) (T:SliceT P t e z size bytes)
  (v:Value) (n:Nat) (xs:List Value) (hs:a.eval s=v) (hown:w.ownsRow base e size v n xs) (ao:Option Addr) (m c:Nat) (news:List Value) (hx:a.eval x=.slice ao m c) (hr:Rd w size ao m c news) (h1:∀u∈news,u.oneCell'=true)
  (h63:n+m<=maxLen) (hbytes:(n+m)*bytes<=140737488355328) (hbase:base<=w.heap.size)
  (h:∀ao' cap' w',w'.ownsRow base e size (.slice ao' (n+m) cap') (n+m) (xs++news)->w.grownBy w' v.ownBlock->Below base w w'->(∀k,(Value.slice ao' (n+m) cap').ownBlock=some k->v.ownBlock=some k\/w.heap.size<=k)->K (a.put o.dst (.slice ao' (n+m) cap')) w') :
  if Region.wanted o (yielded ops a.tmps)=true then Oper.wp P o a w K Q else E:=by
 have hw:Region.wanted o (yielded ops a.tmps)=true:=by simp[Region.wanted,hgd]
 rw[if_pos hw];obtain⟨ao',cap',w',hrun,r1,r2,r3,r4⟩:=yC (P:=P) base t o.type e z size bytes T v n xs hown ao m c news hr h1 h63 hbytes hbase;unfold Oper.wp execOp;simp only[ho,resolve,invoke,builtin,yaY,ybp,ycu,ycD,ybS,List.map_nil,hs,hx,hrun];exact h ao' cap' w' r1 r2 r3 r4
end
end Mem
namespace Mem
open Go.RowKit
section
variable {P:Program} (w:World)
theorem EE {ops:Array Oper}{rest:List Oper}{o:Oper}{a:Act}{Q:Exit->Act->World->Prop}(hgd:o.guard=none)(s x:Operand)(t:TypeId)
  (ho:o.op=.call { callee:=.builtin .append,args:=#[s,x],argTypes:=#[t,t] }) (base:Nat) (e:TypeId) (z:Value) (size bytes:Nat) (T:SliceT P t e z size bytes) (hby:bytes<=10000)
  (v:Value) (n:Nat) (xs:List Value) (hs:a.eval s=v) (hown:w.ownsRow base e size v n xs) (m:Nat) (news:List Value) (hx:a.eval x=.slice (some ⟨w.heap.size,0,none⟩) m m) (hl:news.length=m*size) (h1:∀u∈news,u.oneCell'=true)
  (hbase:base<=w.heap.size) (hN:n+m<=10000000000)
  (h:∀ao' cap' w',w'.ownsRow base e size (.slice ao' (n+m) cap') (n+m) (xs++news)->(w.alloc (.cells news.toArray e)).grownBy w' v.ownBlock->Below base w w'->(∀k,(Value.slice ao' (n+m) cap').ownBlock=some k->v.ownBlock=some k\/w.heap.size+1<=k)->wpList P ops Q rest (a.put o.dst (.slice ao' (n+m) cap')) w') :
  wpList P ops Q (o::rest) a (w.alloc (.cells news.toArray e)):=by
 refine wpList_plain hgd fun K hK=>?_;have hb:(n+m)*bytes<=140737488355328:=by
  have:=Nat.mul_le_mul hN hby;omega
 obtain⟨ao',cap',w',hrun,r1,r2,r3,r4⟩:=yC (P:=P) (w:=w.alloc (.cells news.toArray e)) base t o.type e z size bytes T v n xs (hown.alloc _) _ m m news (Rd.new w news e (0,0) size m hl (by unfold maxLen;omega)) h1 (by unfold maxLen;omega) hb (by simp;omega);unfold Oper.wp execOp;simp only[ho,resolve,invoke,builtin,yaY,ybp,ycu,ycD,ybS,List.map_nil,hs,hx,hrun];exact hK _ _ (h ao' cap' w' r1 r2 (((yaj base w).alloc hbase _).trans r3) (fun k hk=>(r4 k hk).imp id (fun h=>by simpa using h)))
end
end Mem
namespace Msg
open Go.RowKit Go.Lib Mem Tlv
variable{M m:Nat}{W W' a b w:World}{u v:QV}
theorem AP{row:Option Nat}{size:Nat}{ao:Option Addr}{n cap:Nat}{xs:List Value}(h:Rd W size ao n cap xs)(hg:W.grownBy W' row)(hd:0<cap->∀a,ao=some a->some a.block≠row):Rd W' size ao n cap xs:=by
 obtain⟨h1,h2,h3,h4,h5⟩:=h;refine⟨h1,h2,h3,h4,fun h0 a ha=>?_⟩;obtain⟨s1,l,c⟩:=h5 h0 a ha;exact⟨s1,yaz l hg.size,fun j u hu=>(yaK (a:=⟨a.block,a.off+j,none⟩) (hg.block _ l (hd h0 a ha))).trans (c j u hu)⟩
theorem lX{xs:List Nat}(h:BelX M xs a b)(k:Nat)(cs:Array Value)(hk:k∈xs):BelX M xs a (b.setRow k cs):=by
 have hb:=below_setRow (yaj k b) (yag _) cs;exact⟨hb.os.trans h.os,hb.tape.trans h.tape,hb.output.trans h.output,yae h.size hb.size,fun j h1 h2=>(yba b k j cs (fun e=>h2 (e▸hk))).trans (h.block j h1 h2)⟩
structure FreshQ (m:Nat)(u:QV)(l:List EP):Prop where
 e:∀a,u.eo=some a->m<=a.block
 a:∀p∈l,∀a,p.1.ao=some a->m<=a.block
 c:∀a,u.co=some a->m<=a.block
theorem FreshQ.mono{m':Nat}{l:List EP}(h:FreshQ m u l)(hm:m'<=m):FreshQ m' u l:=⟨fun a ha=>yae hm (h.e a ha),fun p hp a ha=>yae hm (h.a p hp a ha),fun a ha=>yae hm (h.c a ha)⟩
theorem QAt.freshX{ys:List Nat}{c:QC}(h:QAt a u c)(hf:FreshQ m u c.ents)(hX:BelX M ys a b)(hM:a.heap.size<=M)(hy:∀k∈ys,k<m):QAt b u c:=by
 have ha:∀ {size n cap:Nat} {ao:Option Addr} {xs:List Value},Rd a size ao n cap xs->(∀x,ao=some x->m<=x.block)->Rd b size ao n cap xs:=fun hr hf=>wW hr hX (fun h0 x hx=>⟨yaz (hr.lt h0 x hx) hM,fun hm=>by have:=hy _ hm;have:=hf x hx;omega⟩);exact⟨⟨ha h.e.r hf.e,fun p hp=>⟨ha (h.e.each p hp).a (hf.a p hp),(h.e.each p hp).la⟩⟩,ha h.c hf.c,h.lc⟩
def Pm (v:QV)(c:QC)(w:World)(e:Ending)(w':World):Prop:=∃(u:QV) (l:List EP),e=.returned u.val/\QAt w' u ⟨l,c.cursor⟩/\aF u ⟨l,c.cursor⟩ v c=true/\u.en=v.en/\u.cn=v.cn/\FreshQ w.heap.size u l/\Below w.heap.size w w'
structure CqAt (w:World)(v:QV)(W:World):Prop where
 o:W.heap[w.heap.size]?=some v.box
 z:W.heap[w.heap.size+1]?=some aG.box
 bel:Below w.heap.size w W
theorem CqAt.step(h:CqAt w v W)(hb:Below W.heap.size W W'):CqAt w v W':=⟨(hb.q h.o),(hb.q h.z),h.bel.trans (hb.mono h.bel.size)⟩
theorem CqAt.turn{B:Nat}(h:CqAt w v W)(hb:Below B W W')(hB:w.heap.size+2<=B):CqAt w v W':=⟨(hb.block _ (by omega)).trans h.o,(hb.block _ (by omega)).trans h.z,h.bel.trans (hb.mono (by omega))⟩
structure CrLoop (w:World)(v:QV)(c:QC)(k:Nat)(lv:Value)(wr:World):Prop where
 at_:CqAt w v wr
 ex:∃l:List EP,wr.ownsRow (w.heap.size+2) 124 2 lv k (enV l)/\l.length=k/\(∀p∈l,EAt wr p.1 p.2/\∀a,p.1.ao=some a->w.heap.size+2<=a.block/\(0<p.1.ac->lv.ownBlock≠some a.block))/\aP l (c.ents.take k)=true
def SmallE (l:List EP):Prop:=∀p∈l,p.2.length<=1000000000
theorem SmallE.same:∀ {l m:List EP},aP l m=true->SmallE m->SmallE l
 | [],[],_,_=>fun _ hp=>(by cases hp)
 | p::l,q::m,h,hs=>by
  unfold aP at h;rw[yaq] at h;have h1:=h.1;unfold bZ at h1;rw[yaq] at h1;intro u hu;rcases yas.1 hu with rfl | hu
  ·rw[yar h1.2];exact hs q (by simp)
  exact SmallE.same h.2 (fun z hz=>hs z (by simp[hz])) u hu
 | [],_::_,h,_=>by cases h
 | _::_,[],h,_=>by cases h
theorem rY(v:QV)(c:QC)(w:World)(h:QAt w v c)(hen:v.en<=1000000)(hla:SmallE c.ents):Calls Tryz.prog 55 #[v.val] w (Pm v c w):=by
 have HLA:=hid hla;clear hla;have lx:=h.e.len;have LX:=hid lx;have hb0:Below w.heap.size w ((w.alloc v.box).alloc aG.box):=cu w _ _;obtain⟨k1,k2⟩:=dh w v.box aG.box;clear lx;unfold aG QV.box QV.cells at hb0 k1 k2;unfold QV.val QV.cells;go_in;go_upto_region 1 with fail;generalize hg:World.alloc _ _=W0 at *;have s0:CqAt w v W0:=⟨k1,k2,hb0⟩
 clear hg k1 k2 hb0;obtain⟨c0,c1,c2,c3,c4⟩:=bf s0.o;have own0:W0.ownsRow (w.heap.size+2) 124 2 (.slice none 0 0) 0 (enV []):=yaC _ _ _ _;go_wp2_with fail;clear c0 c1 c2 c3 c4;go_loopw [3,9] (fun l p wr=>∃k:Nat,k<=v.en/\p=.int .i64 (k:Int)/\CrLoop w v c k l wr) (fun _ p _=>v.en-(intOf p).toNat)
 case atStart=>exact⟨0,yam _,rfl,s0,[],own0,rfl,(fun p hp=>by cases hp),rfl⟩
 case round=>
  obtain⟨k,hk,rfl,hL⟩:=hrel;obtain⟨l,own,hlk,hE,hsm⟩:=hL.ex;have s1:=hL.at_;have HLk:=hid hlk;have HSm:=hid hsm;clear hL hlk hsm own0 s0;by_cases hkn:k<v.en
  ·have hEn:=(h.later s1.bel).e;obtain⟨b1,o1,hao,hl1,hc1⟩:=hEn.r.some (by have:=hEn.r.le;omega);obtain⟨p,hp⟩:∃p,c.ents[k]?=some p:=⟨_,yac (by rw[LX.out];exact hkn)⟩
   obtain⟨v1,v2⟩:=nD c.ents k p hp;have x1:=hc1 (k*2) _ v1;have x2:wr.cell? ⟨b1,o1+k*2+1,none⟩=_:=hc1 (k*2+1) _ v2;have hEp:=hEn.each p (yan hp);have HP:=hid hp;have i0:(0:Int)<=(k:Int):=by omega
   have i1:(k:Int)<(v.en:Int):=by omega
   rw[hao];clear hc1 v1 v2 hp hEn hao;go_upto_region 5 with (refine zNr rfl ?_;go_simp);generalize hg:wr.alloc _=W1;have e1:wr.alloc p.1.box=W1:=hg;have hb1:=bE e1
   have q1:W1.heap[wr.heap.size]?=some p.1.box:=aE e1
   have hcp:=Et p.1 p.2 W1 (hEp.later hb1) (by have h1:=HLA.out p (yan HP.out);have h2:=hEp.a.1;rw[fG] at h2;omega);unfold EV.val EV.cells at hcp;clear hg e1 x1 x2;obtain⟨g0,g1,-⟩:=fA q1;go_wp2_with fail;refine hcp.mono ?_;rintro e W2 ⟨Y,rfl,hYn,hYa,eY,fY,hb2⟩;have hb12:=hb1.trans (hb2.mono hb1.size);have s2:=s1.step hb12;have own2:=ag own hb12;have z2:w.heap.size+2<=W2.heap.size:=lA s2.z;have zr:w.heap.size+2<=wr.heap.size:=lA s1.z;have hz12:=hb1.size;have hurow:∀j,u3.ownBlock=some j->j<wr.heap.size:=fun j hj=>(aU own hj).2.1;have hsE:bZ Y p.2 p.1 p.2=true:=by unfold bZ;rw[yaa hYn];simp
   have HSE:=hid hsE;clear hcp g0 g1 q1 hb1 hYn hYa hsE own s1;unfold EV.val EV.cells;go_wp2_with (at_builtin;refine EE _ rfl (.tmp 13) (.tmp 16) 37 rfl (w.heap.size+2) 124 zeroE.val 2 40 tZ (by decide) u3 k (enV l) rfl own2 1 [.string Y.name,.slice Y.ao Y.an Y.ac] rfl rfl (fun x hx=>by simp at hx;rcases hx with rfl|rfl<;>rfl) z2 (by omega) ?_;intro a4 k4 W4 own4 hg4 hb4 hnx);have hba:=bN W2 (.cells #[.string Y.name,.slice Y.ao Y.an Y.ac] 124);have s4:=s2.turn hb4 (yag _);have hE4:∀q∈l++[(Y,p.2)],EAt W4 q.1 q.2/\∀a,q.1.ao=some a->w.heap.size+2<=a.block/\(0<q.1.ac->(Value.slice a4 (k+1) k4).ownBlock≠some a.block):=by
    intro q hq;have key:∀(E:EAt W2 q.1 q.2),(∀a,q.1.ao=some a->w.heap.size+2<=a.block/\(0<q.1.ac->u3.ownBlock≠some a.block))->EAt W4 q.1 q.2/\∀a,q.1.ao=some a->w.heap.size+2<=a.block/\(0<q.1.ac->(Value.slice a4 (k+1) k4).ownBlock≠some a.block):=fun E hf=>
     ⟨⟨AP (E.a.later hba) hg4 (fun h0 a ha e=>(hf a ha).2 h0 e.symm),E.la⟩,fun a ha=>⟨(hf a ha).1,fun h0 e=>by
      have:=E.a.lt h0 a ha;rcases hnx _ e with h | h
      ·exact (hf a ha).2 h0 h
      omega⟩⟩
    rcases yaQ.1 hq with hq | hq
    ·exact key ((hE q hq).1.later hb12) (hE q hq).2
    rw[yah] at hq;subst hq;refine key eY (fun a ha=>?_);have hf:=fY a ha;refine⟨by omega,fun _ e=>?_⟩;have:=hurow _ e;omega
   have hp2:=HP.out;have HSS:Hid (aP (l++[(Y,p.2)]) (c.ents.take (k+1))=true):=hid (by
    have hlk:=HLk.out;have h1:=lS (l++[(Y,p.2)]) (c.ents.take (k+1)) k (Y,p.2) p (by rw[<-hlk];simp) (by rw[ybI (ybY k)];exact hp2);have e1:(l++[(Y,p.2)]).take (k+1)=l++[(Y,p.2)]:=yak (by simp;omega);have e2:(l++[(Y,p.2)]).take k=l:=by rw[<-hlk];simp
    have e3:(c.ents.take (k+1)).take (k+1)=c.ents.take (k+1):=by rw[List.take_take,Nat.min_self]
    have e4:(c.ents.take (k+1)).take k=c.ents.take k:=by rw[List.take_take,Nat.min_eq_left (ycG k)]
    rw[e1,e2,e3,e4] at h1;rw[h1,HSm.out,HSE.out];rfl)
   clear hp2;go_roundw
   case rel=>
    refine⟨k+1,by omega,by go_num,s4,l++[(Y,p.2)],?_,by rw[yab,ybg,HLk.out],hE4,HSS.out⟩;rw[xR];exact own4
   case measure=>simp[intOf];omega
  have hke:k=v.en:=by omega
  subst hke;have hfull:c.ents.take v.en=c.ents:=yak (by rw[LX.out];exact yag _);have hsm:aP l c.ents=true:=by rw[<-hfull];exact HSm.out
  have HS:=hid hsm;obtain⟨a4,k4,e4,r4⟩:=Rd.of_own own;subst e4;have hf4:=kR own;obtain⟨c0,c1,c2,c3,c4⟩:=bf s1.o;clear hfull hsm hkn hk;go_wp2_with fail;refine (BD v.co v.cn v.cc c.cursor wr (h.later s1.bel).c h.lc).mono ?_;rintro e W2 ⟨a5,k5,rfl,r5,hb2,hf5,-⟩;have s2:=s1.step hb2;have r42:=r4.later hb2;have hE2:∀p∈l,EAt W2 p.1 p.2:=fun p hp=>(hE p hp).1.later hb2;have hF:FreshQ (w.heap.size+2) ⟨v.code,v.yes,a4,v.en,k4,a5,v.cn,k5⟩ l:=⟨hf4,fun p hp a ha=>((hE p hp).2 a ha).1,fun a ha=>by have:=hf5 a ha;have:=lA s1.z;omega⟩
  have hQ2:QAt W2 ⟨v.code,v.yes,a4,v.en,k4,a5,v.cn,k5⟩ ⟨l,c.cursor⟩:=⟨⟨r42,hE2⟩,r5,h.lc⟩
  clear c0 c1 c2 c3 c4 s1 own r4 r42 hE hE2 r5 hf4 hf5 hb2;obtain⟨c0,c1,c2,c3,c4⟩:=bf s2.o;have q3:(W2.setCell ⟨w.heap.size,2,none⟩ (.slice a4 v.en k4)).heap[w.heap.size]?=some (QV.box ⟨v.code,v.yes,a4,v.en,k4,v.co,v.cn,v.cc⟩):=(at_set s2.o).trans (by kernel_rfl);have q4:((W2.setCell ⟨w.heap.size,2,none⟩ (.slice a4 v.en k4)).setCell ⟨w.heap.size,3,none⟩ (.slice a5 v.cn k5)).heap[w.heap.size]?=some (QV.box ⟨v.code,v.yes,a4,v.en,k4,a5,v.cn,k5⟩):=(at_set q3).trans (by kernel_rfl);have z4:((W2.setCell ⟨w.heap.size,2,none⟩ (.slice a4 v.en k4)).setCell ⟨w.heap.size,3,none⟩ (.slice a5 v.cn k5)).heap[w.heap.size+1]?=some aG.box:=ah (ah s2.z (by omega)) (by omega);have X4:BelX W2.heap.size [w.heap.size,w.heap.size+1] W2 ((W2.setCell ⟨w.heap.size,2,none⟩ (.slice a4 v.en k4)).setCell ⟨w.heap.size,3,none⟩ (.slice a5 v.cn k5)):=((BelX.refl _ _ _).set _ _ _ (.inl (by simp))).set _ _ _ (.inl (by simp));have bel4:=(s2.bel.setCell (p:=⟨w.heap.size,2,none⟩) (yag _) (.slice a4 v.en k4)).setCell (p:=⟨w.heap.size,3,none⟩) (yag _) (.slice a5 v.cn k5);go_upto_region 8 with fail;generalize World.setCell (World.setCell _ _ _) _ _=W4 at *;clear q3 c0 c1 c2 c3 c4;have X5:=lX X4 (w.heap.size+1) (QV.cells ⟨v.code,v.yes,a4,v.en,k4,a5,v.cn,k5⟩) (by simp);have hQ5:=hQ2.freshX hF X5 (yag _) (fun k hk=>by simp only[yas,yal,or_false] at hk;omega);have bel5:=below_setRow bel4 (ycG _) (QV.cells ⟨v.code,v.yes,a4,v.en,k4,a5,v.cn,k5⟩);have f1:(W4.setRow (w.heap.size+1) (QV.cells ⟨v.code,v.yes,a4,v.en,k4,a5,v.cn,k5⟩)).heap[w.heap.size+1]?=some (.cells (QV.cells ⟨v.code,v.yes,a4,v.en,k4,a5,v.cn,k5⟩) 39):=aO z4;go_wp2_with (first | (refine wpList_load_row (ty:=39) q4 rfl rfl rfl (by kernel_rfl) (by kernel_rfl) ?_;go_simp) | (refine zSr rfl z4 ?_;go_simp));exact yay (w:=W4.setRow (w.heap.size+1) (QV.cells ⟨v.code,v.yes,a4,v.en,k4,a5,v.cn,k5⟩)) (vk (i:=2) (t:=39) rfl rfl (by kernel_rfl) (by kernel_rfl) f1) rfl ⟨_,l,rfl,hQ5,uH rfl rfl HS.out rfl,rfl,rfl,hF.mono (by omega),bel5⟩
