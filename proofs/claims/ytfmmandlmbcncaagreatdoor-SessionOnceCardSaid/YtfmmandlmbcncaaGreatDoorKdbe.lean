/-
  A part of the proof.
-/
import Derived.Test.YtfmmandlmbcncaaGreatDoorKdbd
import Derived.Test.YtfmmandlmbcncaaGreatDoorKdax
set_option maxHeartbeats 40000000
set_option maxRecDepth 100000
namespace Go.Proofs.YtfmmandlmbcncaaGreatDoor.Mem
open Go.RowKit
section
variable {P:Program} (w:World)
theorem CQ {ops:Array Oper}{rest:List Oper}{o:Oper}{a:Act}{Q:Exit->Act->World->Prop}(hgd:o.guard=none)(s x:Operand)(t:TypeId)
  (ho:o.op=.call { callee:=.builtin .append,args:=#[s,x],argTypes:=#[t,t] }) (base:Nat) (e:TypeId) (z:Value) (size bytes:Nat) (T:SliceT P t e z size bytes) (hby:bytes<=10000)
  (v:Value) (n:Nat) (xs:List Value) (hs:a.eval s=v) (hown:w.ownsRow base e size v n xs) (m:Nat) (news:List Value) (hx:a.eval x=.slice (some ⟨w.heap.size,0,none⟩) m m) (hl:news.length=m*size) (h1:∀u∈news,u.oneCell'=true)
  (hbase:base<=w.heap.size) (hN:n+m<=10000000000)
  (h:∀ao' cap' w',w'.ownsRow base e size (.slice ao' (n+m) cap') (n+m) (xs++news)->(w.alloc (.cells news.toArray e)).grownBy w' v.ownBlock->Below base w w'->(∀k,(Value.slice ao' (n+m) cap').ownBlock=some k->v.ownBlock=some k\/w.heap.size+1<=k)->wpList P ops Q rest (a.put o.dst (.slice ao' (n+m) cap')) w') :
  wpList P ops Q (o::rest) a (w.alloc (.cells news.toArray e)):=by
 refine wpList_plain hgd fun K hK=>?_;have hb:(n+m)*bytes<=140737488355328:=by
  have:=Nat.mul_le_mul hN hby;omega
 obtain⟨ao',cap',w',hrun,r1,r2,r3,r4⟩:=wC (P:=P) (w:=w.alloc (.cells news.toArray e)) base t o.type e z size bytes T v n xs (hown.alloc _) _ m m news (Rd.new w news e (0,0) size m hl (by unfold maxLen;omega)) h1 (by unfold maxLen;omega) hb (by simp;omega);unfold Oper.wp execOp;simp only[ho,resolve,invoke,builtin,Sem.run_bind,Sem.run_pure,Result.andThen_ok,List.map_toArray,List.map_cons,List.map_nil,hs,hx,hrun];exact hK _ _ (h ao' cap' w' r1 r2 (((Below.refl base w).alloc hbase _).trans r3) (fun k hk=>(r4 k hk).imp id (fun h=>by simpa using h)))
end
end Go.Proofs.YtfmmandlmbcncaaGreatDoor.Mem
namespace Go.Proofs.YtfmmandlmbcncaaGreatDoor.Msg
open Go.RowKit Go.Lib Mem Tlv
theorem zH {W W':World}{row:Option Nat}{size:Nat}{ao:Option Addr}{n cap:Nat}{xs:List Value}(h:Rd W size ao n cap xs)(hg:W.grownBy W' row)(hd:0<cap->∀a,ao=some a->some a.block≠row):Rd W' size ao n cap xs:=by
 obtain⟨h1,h2,h3,h4,h5⟩:=h;refine⟨h1,h2,h3,h4,fun h0 a ha=>?_⟩;obtain⟨s1,l,c⟩:=h5 h0 a ha;exact⟨s1,Nat.lt_of_lt_of_le l hg.size,fun j u hu=>(World.cell?_of_block (a:=⟨a.block,a.off+j,none⟩) (hg.block _ l (hd h0 a ha))).trans (c j u hu)⟩
theorem vY {M:Nat}{xs:List Nat}{a b:World}(h:BelX M xs a b)(k:Nat)(cs:Array Value)(hk:k∈xs):BelX M xs a (b.setRow k cs):=by
 have hb:=below_setRow (Below.refl k b) (Nat.le_refl _) cs;exact⟨hb.os.trans h.os,hb.tape.trans h.tape,hb.output.trans h.output,Nat.le_trans h.size hb.size,fun j h1 h2=>(setRow_other b k j cs (fun e=>h2 (e▸hk))).trans (h.block j h1 h2)⟩
structure FreshQ (m:Nat)(u:QV)(l:List EP):Prop where
 e:∀a,u.eo=some a->m<=a.block
 a:∀p∈l,∀a,p.1.ao=some a->m<=a.block
 c:∀a,u.co=some a->m<=a.block
theorem FreshQ.mono {m m':Nat}{u:QV}{l:List EP}(h:FreshQ m u l)(hm:m'<=m):FreshQ m' u l:=⟨fun a ha=>Nat.le_trans hm (h.e a ha),fun p hp a ha=>Nat.le_trans hm (h.a p hp a ha),fun a ha=>Nat.le_trans hm (h.c a ha)⟩
theorem QAt.freshX {M m:Nat}{ys:List Nat}{a b:World}{u:QV}{c:QC}(h:QAt a u c)(hf:FreshQ m u c.ents)(hX:BelX M ys a b)(hM:a.heap.size<=M)(hy:∀k∈ys,k<m):QAt b u c:=by
 have ha:∀ {size n cap:Nat} {ao:Option Addr} {xs:List Value},Rd a size ao n cap xs->(∀x,ao=some x->m<=x.block)->Rd b size ao n cap xs:=fun hr hf=>yt hr hX (fun h0 x hx=>⟨Nat.lt_of_lt_of_le (hr.lt h0 x hx) hM,fun hm=>by have:=hy _ hm;have:=hf x hx;omega⟩);exact⟨⟨ha h.e.r hf.e,fun p hp=>⟨ha (h.e.each p hp).a (hf.a p hp),(h.e.each p hp).la⟩⟩,ha h.c hf.c,h.lc⟩
def Ov (v:QV)(c:QC)(w:World)(e:Ending)(w':World):Prop:=∃(u:QV) (l:List EP),e=.returned u.val/\QAt w' u ⟨l,c.cursor⟩/\aN u ⟨l,c.cursor⟩ v c=true/\u.en=v.en/\u.cn=v.cn/\FreshQ w.heap.size u l/\Below w.heap.size w w'
structure CqAt (w:World)(v:QV)(W:World):Prop where
 o:W.heap[w.heap.size]?=some v.box
 z:W.heap[w.heap.size+1]?=some aA.box
 bel:Below w.heap.size w W
theorem CqAt.step {w W W':World}{v:QV}(h:CqAt w v W)(hb:Below W.heap.size W W'):CqAt w v W':=⟨(hb.block _ (Array.getElem?_eq_some_iff.1 h.o).1).trans h.o,(hb.block _ (Array.getElem?_eq_some_iff.1 h.z).1).trans h.z,h.bel.trans (hb.mono h.bel.size)⟩
theorem CqAt.turn {w W W':World}{v:QV}{B:Nat}(h:CqAt w v W)(hb:Below B W W')(hB:w.heap.size+2<=B):CqAt w v W':=⟨(hb.block _ (by omega)).trans h.o,(hb.block _ (by omega)).trans h.z,h.bel.trans (hb.mono (by omega))⟩
structure CrLoop (w:World)(v:QV)(c:QC)(k:Nat)(lv:Value)(wr:World):Prop where
 at_:CqAt w v wr
 ex:∃l:List EP,wr.ownsRow (w.heap.size+2) 124 2 lv k (enV l)/\l.length=k/\(∀p∈l,EAt wr p.1 p.2/\∀a,p.1.ao=some a->w.heap.size+2<=a.block/\(0<p.1.ac->lv.ownBlock≠some a.block))/\aH l (c.ents.take k)=true
def SmallE (l:List EP):Prop:=∀p∈l,p.2.length<=1000000000
theorem SmallE.same:∀ {l m:List EP},aH l m=true->SmallE m->SmallE l
 | [],[],_,_=>fun _ hp=>(by cases hp)
 | p::l,q::m,h,hs=>by
  unfold aH at h;rw[Bool.and_eq_true] at h;have h1:=h.1;unfold bJ at h1;rw[Bool.and_eq_true] at h1;intro u hu;rcases List.mem_cons.1 hu with rfl | hu
  ·rw[of_decide_eq_true h1.2];exact hs q (by simp)
  exact SmallE.same h.2 (fun z hz=>hs z (by simp[hz])) u hu
 | [],_::_,h,_=>by cases h
 | _::_,[],h,_=>by cases h
theorem pG (v:QV)(c:QC)(w:World)(h:QAt w v c)(hen:v.en<=1000000)(hla:SmallE c.ents):Calls Tryz.prog 55 #[v.val] w (Ov v c w):=by
 have HLA:=hid hla;clear hla;have lx:=h.e.len;have LX:=hid lx;have hb0:Below w.heap.size w ((w.alloc v.box).alloc aA.box):=bU w _ _;obtain⟨k1,k2⟩:=bY w v.box aA.box;clear lx;unfold aA QV.box QV.cells at hb0 k1 k2;unfold QV.val QV.cells;go_in;go_upto_region 1 with fail;generalize hg:World.alloc _ _=W0 at *;have s0:CqAt w v W0:=⟨k1,k2,hb0⟩
 clear hg k1 k2 hb0;obtain⟨c0,c1,c2,c3,c4⟩:=aj s0.o;have own0:W0.ownsRow (w.heap.size+2) 124 2 (.slice none 0 0) 0 (enV []):=World.ownsRow_nil _ _ _ _;go_wp2_with fail;clear c0 c1 c2 c3 c4;go_loopw [3,9] (fun l p wr=>∃k:Nat,k<=v.en/\p=.int .i64 (k:Int)/\CrLoop w v c k l wr) (fun _ p _=>v.en-(intOf p).toNat)
 case atStart=>exact⟨0,Nat.zero_le _,rfl,s0,[],own0,rfl,(fun p hp=>by cases hp),rfl⟩
 case round=>
  obtain⟨k,hk,rfl,hL⟩:=hrel;obtain⟨l,own,hlk,hE,hsm⟩:=hL.ex;have s1:=hL.at_;have HLk:=hid hlk;have HSm:=hid hsm;clear hL hlk hsm own0 s0;by_cases hkn:k<v.en
  ·have hEn:=(h.later s1.bel).e;obtain⟨b1,o1,hao,hl1,hc1⟩:=hEn.r.some (by have:=hEn.r.le;omega);obtain⟨p,hp⟩:∃p,c.ents[k]?=some p:=⟨_,List.getElem?_eq_getElem (by rw[LX.out];exact hkn)⟩
   obtain⟨v1,v2⟩:=kT c.ents k p hp;have x1:=hc1 (k*2) _ v1;have x2:wr.cell? ⟨b1,o1+k*2+1,none⟩=_:=hc1 (k*2+1) _ v2;have hEp:=hEn.each p (List.mem_of_getElem? hp);have HP:=hid hp;have i0:(0:Int)<=(k:Int):=by omega
   have i1:(k:Int)<(v.en:Int):=by omega
   rw[hao];clear hc1 v1 v2 hp hEn hao;go_upto_region 5 with (refine zNr rfl ?_;go_simp);generalize hg:wr.alloc _=W1;have e1:wr.alloc p.1.box=W1:=hg;have hb1:Below wr.heap.size wr W1:=by rw[<-e1];exact (Below.refl _ _).alloc (Nat.le_refl _) _
   have q1:W1.heap[wr.heap.size]?=some p.1.box:=by rw[<-e1];show (wr.heap.push _)[wr.heap.size]?=some _;exact Array.getElem?_push_size
   have hcp:=Cm p.1 p.2 W1 (hEp.later hb1) (by have h1:=HLA.out p (List.mem_of_getElem? HP.out);have h2:=hEp.a.1;rw[fE] at h2;omega);unfold EV.val EV.cells at hcp;clear hg e1 x1 x2;obtain⟨g0,g1,-⟩:=dF q1;go_wp2_with fail;refine hcp.mono ?_;rintro e W2 ⟨Y,rfl,hYn,hYa,eY,fY,hb2⟩;have hb12:=hb1.trans (hb2.mono hb1.size);have s2:=s1.step hb12;have own2:=aF own hb12;have z2:w.heap.size+2<=W2.heap.size:=(Array.getElem?_eq_some_iff.1 s2.z).1;have zr:w.heap.size+2<=wr.heap.size:=(Array.getElem?_eq_some_iff.1 s1.z).1;have hz12:=hb1.size;have hurow:∀j,u3.ownBlock=some j->j<wr.heap.size:=fun j hj=>(bz own hj).2.1;have hsE:bJ Y p.2 p.1 p.2=true:=by unfold bJ;rw[decide_eq_true hYn];simp
   have HSE:=hid hsE;clear hcp g0 g1 q1 hb1 hYn hYa hsE own s1;unfold EV.val EV.cells;go_wp2_with (at_builtin;refine CQ _ rfl (.tmp 13) (.tmp 16) 37 rfl (w.heap.size+2) 124 zeroE.val 2 40 ru (by decide) u3 k (enV l) rfl own2 1 [.string Y.name,.slice Y.ao Y.an Y.ac] rfl rfl (fun x hx=>by simp at hx;rcases hx with rfl|rfl<;>rfl) z2 (by omega) ?_;intro a4 k4 W4 own4 hg4 hb4 hnx);have hba:Below W2.heap.size W2 (W2.alloc (.cells #[.string Y.name,.slice Y.ao Y.an Y.ac] 124)):=(Below.refl _ _).alloc (Nat.le_refl _) _;have s4:=s2.turn hb4 (Nat.le_refl _);have hE4:∀q∈l++[(Y,p.2)],EAt W4 q.1 q.2/\∀a,q.1.ao=some a->w.heap.size+2<=a.block/\(0<q.1.ac->(Value.slice a4 (k+1) k4).ownBlock≠some a.block):=by
    intro q hq;have key:∀(E:EAt W2 q.1 q.2),(∀a,q.1.ao=some a->w.heap.size+2<=a.block/\(0<q.1.ac->u3.ownBlock≠some a.block))->EAt W4 q.1 q.2/\∀a,q.1.ao=some a->w.heap.size+2<=a.block/\(0<q.1.ac->(Value.slice a4 (k+1) k4).ownBlock≠some a.block):=fun E hf=>
     ⟨⟨zH (E.a.later hba) hg4 (fun h0 a ha e=>(hf a ha).2 h0 e.symm),E.la⟩,fun a ha=>⟨(hf a ha).1,fun h0 e=>by
      have:=E.a.lt h0 a ha;rcases hnx _ e with h | h
      ·exact (hf a ha).2 h0 h
      omega⟩⟩
    rcases List.mem_append.1 hq with hq | hq
    ·exact key ((hE q hq).1.later hb12) (hE q hq).2
    rw[List.mem_singleton] at hq;subst hq;refine key eY (fun a ha=>?_);have hf:=fY a ha;refine⟨by omega,fun _ e=>?_⟩;have:=hurow _ e;omega
   have hp2:=HP.out;have HSS:Hid (aH (l++[(Y,p.2)]) (c.ents.take (k+1))=true):=hid (by
    have hlk:=HLk.out;have h1:=kG (l++[(Y,p.2)]) (c.ents.take (k+1)) k (Y,p.2) p (by rw[<-hlk];simp) (by rw[List.getElem?_take_of_lt (Nat.lt_succ_self k)];exact hp2);have e1:(l++[(Y,p.2)]).take (k+1)=l++[(Y,p.2)]:=List.take_of_length_le (by simp;omega);have e2:(l++[(Y,p.2)]).take k=l:=by rw[<-hlk];simp
    have e3:(c.ents.take (k+1)).take (k+1)=c.ents.take (k+1):=by rw[List.take_take,Nat.min_self]
    have e4:(c.ents.take (k+1)).take k=c.ents.take k:=by rw[List.take_take,Nat.min_eq_left (Nat.le_succ k)]
    rw[e1,e2,e3,e4] at h1;rw[h1,HSm.out,HSE.out];rfl)
   clear hp2;go_roundw
   case rel=>
    refine⟨k+1,by omega,by go_num,s4,l++[(Y,p.2)],?_,by rw[List.length_append,List.length_singleton,HLk.out],hE4,HSS.out⟩;rw[wG];exact own4
   case measure=>simp[intOf];omega
  have hke:k=v.en:=by omega
  subst hke;have hfull:c.ents.take v.en=c.ents:=List.take_of_length_le (by rw[LX.out];exact Nat.le_refl _);have hsm:aH l c.ents=true:=by rw[<-hfull];exact HSm.out
  have HS:=hid hsm;obtain⟨a4,k4,e4,r4⟩:=Rd.of_own own;subst e4;have hf4:=jF own;obtain⟨c0,c1,c2,c3,c4⟩:=aj s1.o;clear hfull hsm hkn hk;go_wp2_with fail;refine (zJ v.co v.cn v.cc c.cursor wr (h.later s1.bel).c h.lc).mono ?_;rintro e W2 ⟨a5,k5,rfl,r5,hb2,hf5,-⟩;have s2:=s1.step hb2;have r42:=r4.later hb2;have hE2:∀p∈l,EAt W2 p.1 p.2:=fun p hp=>(hE p hp).1.later hb2;have hF:FreshQ (w.heap.size+2) ⟨v.code,v.yes,a4,v.en,k4,a5,v.cn,k5⟩ l:=⟨hf4,fun p hp a ha=>((hE p hp).2 a ha).1,fun a ha=>by have:=hf5 a ha;have:=(Array.getElem?_eq_some_iff.1 s1.z).1;omega⟩
  have hQ2:QAt W2 ⟨v.code,v.yes,a4,v.en,k4,a5,v.cn,k5⟩ ⟨l,c.cursor⟩:=⟨⟨r42,hE2⟩,r5,h.lc⟩
  clear c0 c1 c2 c3 c4 s1 own r4 r42 hE hE2 r5 hf4 hf5 hb2;obtain⟨c0,c1,c2,c3,c4⟩:=aj s2.o;have q3:(W2.setCell ⟨w.heap.size,2,none⟩ (.slice a4 v.en k4)).heap[w.heap.size]?=some (QV.box ⟨v.code,v.yes,a4,v.en,k4,v.co,v.cn,v.cc⟩):=(at_set s2.o).trans (by kernel_rfl);have q4:((W2.setCell ⟨w.heap.size,2,none⟩ (.slice a4 v.en k4)).setCell ⟨w.heap.size,3,none⟩ (.slice a5 v.cn k5)).heap[w.heap.size]?=some (QV.box ⟨v.code,v.yes,a4,v.en,k4,a5,v.cn,k5⟩):=(at_set q3).trans (by kernel_rfl);have z4:((W2.setCell ⟨w.heap.size,2,none⟩ (.slice a4 v.en k4)).setCell ⟨w.heap.size,3,none⟩ (.slice a5 v.cn k5)).heap[w.heap.size+1]?=some aA.box:=af (af s2.z (by omega)) (by omega);have X4:BelX W2.heap.size [w.heap.size,w.heap.size+1] W2 ((W2.setCell ⟨w.heap.size,2,none⟩ (.slice a4 v.en k4)).setCell ⟨w.heap.size,3,none⟩ (.slice a5 v.cn k5)):=((BelX.refl _ _ _).set _ _ _ (.inl (by simp))).set _ _ _ (.inl (by simp));have bel4:=(s2.bel.setCell (p:=⟨w.heap.size,2,none⟩) (Nat.le_refl _) (.slice a4 v.en k4)).setCell (p:=⟨w.heap.size,3,none⟩) (Nat.le_refl _) (.slice a5 v.cn k5);go_upto_region 8 with fail;generalize World.setCell (World.setCell _ _ _) _ _=W4 at *;clear q3 c0 c1 c2 c3 c4;have X5:=vY X4 (w.heap.size+1) (QV.cells ⟨v.code,v.yes,a4,v.en,k4,a5,v.cn,k5⟩) (by simp);have hQ5:=hQ2.freshX hF X5 (Nat.le_refl _) (fun k hk=>by simp only[List.mem_cons,List.not_mem_nil,or_false] at hk;omega);have bel5:=below_setRow bel4 (Nat.le_succ _) (QV.cells ⟨v.code,v.yes,a4,v.en,k4,a5,v.cn,k5⟩);have f1:(W4.setRow (w.heap.size+1) (QV.cells ⟨v.code,v.yes,a4,v.en,k4,a5,v.cn,k5⟩)).heap[w.heap.size+1]?=some (.cells (QV.cells ⟨v.code,v.yes,a4,v.en,k4,a5,v.cn,k5⟩) 39):=aT z4;go_wp2_with (first | (refine wpList_load_row (ty:=39) q4 rfl rfl rfl (by kernel_rfl) (by kernel_rfl) ?_;go_simp) | (refine zSr rfl z4 ?_;go_simp));exact bodyPost_ret (w:=W4.setRow (w.heap.size+1) (QV.cells ⟨v.code,v.yes,a4,v.en,k4,a5,v.cn,k5⟩)) (uh (i:=2) (t:=39) rfl rfl (by kernel_rfl) (by kernel_rfl) f1) rfl ⟨_,l,rfl,hQ5,rG rfl rfl HS.out rfl,rfl,rfl,hF.mono (by omega),bel5⟩
open Go.ChangeShapes Go.WideShapes Go.Deep
structure QRd (W:World)(v:QV)(c:QC):Prop where
 e:Rd W 2 v.eo v.en v.ec (enV c.ents)
 a:∀p∈c.ents,Rd W 2 p.1.ao p.1.an p.1.ac (atV p.2)
 c:Rd W 1 v.co v.cn v.cc (byV c.cursor)
theorem wJ:∀(l:List EP),(∀p∈l,au p.1 p.2=true)->(dm l).length<=l.length*101765
 | [],_=>Nat.zero_le _
 | p::l,h=>by
  have h1:=iL (h p (by simp));have h2:=wJ l (fun q hq=>h q (by simp[hq]));rw[jq,List.length_append,ae,List.length_cons];omega
theorem I4 {c:QC}(h:c.ents.length<=40):kU c:=fun hall=>by have:=wJ c.ents hall;omega
section
variable {H:Type} {enc:TypeId×Value->H} {W:World}
theorem F5 (fuel:Nat)(cs:List Value)(x:DataW H×List MemPlace)(h:DataW.trod enc Tryz.prog W 0 (fun _=>true) true fuel 124 cs=some x):Leaves enc Tryz.prog W [9,32] cs:=
 mP (by kernel_rfl) Tryz.underlying124 (by kernel_rfl) (by kernel_rfl) h
theorem NH (cs:List Value)(h:Leaves enc Tryz.prog W [9,32] cs):∃p:EP,Rd W 2 p.1.ao p.1.an p.1.ac (atV p.2)/\p.1.cells.toList=cs:=by
 obtain⟨v0,n0,y0,c0,d0⟩:=h.2 0 9 rfl;obtain⟨v1,n1,y1,c1,d1⟩:=h.2 1 32 rfl;obtain⟨s0,e0,-,-⟩:=DataW.trod_string Tryz.underlying9 d0;obtain rfl:=List.head_eq_of_cons_eq e0;obtain⟨ao,an,ac,la,rfl,hal,-,ha⟩:=oO FP (fun _=>True) 2 (fun _=>rfl) (by decide) (ts:=[9,9]) Tryz.underlying32 (by kernel_rfl) vJ BL d1;refine⟨(⟨s0,ao,an,ac⟩,la),ha,?_⟩;have hl:cs.length=2:=h.1;refine List.ext_getElem? (fun j=>?_)
 match j with
 | 0=>exact c0.symm
 | 1=>exact c1.symm
 | j+2=>rw[List.getElem?_eq_none (by simp[EV.cells]),List.getElem?_eq_none (by omega)]
theorem Fv (fuel:Nat)(cs:List Value)(x:DataW H×List MemPlace)(h:DataW.trod enc Tryz.prog W 0 (fun _=>true) true fuel 39 cs=some x):Leaves enc Tryz.prog W [27,4,37,34] cs:=
 mP (by kernel_rfl) Tryz.underlying39 (by kernel_rfl) (by kernel_rfl) h
theorem LZ {ts:List TypeId}{cs:List Value}(o:Nat)(h:Leaves enc Tryz.prog W ts cs)(ht:∀j:Nat,ts[o+j]?=[27,4,37,34][j]?):∃(v:QV) (c:QC),QRd W v c/\∀(j:Nat) (u:Value),v.cells.toList[j]?=some u->cs[o+j]?=some u:=by
 obtain⟨v0,n0,y0,c0,d0⟩:=h.2 (o+0) 27 (ht 0);obtain⟨v1,n1,y1,c1,d1⟩:=h.2 (o+1) 4 (ht 1);obtain⟨v2,n2,y2,c2,d2⟩:=h.2 (o+2) 37 (ht 2);obtain⟨v3,n3,y3,c3,d3⟩:=h.2 (o+3) 34 (ht 3);obtain⟨z0,e0,-,-⟩:=DataW.trod_int (k:=.i64) Tryz.underlying27 d0;obtain⟨b1,e1,-⟩:=DataW.trod_bool Tryz.underlying4 d1;obtain rfl:=List.head_eq_of_cons_eq e0;obtain rfl:=List.head_eq_of_cons_eq e1;obtain⟨eo,en,ec,le,rfl,hel,hea,he⟩:=oO (fun p:EP=>p.1.cells.toList) (fun p:EP=>Rd W 2 p.1.ao p.1.an p.1.ac (atV p.2)) 2 (fun _=>rfl) (by decide) (ts:=[9,32]) Tryz.underlying37 (by kernel_rfl) F5 NH d2;obtain⟨co,cn,cc,zs,rfl,hc,hz⟩:=yg (e:=5) (k:=.u8) Tryz.underlying34 Tryz.underlying5 (by kernel_rfl) d3;obtain⟨b,hbb⟩:=wE zs (fun z h=>wf_u8 (hz z h));rw[hbb] at hc;refine⟨⟨z0,b1,eo,en,ec,co,cn,cc⟩,⟨le,b⟩,⟨he,hea,hc⟩,fun j u hu=>?_⟩
 match j,hu with
 | 0,hu=>cases Option.some.inj hu;exact c0
 | 1,hu=>cases Option.some.inj hu;exact c1
 | 2,hu=>cases Option.some.inj hu;exact c2
 | 3,hu=>cases Option.some.inj hu;exact c3
 | j+4,hu=>simp[QV.cells] at hu
end
end Go.Proofs.YtfmmandlmbcncaaGreatDoor.Msg
namespace Go.Proofs.YtfmmandlmbcncaaGreatDoor.Msg
open Go.RowKit Go.Lib Mem Tlv
structure MV where
 k:Int
 vi:Int
 no:Int
 fr:Int
 cl:Int
 nu:Int
 rq:RV
 rs:QV
 at_:Int
 cm:Int
 bs:Int
 so:Option Addr
 sn:Nat
 sc:Nat
 lo:Option Addr
 ln:Nat
 lc:Nat
 nc:Int
 wh:Bool
 ho:Option Addr
 hn:Nat
 hc:Nat
def MV.cells (m:MV):Array Value:=#[.int .i64 m.k,.int .u64 m.vi,.int .u64 m.no,.int .i64 m.fr,.int .u64 m.cl,.int .u64 m.nu,.int .u64 m.rq.cl,.int .u64 m.rq.nu,.int .i64 m.rq.op.k,.string m.rq.op.name,.string m.rq.op.to,.slice m.rq.op.ao m.rq.op.an m.rq.op.ac,.slice m.rq.op.bo m.rq.op.bn m.rq.op.bc,.slice m.rq.op.co m.rq.op.cn m.rq.op.cc,.int .i64 m.rq.op.n,.int .i64 m.rs.code,.bool m.rs.yes,.slice m.rs.eo m.rs.en m.rs.ec,.slice m.rs.co m.rs.cn m.rs.cc,.int .u64 m.at_,.int .u64 m.cm,.int .u64 m.bs,.slice m.so m.sn m.sc,.slice m.lo m.ln m.lc,.int .u64 m.nc,.bool m.wh,.slice m.ho m.hn m.hc]
def MV.val (m:MV):Value:=.agg m.cells
def MV.box (m:MV):Obj:=.cells m.cells 59
structure MC where
 rq:OC
 rs:QC
 snap:List UInt8
 log:List RP
 seen:List Nat
structure MAt (W:World)(m:MV)(c:MC):Prop where
 rq:OpAt W m.rq.op c.rq
 rs:QAt W m.rs c.rs
 sn:Rd W 1 m.so m.sn m.sc (byV c.snap)
 lg:LgAt W m.lo m.ln m.lc c.log
 se:Rd W 1 m.ho m.hn m.hc (kL c.seen)
 ls:m.sn<=1000000000
 lh:m.hn<=1000000000
theorem MAt.later {W W':World}{m:MV}{c:MC}(h:MAt W m c)(hb:Below W.heap.size W W'):MAt W' m c:=⟨h.rq.later hb,h.rs.later hb,h.sn.later hb,h.lg.later hb,h.se.later hb,h.ls,h.lh⟩
theorem df {W:World}{B:Nat}{m:MV}(h:W.heap[B]?=some m.box)(i:Nat)(v:Value)(hv:m.cells[i]?=some v):W.cell? ⟨B,i,none⟩=some v:=by
 unfold MV.box at h;simp[World.cell?,h,hv]
theorem dw {W:World}{B:Nat}{m:MV}(h:W.heap[B]?=some m.box)(i:Nat):W.frozen? ⟨B,i,none⟩=false:=by
 unfold MV.box at h;simp[World.frozen?,h]
structure McAt (W:World)(B:Nat)(m:MV):Prop where
 c0:W.cell? ⟨B,0,none⟩=some (.int .i64 m.k)
 c1:W.cell? ⟨B,1,none⟩=some (.int .u64 m.vi)
 c2:W.cell? ⟨B,2,none⟩=some (.int .u64 m.no)
 c3:W.cell? ⟨B,3,none⟩=some (.int .i64 m.fr)
 c4:W.cell? ⟨B,4,none⟩=some (.int .u64 m.cl)
 c5:W.cell? ⟨B,5,none⟩=some (.int .u64 m.nu)
 c6:W.cell? ⟨B,6,none⟩=some (.int .u64 m.rq.cl)
 c7:W.cell? ⟨B,7,none⟩=some (.int .u64 m.rq.nu)
 c8:W.cell? ⟨B,8,none⟩=some (.int .i64 m.rq.op.k)
 c9:W.cell? ⟨B,9,none⟩=some (.string m.rq.op.name)
 c10:W.cell? ⟨B,10,none⟩=some (.string m.rq.op.to)
 c11:W.cell? ⟨B,11,none⟩=some (.slice m.rq.op.ao m.rq.op.an m.rq.op.ac)
 c12:W.cell? ⟨B,12,none⟩=some (.slice m.rq.op.bo m.rq.op.bn m.rq.op.bc)
 c13:W.cell? ⟨B,13,none⟩=some (.slice m.rq.op.co m.rq.op.cn m.rq.op.cc)
 c14:W.cell? ⟨B,14,none⟩=some (.int .i64 m.rq.op.n)
 c15:W.cell? ⟨B,15,none⟩=some (.int .i64 m.rs.code)
 c16:W.cell? ⟨B,16,none⟩=some (.bool m.rs.yes)
 c17:W.cell? ⟨B,17,none⟩=some (.slice m.rs.eo m.rs.en m.rs.ec)
 c18:W.cell? ⟨B,18,none⟩=some (.slice m.rs.co m.rs.cn m.rs.cc)
 c19:W.cell? ⟨B,19,none⟩=some (.int .u64 m.at_)
 c20:W.cell? ⟨B,20,none⟩=some (.int .u64 m.cm)
 c21:W.cell? ⟨B,21,none⟩=some (.int .u64 m.bs)
 c22:W.cell? ⟨B,22,none⟩=some (.slice m.so m.sn m.sc)
 c23:W.cell? ⟨B,23,none⟩=some (.slice m.lo m.ln m.lc)
 c24:W.cell? ⟨B,24,none⟩=some (.int .u64 m.nc)
 c25:W.cell? ⟨B,25,none⟩=some (.bool m.wh)
 c26:W.cell? ⟨B,26,none⟩=some (.slice m.ho m.hn m.hc)
 q:∀(j:Nat) (v:Value),m.rq.cells[j]?=some v->W.cell? ⟨B,6+j,none⟩=some v
 r:∀(j:Nat) (v:Value),m.rs.cells[j]?=some v->W.cell? ⟨B,15+j,none⟩=some v
theorem McAt.of {W:World}{B:Nat}{m:MV}(h:W.heap[B]?=some m.box):McAt W B m where
 c0:=df h 0 _ rfl
 c1:=df h 1 _ rfl
 c2:=df h 2 _ rfl
 c3:=df h 3 _ rfl
 c4:=df h 4 _ rfl
 c5:=df h 5 _ rfl
 c6:=df h 6 _ rfl
 c7:=df h 7 _ rfl
 c8:=df h 8 _ rfl
 c9:=df h 9 _ rfl
 c10:=df h 10 _ rfl
 c11:=df h 11 _ rfl
 c12:=df h 12 _ rfl
 c13:=df h 13 _ rfl
 c14:=df h 14 _ rfl
 c15:=df h 15 _ rfl
 c16:=df h 16 _ rfl
 c17:=df h 17 _ rfl
 c18:=df h 18 _ rfl
 c19:=df h 19 _ rfl
 c20:=df h 20 _ rfl
 c21:=df h 21 _ rfl
 c22:=df h 22 _ rfl
 c23:=df h 23 _ rfl
 c24:=df h 24 _ rfl
 c25:=df h 25 _ rfl
 c26:=df h 26 _ rfl
 q:=fun j v hv=>by
  have hj:j<9:=by
   have:=(Array.getElem?_eq_some_iff.1 hv).1;simpa [RV.cells] using this
  refine df h (6+j) v ?_;rcases (by omega:j=0\/j=1\/j=2\/j=3\/j=4\/j=5\/j=6\/j=7\/j=8) with rfl|rfl|rfl|rfl|rfl|rfl|rfl|rfl|rfl<;>exact hv
 r:=fun j v hv=>by
  have hj:j<4:=by
   have:=(Array.getElem?_eq_some_iff.1 hv).1;simpa [QV.cells] using this
  refine df h (15+j) v ?_;rcases (by omega:j=0\/j=1\/j=2\/j=3) with rfl|rfl|rfl|rfl<;>exact hv
theorem ag {W W':World}{B:Nat}{m:MV}(h:W.heap[B]?=some m.box)(hb:Below W.heap.size W W'):W'.heap[B]?=some m.box:=(hb.block _ (Array.getElem?_eq_some_iff.1 h).1).trans h
def aG (m:MV)(c:MC)(m':MV)(c':MC):Bool:=
 decide (m.k=m'.k)&&(decide (m.vi=m'.vi)&&(decide (m.no=m'.no)&&(decide (m.fr=m'.fr)&&(decide (m.cl=m'.cl)&&(decide (m.nu=m'.nu)&&(bP m.rq c.rq m'.rq c'.rq&&(aN m.rs c.rs m'.rs c'.rs&&(decide (m.at_=m'.at_)&&(decide (m.cm=m'.cm)&&(decide (m.bs=m'.bs)&&(decide (c.snap=c'.snap)&&(bT c.log c'.log&&(decide (m.nc=m'.nc)&&(decide (m.wh=m'.wh)&&decide (c.seen=c'.seen)))))))))))))))
def aK (x:Int)(m0 m:MV):MV:=
 if x=118 then { m0 with vi:=m.vi }
 else if x=110 then { m0 with no:=m.no }
 else if x=102 then { m0 with fr:=m.fr }
 else if x=99 then { m0 with cl:=m.cl }
 else if x=117 then { m0 with nu:=m.nu }
 else if x=113 then { m0 with rq:=m.rq }
 else if x=114 then { m0 with rs:=m.rs }
 else if x=97 then { m0 with at_:=m.at_ }
 else if x=109 then { m0 with cm:=m.cm }
 else if x=98 then { m0 with bs:=m.bs }
 else if x=115 then { m0 with so:=m.so,sn:=m.sn,sc:=m.sc }
 else if x=108 then { m0 with lo:=m.lo,ln:=m.ln,lc:=m.lc }
 else if x=111 then { m0 with nc:=m.nc }
 else if x=119 then { m0 with wh:=m.wh }
 else if x=101 then { m0 with ho:=m.ho,hn:=m.hn,hc:=m.hc }
 else m0
def oN (B tb:Nat)(m1:MV)(w:World)(e:Ending)(w':World):Prop:=e=.returned (.tuple #[])/\w'.heap[tb]?=some m1.box/\Oth B tb w w'
theorem Me (B tb fb:Nat)(m0 m:MV)(w:World)(h0:w.heap[tb]?=some m0.box)(h1:w.heap[fb]?=some m.box)(hB:B<=tb):Calls Tryz.prog 186 #[.pointer (some ⟨tb,0,none⟩),.pointer (some ⟨fb,0,none⟩)] w (oN B tb (aK 102 m0 m) w):=by
 have a3:=(McAt.of h1).c3;have b3:=(McAt.of h0).c3;have z0:=dw h0;have g:=h0;unfold MV.box MV.cells at g;have g3:=at_set (i:=3) (x:=.int .i64 m.fr) g;have H:=hid (g3.trans (show _=some (aK 102 m0 m).box by kernel_rfl));clear g g3;go_in;go_wp2_with fail;refine bodyPost_end (results_none rfl _ _ _) rfl ?_;exact⟨rfl,H.out,((Oth.refl B tb w).set hB 3 _)⟩
theorem O5 (B tb fb:Nat)(m0 m:MV)(w:World)(h0:w.heap[tb]?=some m0.box)(h1:w.heap[fb]?=some m.box)(hB:B<=tb):Calls Tryz.prog 189 #[.pointer (some ⟨tb,0,none⟩),.pointer (some ⟨fb,0,none⟩)] w (oN B tb (aK 113 m0 m) w):=by
 have a6:=(McAt.of h1).c6;have b6:=(McAt.of h0).c6;have a7:=(McAt.of h1).c7;have b7:=(McAt.of h0).c7;have a8:=(McAt.of h1).c8;have b8:=(McAt.of h0).c8;have a9:=(McAt.of h1).c9;have b9:=(McAt.of h0).c9;have a10:=(McAt.of h1).c10;have b10:=(McAt.of h0).c10;have a11:=(McAt.of h1).c11;have b11:=(McAt.of h0).c11;have a12:=(McAt.of h1).c12;have b12:=(McAt.of h0).c12;have a13:=(McAt.of h1).c13;have b13:=(McAt.of h0).c13;have a14:=(McAt.of h1).c14;have b14:=(McAt.of h0).c14;have z0:=dw h0;have g:=h0;unfold MV.box MV.cells at g;have g6:=at_set (i:=6) (x:=.int .u64 m.rq.cl) g;have g7:=at_set (i:=7) (x:=.int .u64 m.rq.nu) g6;have g8:=at_set (i:=8) (x:=.int .i64 m.rq.op.k) g7;have g9:=at_set (i:=9) (x:=.string m.rq.op.name) g8;have g10:=at_set (i:=10) (x:=.string m.rq.op.to) g9;have g11:=at_set (i:=11) (x:=.slice m.rq.op.ao m.rq.op.an m.rq.op.ac) g10;have g12:=at_set (i:=12) (x:=.slice m.rq.op.bo m.rq.op.bn m.rq.op.bc) g11;have g13:=at_set (i:=13) (x:=.slice m.rq.op.co m.rq.op.cn m.rq.op.cc) g12;have g14:=at_set (i:=14) (x:=.int .i64 m.rq.op.n) g13;have H:=hid (g14.trans (show _=some (aK 113 m0 m).box by kernel_rfl));clear g g6 g7 g8 g9 g10 g11 g12 g13 g14;go_in;go_wp2_with fail;refine bodyPost_end (results_none rfl _ _ _) rfl ?_;exact⟨rfl,H.out,((((((((((Oth.refl B tb w).set hB 6 _).set hB 7 _).set hB 8 _).set hB 9 _).set hB 10 _).set hB 11 _).set hB 12 _).set hB 13 _).set hB 14 _)⟩
theorem NY (B tb fb:Nat)(m0 m:MV)(w:World)(h0:w.heap[tb]?=some m0.box)(h1:w.heap[fb]?=some m.box)(hB:B<=tb):Calls Tryz.prog 195 #[.pointer (some ⟨tb,0,none⟩),.pointer (some ⟨fb,0,none⟩)] w (oN B tb (aK 114 m0 m) w):=by
 have a15:=(McAt.of h1).c15;have b15:=(McAt.of h0).c15;have a16:=(McAt.of h1).c16;have b16:=(McAt.of h0).c16;have a17:=(McAt.of h1).c17;have b17:=(McAt.of h0).c17;have a18:=(McAt.of h1).c18;have b18:=(McAt.of h0).c18;have z0:=dw h0;have g:=h0;unfold MV.box MV.cells at g;have g15:=at_set (i:=15) (x:=.int .i64 m.rs.code) g;have g16:=at_set (i:=16) (x:=.bool m.rs.yes) g15;have g17:=at_set (i:=17) (x:=.slice m.rs.eo m.rs.en m.rs.ec) g16;have g18:=at_set (i:=18) (x:=.slice m.rs.co m.rs.cn m.rs.cc) g17;have H:=hid (g18.trans (show _=some (aK 114 m0 m).box by kernel_rfl));clear g g15 g16 g17 g18;go_in;go_wp2_with fail;refine bodyPost_end (results_none rfl _ _ _) rfl ?_;exact⟨rfl,H.out,(((((Oth.refl B tb w).set hB 15 _).set hB 16 _).set hB 17 _).set hB 18 _)⟩
theorem MQ (B tb fb:Nat)(m0 m:MV)(w:World)(h0:w.heap[tb]?=some m0.box)(h1:w.heap[fb]?=some m.box)(hB:B<=tb):Calls Tryz.prog 200 #[.pointer (some ⟨tb,0,none⟩),.pointer (some ⟨fb,0,none⟩)] w (oN B tb (aK 115 m0 m) w):=by
 have a22:=(McAt.of h1).c22;have b22:=(McAt.of h0).c22;have z0:=dw h0;have g:=h0;unfold MV.box MV.cells at g;have g22:=at_set (i:=22) (x:=.slice m.so m.sn m.sc) g;have H:=hid (g22.trans (show _=some (aK 115 m0 m).box by kernel_rfl));clear g g22;go_in;go_wp2_with fail;refine bodyPost_end (results_none rfl _ _ _) rfl ?_;exact⟨rfl,H.out,((Oth.refl B tb w).set hB 22 _)⟩
theorem Og (B tb fb:Nat)(m0 m:MV)(w:World)(h0:w.heap[tb]?=some m0.box)(h1:w.heap[fb]?=some m.box)(hB:B<=tb):Calls Tryz.prog 203 #[.pointer (some ⟨tb,0,none⟩),.pointer (some ⟨fb,0,none⟩)] w (oN B tb (aK 108 m0 m) w):=by
 have a23:=(McAt.of h1).c23;have b23:=(McAt.of h0).c23;have z0:=dw h0;have g:=h0;unfold MV.box MV.cells at g;have g23:=at_set (i:=23) (x:=.slice m.lo m.ln m.lc) g;have H:=hid (g23.trans (show _=some (aK 108 m0 m).box by kernel_rfl));clear g g23;go_in;go_wp2_with fail;refine bodyPost_end (results_none rfl _ _ _) rfl ?_;exact⟨rfl,H.out,((Oth.refl B tb w).set hB 23 _)⟩
theorem Nl (B tb fb:Nat)(m0 m:MV)(w:World)(h0:w.heap[tb]?=some m0.box)(h1:w.heap[fb]?=some m.box)(hB:B<=tb):Calls Tryz.prog 209 #[.pointer (some ⟨tb,0,none⟩),.pointer (some ⟨fb,0,none⟩)] w (oN B tb (aK 119 m0 m) w):=by
 have a25:=(McAt.of h1).c25;have b25:=(McAt.of h0).c25;have z0:=dw h0;have g:=h0;unfold MV.box MV.cells at g;have g25:=at_set (i:=25) (x:=.bool m.wh) g;have H:=hid (g25.trans (show _=some (aK 119 m0 m).box by kernel_rfl));clear g g25;go_in;go_wp2_with fail;refine bodyPost_end (results_none rfl _ _ _) rfl ?_;exact⟨rfl,H.out,((Oth.refl B tb w).set hB 25 _)⟩
theorem NJ (B tb fb:Nat)(m0 m:MV)(w:World)(h0:w.heap[tb]?=some m0.box)(h1:w.heap[fb]?=some m.box)(hB:B<=tb):Calls Tryz.prog 213 #[.pointer (some ⟨tb,0,none⟩),.pointer (some ⟨fb,0,none⟩)] w (oN B tb (aK 101 m0 m) w):=by
 have a26:=(McAt.of h1).c26;have b26:=(McAt.of h0).c26;have z0:=dw h0;have g:=h0;unfold MV.box MV.cells at g;have g26:=at_set (i:=26) (x:=.slice m.ho m.hn m.hc) g;have H:=hid (g26.trans (show _=some (aK 101 m0 m).box by kernel_rfl));clear g g26;go_in;go_wp2_with fail;refine bodyPost_end (results_none rfl _ _ _) rfl ?_;exact⟨rfl,H.out,((Oth.refl B tb w).set hB 26 _)⟩
structure KeepOk (t0 t1 t2 t3 t4 t5 t6 t7:Nat)(f:FV)(kf:FuncId)(kc:Array Value):Prop where
 eq:f.kp=.func (.func kf) #[] kc
 en:∀args w,(callFunc kf args).run Tryz.prog w=.ok (.enter kf args) w
 calls:∀(B tb fb:Nat) (m0 m:MV) (w:World),AllAt t0 t1 t2 t3 t4 t5 t6 t7 w->w.heap[tb]?=some m0.box->w.heap[fb]?=some m.box->B<=tb->Calls Tryz.prog kf (#[.pointer (some ⟨tb,0,none⟩),.pointer (some ⟨fb,0,none⟩)]++kc) w (oN B tb (aK f.l m0 m) w)
theorem KD {t0 t1 t2 t3 t4 t5 t6 t7:Nat}:∀f∈allL t0 t1 t2 t3 t4 t5 t6 t7,∃kf kc,KeepOk t0 t1 t2 t3 t4 t5 t6 t7 f kf kc:=by
 intro f hf;simp only[allL,List.mem_cons,List.not_mem_nil,or_false] at hf;rcases hf with rfl|rfl|rfl|rfl|rfl|rfl|rfl|rfl|rfl|rfl|rfl|rfl|rfl|rfl|rfl
 ·refine⟨218,#[.pointer (some ⟨t0+1,0,none⟩)],rfl,enters_of Tryz.func218 (by kernel_rfl) rfl,fun B tb fb m0 m w ha h0 h1 hB=>(oK EF B tb fb (t0+1) m0.cells m.cells m.vi _ w h0 h1 rfl rfl ha.a0.2 hB).mono ?_⟩;rintro e w' ⟨rfl,h2,h3⟩;exact⟨rfl,h2.trans (show _=some (aK 118 m0 m).box by kernel_rfl),h3⟩
 ·refine⟨218,#[.pointer (some ⟨t1+1,0,none⟩)],rfl,enters_of Tryz.func218 (by kernel_rfl) rfl,fun B tb fb m0 m w ha h0 h1 hB=>(oK Ff B tb fb (t1+1) m0.cells m.cells m.no _ w h0 h1 rfl rfl ha.a1.2 hB).mono ?_⟩;rintro e w' ⟨rfl,h2,h3⟩;exact⟨rfl,h2.trans (show _=some (aK 110 m0 m).box by kernel_rfl),h3⟩
 ·exact⟨186,#[],rfl,enters_of Tryz.func186 (by kernel_rfl) rfl,fun B tb fb m0 m w _ h0 h1 hB=>Me B tb fb m0 m w h0 h1 hB⟩
 ·refine⟨218,#[.pointer (some ⟨t2+1,0,none⟩)],rfl,enters_of Tryz.func218 (by kernel_rfl) rfl,fun B tb fb m0 m w ha h0 h1 hB=>(oK ET B tb fb (t2+1) m0.cells m.cells m.cl _ w h0 h1 rfl rfl ha.a2.2 hB).mono ?_⟩;rintro e w' ⟨rfl,h2,h3⟩;exact⟨rfl,h2.trans (show _=some (aK 99 m0 m).box by kernel_rfl),h3⟩
 ·refine⟨218,#[.pointer (some ⟨t3+1,0,none⟩)],rfl,enters_of Tryz.func218 (by kernel_rfl) rfl,fun B tb fb m0 m w ha h0 h1 hB=>(oK FZ B tb fb (t3+1) m0.cells m.cells m.nu _ w h0 h1 rfl rfl ha.a3.2 hB).mono ?_⟩;rintro e w' ⟨rfl,h2,h3⟩;exact⟨rfl,h2.trans (show _=some (aK 117 m0 m).box by kernel_rfl),h3⟩
 ·exact⟨189,#[],rfl,enters_of Tryz.func189 (by kernel_rfl) rfl,fun B tb fb m0 m w _ h0 h1 hB=>O5 B tb fb m0 m w h0 h1 hB⟩
 ·exact⟨195,#[],rfl,enters_of Tryz.func195 (by kernel_rfl) rfl,fun B tb fb m0 m w _ h0 h1 hB=>NY B tb fb m0 m w h0 h1 hB⟩
 ·refine⟨218,#[.pointer (some ⟨t4+1,0,none⟩)],rfl,enters_of Tryz.func218 (by kernel_rfl) rfl,fun B tb fb m0 m w ha h0 h1 hB=>(oK EN B tb fb (t4+1) m0.cells m.cells m.at_ _ w h0 h1 rfl rfl ha.a4.2 hB).mono ?_⟩;rintro e w' ⟨rfl,h2,h3⟩;exact⟨rfl,h2.trans (show _=some (aK 97 m0 m).box by kernel_rfl),h3⟩
 ·refine⟨218,#[.pointer (some ⟨t5+1,0,none⟩)],rfl,enters_of Tryz.func218 (by kernel_rfl) rfl,fun B tb fb m0 m w ha h0 h1 hB=>(oK Fz B tb fb (t5+1) m0.cells m.cells m.cm _ w h0 h1 rfl rfl ha.a5.2 hB).mono ?_⟩;rintro e w' ⟨rfl,h2,h3⟩;exact⟨rfl,h2.trans (show _=some (aK 109 m0 m).box by kernel_rfl),h3⟩
 ·refine⟨218,#[.pointer (some ⟨t6+1,0,none⟩)],rfl,enters_of Tryz.func218 (by kernel_rfl) rfl,fun B tb fb m0 m w ha h0 h1 hB=>(oK EL B tb fb (t6+1) m0.cells m.cells m.bs _ w h0 h1 rfl rfl ha.a6.2 hB).mono ?_⟩;rintro e w' ⟨rfl,h2,h3⟩;exact⟨rfl,h2.trans (show _=some (aK 98 m0 m).box by kernel_rfl),h3⟩
 ·exact⟨200,#[],rfl,enters_of Tryz.func200 (by kernel_rfl) rfl,fun B tb fb m0 m w _ h0 h1 hB=>MQ B tb fb m0 m w h0 h1 hB⟩
 ·exact⟨203,#[],rfl,enters_of Tryz.func203 (by kernel_rfl) rfl,fun B tb fb m0 m w _ h0 h1 hB=>Og B tb fb m0 m w h0 h1 hB⟩
 ·refine⟨218,#[.pointer (some ⟨t7+1,0,none⟩)],rfl,enters_of Tryz.func218 (by kernel_rfl) rfl,fun B tb fb m0 m w ha h0 h1 hB=>(oK EC B tb fb (t7+1) m0.cells m.cells m.nc _ w h0 h1 rfl rfl ha.a7.2 hB).mono ?_⟩;rintro e w' ⟨rfl,h2,h3⟩;exact⟨rfl,h2.trans (show _=some (aK 111 m0 m).box by kernel_rfl),h3⟩
 ·exact⟨209,#[],rfl,enters_of Tryz.func209 (by kernel_rfl) rfl,fun B tb fb m0 m w _ h0 h1 hB=>Nl B tb fb m0 m w h0 h1 hB⟩
 exact⟨213,#[],rfl,enters_of Tryz.func213 (by kernel_rfl) rfl,fun B tb fb m0 m w _ h0 h1 hB=>NJ B tb fb m0 m w h0 h1 hB⟩
end Go.Proofs.YtfmmandlmbcncaaGreatDoor.Msg
