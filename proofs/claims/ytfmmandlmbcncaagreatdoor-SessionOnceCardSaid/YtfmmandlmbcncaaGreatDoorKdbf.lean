/-
  A part of the proof.
-/
import Derived.Test.YtfmmandlmbcncaaGreatDoorKdbe
set_option maxHeartbeats 40000000
set_option maxRecDepth 100000
namespace Go.Proofs.YtfmmandlmbcncaaGreatDoor.Tlv
open Go.RowKit Mem Msg
def Gh (B g:Nat)(l2:List UInt8)(v:Value)(W:World)(e:Ending)(w':World):Prop:=e=.returned (.pointer (some ⟨g,0,none⟩))/\∃v',WrAt B g l2 0 v' w'/\Below B W w'/\KeepW g v v' W w'
theorem EX {W:World}{B n size:Nat}{e:TypeId}{ao:Option Addr}{cap:Nat}{xs:List Value}(h:W.ownsRow B e size (.slice ao n cap) n xs):∀a,ao=some a->B<=a.block:=by
 intro a ha;subst ha;rcases h.2 with ⟨h1,-⟩ | ⟨g,c2,cur,h1,h2,-⟩
 ·cases h1
 cases h1;exact h2
theorem AP (B g:Nat)(l:List UInt8)(v:Value)(t:UInt8)(ht:0<t.toNat)(n:Nat)(f:FuncId)(caps:Array Value)(it:Nat->List UInt8)(W:World)(hw:WrAt B g l 0 v W)(hn:n<=1000000)
  (hf:∀args w,(callFunc f args).run Tryz.prog w=.ok (.enter f args) w)
  (hone:∀i,i<n->jX (it i)=1/\0<(it i).length) (hlen:(bi it n).length<=4194304) (hl:l.length<=100000000)
  (hput:∀i W',i<n->Below W.heap.size W W'->WrS W.heap.size W.heap.size ⟨bi it i,0⟩ W' ->
   Calls Tryz.prog f (#[.pointer (some ⟨W.heap.size,0,none⟩),.int .i64 (i:Int)]++caps) W' fun e w'=>(∃r,e=.returned r)/\WrS W.heap.size W.heap.size ⟨bi it (i+1),0⟩ w'/\Below W.heap.size W' w') :
  Calls Tryz.prog 176 #[.pointer (some ⟨g,0,none⟩),.int .u8 (t.toNat:Int),.int .i64 (n:Int),.func (.func f) #[] caps] W (Gh B g (l++val t (bi it n)) v W):=by
 have hat:=hw.at_;have c1:W.cell? ⟨g,1,none⟩=some (.int .i64 0):=by simp[World.cell?,hat]
 have hpe:∀(w:World),Sem.run Tryz.prog (binOp BinOp.eql 175 (.pointer (some ⟨g,0,none⟩)) (.pointer none)) w=.ok (.bool false) w:=fun _=>by kernel_rfl
 have hfn:∀(w:World),Sem.run Tryz.prog (binOp BinOp.neq 257 (.func (.func f) #[] caps) .nilFunc) w=.ok (.bool true) w:=fun _=>by kernel_rfl
 have hnew:WrS W.heap.size W.heap.size ⟨[],0⟩ (W.alloc (.cells #[.slice none 0 0,.int .i64 0] 177)):=⟨_,⟨by show (W.heap.push _)[W.heap.size]?=some _;simp,Nat.le_refl _,World.ownsRow_nil _ _ _ _⟩⟩
 have hb0:Below W.heap.size W (W.alloc (.cells #[.slice none 0 0,.int .i64 0] 177)):=(Below.refl _ W).alloc (Nat.le_refl _) _;have Hput:=Lib.hid hput;have Hone:=Lib.hid hone;clear hput hone;have hnn:decide ((n:Int)<0)=false:=decide_eq_false (by omega);go_in;go_wp2_with fail
 go_step3
 go_wp2_with fail
 go_step3
 go_wp2_with fail;go_loopw [29] (fun p wr=>∃k:Nat,k<=n/\p=.int .i64 (k:Int)/\WrS W.heap.size W.heap.size ⟨bi it k,0⟩ wr/\Below W.heap.size W wr) (fun p _=>(n-intOf p).toNat)
 case atStart=>exact⟨0,by omega,rfl,hnew,hb0⟩
 case round=>
  obtain⟨k,hk,rfl,hwr,hbr⟩:=hrel;obtain⟨vi,hwi⟩:=hwr;have hati:=hwi.at_;have d0:wr.cell? ⟨W.heap.size,0,none⟩=some vi:=by simp[World.cell?,hati]
  have d1:wr.cell? ⟨W.heap.size,1,none⟩=some (.int .i64 0):=by simp[World.cell?,hati]
  obtain⟨aoi,capi,rfl,hri⟩:=Rd.of_own hwi.own;by_cases hkn:k=n
  ·have f0:decide ((k:Int)<(n:Int))=false:=decide_eq_false (by omega);subst hkn;go_wp2_with fail;refine (lM B g l _ v t aoi _ capi wr (hw.later hbr) ht hl hlen hri (fun h0 a ha e=>?_)).mono ?_
   ·have h1:=EX hwi.own a ha;have h2:=Msg.kW hw.own a.block e.symm;omega
   rintro e w' ⟨rfl,v',h1,h2,h3⟩;go_wp2;rw[Exit.noGoto_ret];go_ret;exact⟨rfl,v',h1,(hbr.mono (by have:=hw.le;have:=hw.lt;omega)).trans h2,h3.after hbr⟩
  have f0:decide ((k:Int)<(n:Int))=true:=decide_eq_true (by omega);have hkl:k<n:=by omega
  go_wp2_with fail;refine (Hput.out k wr hkl hbr ⟨_,hwi⟩).mono ?_;rintro e w1 ⟨⟨r,rfl⟩,⟨vj,hwj⟩,hb1⟩;have hatj:=hwj.at_;have d2:w1.cell? ⟨W.heap.size,0,none⟩=some vj:=by simp[World.cell?,hatj]
  have d3:w1.cell? ⟨W.heap.size,1,none⟩=some (.int .i64 0):=by simp[World.cell?,hatj]
  obtain⟨hm1,hpos⟩:=Hone.out k hkl;have hsucc:=dL it k;have hln:(bi it (k+1)).length=(bi it k).length+(it k).length:=by rw[hsucc,List.length_append]
  have hle:(bi it (k+1)).length<=4194304:=Nat.le_trans (lu it (by omega)) hlen;obtain⟨bj,capj,rfl⟩:∃bj capj,vj=.slice (some ⟨bj,0,none⟩) (bi it (k+1)).length capj:=by
   obtain⟨q,hq⟩:∃q,(bi it (k+1)).length=q+1:=⟨(bi it (k+1)).length-1,by omega⟩
   have ho:=hwj.own;dsimp only at ho;rw[hq] at ho ⊢;exact ownsRow_succ ho
  have hrj:=Rd.of_own_slice hwj.own;dsimp only at hrj;have hcj:=hrj.le;have hrs:=nz hrj (f:=(bi it k).length) (by omega);rw[hsucc,List.drop_left,<-hsucc,Nat.zero_add] at hrs;have Hm1:=Lib.hid hm1;have Hsucc:=Lib.hid hsucc;clear hm1 hsucc;have i0:(0:Int)<=((bi it k).length:Int):=by omega
  have i1:((bi it k).length:Int)<=((bi it (k+1)).length:Int):=by omega
  have i2:((bi it k).length:Int)<=(capj:Int):=by omega
  have i3:¬capj-(bi it k).length=0:=by omega
  have Hln:=Lib.hid hln;clear hln;go_wp2_with fail;refine (Ak _ _ _ (it k) w1 (by omega) hrs).mono ?_;rintro e w2 ⟨rfl,hb2⟩;rw[Hm1.out];have hwj2:=hwj.later hb2;go_wp2;go_roundw
  case rel=>exact⟨k+1,by omega,by go_num,⟨_,hwj2⟩,hbr.trans (hb1.trans (hb2.mono (Nat.le_trans hbr.size hb1.size)))⟩
  case measure=>simp[intOf];omega
theorem L6 (B g:Nat)(l:List UInt8)(v:Value)(t:UInt8)(is:Bool)(W:World)(hw:WrAt B g l 0 v W)(ht:0<t.toNat)(hl:l.length<=100000000) :
  Calls Tryz.prog 175 #[.pointer (some ⟨g,0,none⟩),.int .u8 (t.toNat:Int),.bool is] W (Gh B g (l++val t [if is then 1 else 0]) v W):=by
 have hb:∀x:UInt8,Below W.heap.size W (W.alloc (.cells #[.int .u8 (x.toNat:Int)] 5)):=fun x=>(Below.refl _ _).alloc (Nat.le_refl _) _;have hc:∀x:UInt8,Calls Tryz.prog 147 #[.pointer (some ⟨g,0,none⟩),.int .u8 (t.toNat:Int),.slice (some ⟨W.heap.size,0,none⟩) 1 1] (W.alloc (.cells #[.int .u8 (x.toNat:Int)] 5)) (Gh B g (l++val t [x]) v W):=fun x=>
  (lM B g l [x] v t _ 1 1 _ (hw.later (hb x)) ht hl (by decide) (Rd.new W [.int .u8 (x.toNat:Int)] 5 (0,0) 1 1 rfl (by decide)) (fun _ a ha e=>by cases ha;exact kW hw.own e.symm)).mono fun e w' h=>by
   obtain⟨rfl,v',h1,h2,h3⟩:=h;exact⟨rfl,v',h1,((hb x).mono (by have:=hw.le;have:=hw.lt;omega)).trans h2,h3.after (hb x)⟩
 cases is with
 | true=>
  have hc1:=hc 1;clear hc;go_in;go_wp2_with fail;refine hc1.mono ?_;rintro e w1 ⟨rfl,h1⟩;go_wp2_with fail;go_ret;exact⟨rfl,h1⟩
 | false=>
  have hc1:=hc 0;clear hc;go_in;go_wp2_with fail;refine hc1.mono ?_;rintro e w1 ⟨rfl,h1⟩;go_wp2_with fail;go_ret;exact⟨rfl,h1⟩
end Go.Proofs.YtfmmandlmbcncaaGreatDoor.Tlv
namespace Go.Proofs.YtfmmandlmbcncaaGreatDoor.Msg
open Go.RowKit Go.Lib Mem Tlv
set_option linter.unusedVariables false
def jo (l:List RP):List UInt8:=l.flatMap fun p=>val 1 (eQ p.1 (opL p.1.op p.2))
def gZ (l:List Nat):List UInt8:=l.flatMap fun n=>val 1 (az n)
theorem oD (p:RP)(l:List RP):jo (p::l)=val 1 (eQ p.1 (opL p.1.op p.2))++jo l:=rfl
theorem Jk (l:List RP)(p:RP):jo (l++[p])=jo l++val 1 (eQ p.1 (opL p.1.op p.2)):=by simp[jo]
theorem lF (n:Nat)(l:List Nat):gZ (n::l)=val 1 (az n)++gZ l:=rfl
theorem En (l:List Nat)(n:Nat):gZ (l++[n])=gZ l++val 1 (az n):=by simp[gZ]
theorem oI (l:List Nat):(gZ l).length=13*l.length:=by
 induction l with
 | nil=>rfl
 | cons n l ih=>rw[lF,List.length_append,ae,ah,ih,List.length_cons];omega
def dB (x:Int)(m:MV)(c:MC):List UInt8:=
 if x=118 then val 2 (az m.vi.toNat)
 else if x=110 then val 3 (az m.no.toNat)
 else if x=102 then val 4 (az m.fr.toNat)
 else if x=99 then val 5 (az m.cl.toNat)
 else if x=117 then val 6 (az m.nu.toNat)
 else if x=113 then val 7 (eQ m.rq (opL m.rq.op c.rq))
 else if x=114 then val 8 (dG m.rs c.rs)
 else if x=97 then val 9 (az m.at_.toNat)
 else if x=109 then val 10 (az m.cm.toNat)
 else if x=98 then val 11 (az m.bs.toNat)
 else if x=115 then val 12 (c.snap)
 else if x=108 then val 13 (jo c.log)
 else if x=111 then val 14 (az m.nc.toNat)
 else if x=119 then val 15 ([if m.wh then 1 else 0])
 else if x=101 then val 16 (gZ c.seen)
 else []
structure U64M (m:MV)(c:MC):Prop where
 vi:0<=m.vi/\m.vi<18446744073709551616
 no:0<=m.no/\m.no<18446744073709551616
 cl:0<=m.cl/\m.cl<18446744073709551616
 nu:0<=m.nu/\m.nu<18446744073709551616
 at_:0<=m.at_/\m.at_<18446744073709551616
 cm:0<=m.cm/\m.cm<18446744073709551616
 bs:0<=m.bs/\m.bs<18446744073709551616
 nc:0<=m.nc/\m.nc<18446744073709551616
 rq:U64R m.rq
 log:∀p∈c.log,U64R p.1
 seen:∀n∈c.seen,n<18446744073709551616
structure MayF (x:Int)(m:MV)(c:MC):Prop where
 fr:x=102->0<=m.fr/\m.fr<7
 rq:x=113->aB m.rq.op c.rq=true
 rs:x=114->bf m.rs c.rs=true/\(dG m.rs c.rs).length<=4194304
 sn:x=115->m.sn<=4194304
 log:x=108->(∀p∈c.log,aB p.1.op p.2=true)/\(jo c.log).length<=4194304/\m.ln<=4096
 seen:x=101->m.hn<=7
def uG (B g:Nat)(l2:List UInt8)(v:Value)(W:World)(e:Ending)(w':World):Prop:=e=.returned (.tuple #[])/\∃v',WrAt B g l2 0 v' w'/\Below B W w'/\KeepW g v v' W w'
structure MLow (B:Nat)(m:MV):Prop where
 sn:0<m.sc->∀a,m.so=some a->a.block<B
theorem pK {B g:Nat}{l:List UInt8}{v:Value}{W:World}(h:WrAt B g l 0 v W):B<=W.heap.size:=by have:=h.le;have:=h.lt;omega
theorem sS {B g:Nat}{l:List UInt8}{v:Value}{W:World}{a:Addr}(h:WrAt B g l 0 v W)(ha:W.heap.size<=a.block):some a.block≠v.ownBlock:=fun e=>by
 have:=kW h.own a.block e.symm;omega
theorem PM (B g fb:Nat)(l:List UInt8)(v:Value)(m:MV)(c:MC)(w:World)(hw:WrAt B g l 0 v w)(hl:l.length<=100000000)(h1:w.heap[fb]?=some m.box)(hm:MAt w m c)(hu:U64M m c)(hf:MayF 102 m c)(hlo:MLow B m):Calls Tryz.prog 187 #[.pointer (some ⟨g,0,none⟩),.pointer (some ⟨fb,0,none⟩)] w (uG B g (l++dB 102 m c) v w):=by
 obtain⟨f0,f1⟩:=hf.fr rfl;have c3:=(McAt.of h1).c3;obtain⟨n,hn⟩:∃n:Nat,m.fr=(n:Int):=⟨m.fr.toNat,by omega⟩
 have hwr:IntKind.wrap .u64 (n:Int)=(n:Int):=by rw[IntKind.wrap_u64];omega
 rw[hn] at c3;have HF:Hid (dB 102 m c=val 4 (az n)):=hid (by show val 4 (az m.fr.toNat)=_;rw[hn];rfl);clear hn f0 f1 h1;go_in;go_wp2_with fail;refine (qE B g l v 4 n w hw (by decide) hl).mono ?_;rintro e w2 ⟨rfl,v2,hw2,hb2,hk2⟩;go_wp2_with fail;refine bodyPost_end (results_none rfl _ _ _) rfl ?_;exact⟨rfl,v2,by rw[HF.out];exact hw2,hb2,hk2⟩
theorem Pg (B g fb:Nat)(l:List UInt8)(v:Value)(m:MV)(c:MC)(w:World)(hw:WrAt B g l 0 v w)(hl:l.length<=100000000)(h1:w.heap[fb]?=some m.box)(hm:MAt w m c)(hu:U64M m c)(hf:MayF 113 m c)(hlo:MLow B m):Calls Tryz.prog 190 #[.pointer (some ⟨g,0,none⟩),.pointer (some ⟨fb,0,none⟩)] w (uG B g (l++dB 113 m c) v w):=by
 have hmo:=hf.rq rfl;have c6:=(McAt.of h1).c6;have c7:=(McAt.of h1).c7;have c8:=(McAt.of h1).c8;have c9:=(McAt.of h1).c9;have c10:=(McAt.of h1).c10;have c11:=(McAt.of h1).c11;have c12:=(McAt.of h1).c12;have c13:=(McAt.of h1).c13;have c14:=(McAt.of h1).c14;have hop:=jy w m.rq.op c.rq hm.rq;rw[hmo,rD hmo] at hop;have hcall:=tK m.rq c.rq (opL m.rq.op c.rq) w hm.rq hop hu.rq.c0 hu.rq.n0;have hlen:(eQ m.rq (opL m.rq.op c.rq)).length<=4194304:=by rw[gp];have:=gU hm.rq hmo;omega
 have HB:B<=w.heap.size:=pK hw;unfold RV.val RV.cells at hcall;clear hmo h1 hop;go_in;go_wp2_with fail;refine hcall.mono ?_;rintro e w1 ⟨ao,cap,rfl,hr,hb1,hfr⟩;go_wp2_with fail;refine (lM B g l _ v 7 ao _ cap w1 (hw.later hb1) (by decide) hl hlen hr (fun _ a ha=>sS hw (hfr a ha))).mono ?_;rintro e w2 ⟨rfl,v2,hw2,hb2,hk2⟩;go_wp2_with fail;refine bodyPost_end (results_none rfl _ _ _) rfl ?_;exact⟨rfl,v2,hw2,(hb1.mono HB).trans hb2,hk2.after hb1⟩
theorem Py (B g fb:Nat)(l:List UInt8)(v:Value)(m:MV)(c:MC)(w:World)(hw:WrAt B g l 0 v w)(hl:l.length<=100000000)(h1:w.heap[fb]?=some m.box)(hm:MAt w m c)(hu:U64M m c)(hf:MayF 114 m c)(hlo:MLow B m):Calls Tryz.prog 196 #[.pointer (some ⟨g,0,none⟩),.pointer (some ⟨fb,0,none⟩)] w (uG B g (l++dB 114 m c) v w):=by
 obtain⟨hmr,hlen⟩:=hf.rs rfl;have c15:=(McAt.of h1).c15;have c16:=(McAt.of h1).c16;have c17:=(McAt.of h1).c17;have c18:=(McAt.of h1).c18;have F:=FitQ.of hm.rs hmr;have hcall:=zT m.rs c.rs w hm.rs (fun _=>F.len);have HM:=hid hmr;have HB:B<=w.heap.size:=pK hw;unfold QV.val QV.cells at hcall;clear hmr h1 F;go_in;go_wp2_with fail;refine hcall.mono ?_;rintro e w1 ⟨lx,ao,cap,ex,rfl,hr,hb1,hfr,hx1,-⟩;obtain⟨rfl,rfl⟩:=hx1 HM.out;clear hx1;go_wp2_with fail;refine (lM B g l _ v 8 ao _ cap w1 (hw.later hb1) (by decide) hl hlen hr (fun _ a ha=>sS hw (hfr a ha))).mono ?_;rintro e w2 ⟨rfl,v2,hw2,hb2,hk2⟩;go_wp2_with fail;refine bodyPost_end (results_none rfl _ _ _) rfl ?_;exact⟨rfl,v2,hw2,(hb1.mono HB).trans hb2,hk2.after hb1⟩
theorem OW (B g fb:Nat)(l:List UInt8)(v:Value)(m:MV)(c:MC)(w:World)(hw:WrAt B g l 0 v w)(hl:l.length<=100000000)(h1:w.heap[fb]?=some m.box)(hm:MAt w m c)(hu:U64M m c)(hf:MayF 115 m c)(hlo:MLow B m):Calls Tryz.prog 201 #[.pointer (some ⟨g,0,none⟩),.pointer (some ⟨fb,0,none⟩)] w (uG B g (l++dB 115 m c) v w):=by
 have hsn:=hf.sn rfl;have c22:=(McAt.of h1).c22;have hr:=hm.sn;have hls:c.snap.length=m.sn:=by have:=hr.1;rw[aS] at this;omega
 have hdis:0<m.sc->∀a,m.so=some a->some a.block≠v.ownBlock:=fun h0 a ha e=>by
  have h2:=hlo.sn h0 a ha;have h3:=(bz hw.own e.symm).1;omega
 clear h1 hls;go_in;go_wp2_with fail;refine (lM B g l c.snap v 12 m.so m.sn m.sc w hw (by decide) hl hsn hr hdis).mono ?_;rintro e w2 ⟨rfl,v2,hw2,hb2,hk2⟩;go_wp2_with fail;refine bodyPost_end (results_none rfl _ _ _) rfl ?_;exact⟨rfl,v2,hw2,hb2,hk2⟩
theorem PL (B g fb:Nat)(l:List UInt8)(v:Value)(m:MV)(c:MC)(w:World)(hw:WrAt B g l 0 v w)(hl:l.length<=100000000)(h1:w.heap[fb]?=some m.box)(hm:MAt w m c)(hu:U64M m c)(hf:MayF 119 m c)(hlo:MLow B m):Calls Tryz.prog 210 #[.pointer (some ⟨g,0,none⟩),.pointer (some ⟨fb,0,none⟩)] w (uG B g (l++dB 119 m c) v w):=by
 have c25:=(McAt.of h1).c25;clear h1;go_in;go_wp2_with fail;refine (L6 B g l v 15 m.wh w hw (by decide) hl).mono ?_;rintro e w2 ⟨rfl,v2,hw2,hb2,hk2⟩;go_wp2_with fail;refine bodyPost_end (results_none rfl _ _ _) rfl ?_;exact⟨rfl,v2,hw2,hb2,hk2⟩
def dP (fb:Nat):Obj:=.cells #[.pointer (some ⟨fb,0,none⟩)] 172
theorem NG (B g pb fb:Nat)(l:List UInt8)(k:Nat)(p:RP)(m:MV)(c:MC)(W:World)(hw:WrS B g ⟨l,0⟩ W)(hl:l.length<=100000000)(hp:W.heap[pb]?=some (dP fb))(h1:W.heap[fb]?=some m.box)(hlg:LgAt W m.lo m.ln m.lc c.log)(hk:c.log[k]?=some p)(hu:U64R p.1)(hmo:aB p.1.op p.2=true) :
  Calls Tryz.prog 205 #[.pointer (some ⟨g,0,none⟩),.int .i64 (k:Int),.pointer (some ⟨pb,0,none⟩)] W fun e w'=>(∃r,e=.returned r)/\WrS B g ⟨l++val 1 (eQ p.1 (opL p.1.op p.2)),0⟩ w'/\Below B W w':=by
 obtain⟨v,hw⟩:=hw;have hkn:k<m.ln:=by have:=hlg.len;have:=(List.getElem?_eq_some_iff.1 hk).1;omega
 obtain⟨b1,o1,hao,-,-⟩:=hlg.r.some (by have:=hlg.r.le;omega);have hr:=hlg.r;rw[hao] at hr;have hrg:=qF hr hk;have hE:=hlg.each p (List.mem_of_getElem? hk);have c23:=(McAt.of h1).c23;rw[hao] at c23;have d0:W.cell? ⟨pb,0,none⟩=some (.pointer (some ⟨fb,0,none⟩)):=by simp[World.cell?,hp,dP]
 have hop:=jy W p.1.op p.2 hE;rw[hmo,rD hmo] at hop;have hcall:=tK p.1 p.2 (opL p.1.op p.2) W hE hop hu.c0 hu.n0;have hlen:(eQ p.1 (opL p.1.op p.2)).length<=4194304:=by rw[gp];have:=gU hE hmo;omega
 have HB:B<=W.heap.size:=pK hw;have i0:(0:Int)<=(k:Int):=by omega
 have i1:(k:Int)<(m.ln:Int):=by omega
 unfold RV.val RV.cells at hcall;unfold RV.cells at hrg;clear hmo h1 hop hr hao hk hp;go_in;go_wp2_with (refine dR (ty:=55) hrg rfl rfl rfl (by kernel_rfl) (by kernel_rfl) ?_;go_simp);refine hcall.mono ?_;rintro e w1 ⟨ao,cap,rfl,hr,hb1,hfr⟩;go_wp2_with fail;refine (lM B g l _ v 1 ao _ cap w1 (hw.later hb1) (by decide) hl hlen hr (fun _ a ha=>sS hw (hfr a ha))).mono ?_;rintro e w2 ⟨rfl,v2,hw2,hb2,-⟩;go_wp2_with fail;refine bodyPost_end (results_none rfl _ _ _) rfl ?_;exact⟨⟨_,rfl⟩,⟨v2,hw2⟩,(hb1.mono HB).trans hb2⟩
theorem Oe (B g pb fb:Nat)(l:List UInt8)(k n:Nat)(m:MV)(c:MC)(W:World)(hw:WrS B g ⟨l,0⟩ W)(hl:l.length<=100000000)(hp:W.heap[pb]?=some (dP fb))(h1:W.heap[fb]?=some m.box)(hse:Rd W 1 m.ho m.hn m.hc (kL c.seen))(hk:c.seen[k]?=some n) :
  Calls Tryz.prog 215 #[.pointer (some ⟨g,0,none⟩),.int .i64 (k:Int),.pointer (some ⟨pb,0,none⟩)] W fun e w'=>(∃r,e=.returned r)/\WrS B g ⟨l++val 1 (az n),0⟩ w'/\Below B W w':=by
 obtain⟨v,hw⟩:=hw;have hkn:k<m.hn:=by have:=hse.1;rw[jl] at this;have:=(List.getElem?_eq_some_iff.1 hk).1;omega
 obtain⟨b1,o1,hao,-,hc⟩:=hse.some (by have:=hse.le;omega);have x1:=hc k _ (yH c.seen k n hk);have x2:W.cell? ⟨b1,o1+k*1,none⟩=some (.int .u64 (n:Int)):=by rw[Nat.mul_one];exact x1
 have c26:=(McAt.of h1).c26;rw[hao] at c26;have d0:W.cell? ⟨pb,0,none⟩=some (.pointer (some ⟨fb,0,none⟩)):=by simp[World.cell?,hp,dP]
 have i0:(0:Int)<=(k:Int):=by omega
 have i1:(k:Int)<(m.hn:Int):=by omega
 clear h1 hc hao hk hp;go_in;go_wp2_with fail;refine (qE B g l v 1 n W hw (by decide) hl).mono ?_;rintro e w2 ⟨rfl,v2,hw2,hb2,-⟩;go_wp2_with fail;refine bodyPost_end (results_none rfl _ _ _) rfl ?_;exact⟨⟨_,rfl⟩,⟨v2,hw2⟩,hb2⟩
def tZ (l:List RP)(i:Nat):List UInt8:=val 1 (match l[i]? with | some p=>eQ p.1 (opL p.1.op p.2) | none=>[])
theorem BM (l:List RP):∀n,n<=l.length->bi (tZ l) n=jo (l.take n)
 | 0,_=>by simp[bi,jo]
 | n+1,h=>by
  have hn:l[n]?=some l[n]:=List.getElem?_eq_getElem (by omega);rw[dL,BM l n (by omega),List.take_add_one,hn];simp only[Option.toList_some];rw[Jk];simp[tZ,hn]
def oQ (l:List Nat)(i:Nat):List UInt8:=val 1 (match l[i]? with | some n=>az n | none=>[])
theorem zQ (l:List Nat):∀n,n<=l.length->bi (oQ l) n=gZ (l.take n)
 | 0,_=>by simp[bi,gZ]
 | n+1,h=>by
  have hn:l[n]?=some l[n]:=List.getElem?_eq_getElem (by omega);rw[dL,zQ l n (by omega),List.take_add_one,hn];simp only[Option.toList_some];rw[En];simp[oQ,hn]
theorem OY (B g fb:Nat)(l:List UInt8)(v:Value)(m:MV)(c:MC)(w:World)(hw:WrAt B g l 0 v w)(hl:l.length<=100000000)(h1:w.heap[fb]?=some m.box)(hm:MAt w m c)(hu:U64M m c)(hf:MayF 108 m c)(hlo:MLow B m):Calls Tryz.prog 204 #[.pointer (some ⟨g,0,none⟩),.pointer (some ⟨fb,0,none⟩)] w (uG B g (l++dB 108 m c) v w):=by
 have HF:=hf.log rfl;obtain⟨hall,hlen,hn⟩:=HF;have hlx:=hm.lg.len;have hall2:bi (tZ c.log) m.ln=jo c.log:=by rw[BM _ _ (by omega),List.take_of_length_le (by omega)]
 have c23:=(McAt.of h1).c23;have hb0:Below w.heap.size w (w.alloc (dP fb)):=(Below.refl _ _).alloc (Nat.le_refl _) _;have k0:(w.alloc (dP fb)).heap[w.heap.size]?=some (dP fb):=by show (w.heap.push _)[w.heap.size]?=some _;exact Array.getElem?_push_size
 have HB:B<=w.heap.size:=pK hw;have HA:=hid hall2;have HL:=hid hlen;have HX:=hid hlx;clear hall2 hlen hlx;unfold dP at hb0 k0;go_in;go_upto_region 1 with fail;generalize hg:w.alloc _=W0 at *;have kp:W0.heap[w.heap.size]?=some (dP fb):=k0;have q1:=ag h1 hb0;have hm0:=hm.later hb0;have hw0:=hw.later hb0;clear hg k0 c23;have c23:=(McAt.of q1).c23;have d0:W0.cell? ⟨w.heap.size,0,none⟩=some (.pointer (some ⟨fb,0,none⟩)):=by simp[World.cell?,kp,dP]
 go_wp2_with fail;have hW:=AP B g l v 13 (by decide) m.ln 205 #[.pointer (some ⟨w.heap.size,0,none⟩)] (tZ c.log) W0 hw0 (by omega) (enters_of Tryz.func205 (by kernel_rfl) rfl)
  (fun i hi=>by
   obtain⟨p,hp⟩:∃p,c.log[i]?=some p:=⟨_,List.getElem?_eq_getElem (by rw[HX.out];exact hi)⟩
   have hpm:=List.mem_of_getElem? hp;have hle:=gU (hm.lg.each p hpm) (hall p hpm);unfold tZ;rw[hp];exact⟨jm 1 _ (by decide) (by dsimp only;rw[gp];omega),by rw[ae];omega⟩)
  (by rw[HA.out];exact HL.out) hl
  (fun i W1 hi hb1 hwr=>by
   obtain⟨p,hp⟩:∃p,c.log[i]?=some p:=⟨_,List.getElem?_eq_getElem (by rw[HX.out];exact hi)⟩
   have hmn:=lu (tZ c.log) (Nat.le_of_lt hi);rw[HA.out] at hmn;have hL:=HL.out;have e5:tZ c.log i=val 1 (eQ p.1 (opL p.1.op p.2)):=by unfold tZ;rw[hp]
   refine (NG _ _ w.heap.size fb _ i p m c W1 hwr (by omega) ((hb1.block _ (Array.getElem?_eq_some_iff.1 kp).1).trans kp) (ag q1 hb1) (hm0.lg.later hb1) hp (hu.log p (List.mem_of_getElem? hp)) (hall p (List.mem_of_getElem? hp))).mono ?_;rintro e1 w1 ⟨q1,q2,q3⟩;exact⟨q1,by rw[dL,e5];exact q2,q3⟩)
 rw[HA.out] at hW;refine (show Calls _ _ _ _ _ from hW).mono ?_;rintro e w2 ⟨rfl,v2,hw2,hb2,hk2⟩;go_wp2_with fail;refine bodyPost_end (results_none rfl _ _ _) rfl ?_;exact⟨rfl,v2,hw2,(hb0.mono HB).trans hb2,hk2.after hb0⟩
theorem OT (B g fb:Nat)(l:List UInt8)(v:Value)(m:MV)(c:MC)(w:World)(hw:WrAt B g l 0 v w)(hl:l.length<=100000000)(h1:w.heap[fb]?=some m.box)(hm:MAt w m c)(hu:U64M m c)(hf:MayF 101 m c)(hlo:MLow B m):Calls Tryz.prog 214 #[.pointer (some ⟨g,0,none⟩),.pointer (some ⟨fb,0,none⟩)] w (uG B g (l++dB 101 m c) v w):=by
 have HF:=hf.seen rfl;have hn:=HF;have hlx:c.seen.length=m.hn:=by have:=hm.se.1;rw[jl] at this;omega
 have hlen:(gZ c.seen).length<=4194304:=by rw[oI];omega
 have hall2:bi (oQ c.seen) m.hn=gZ c.seen:=by rw[zQ _ _ (by omega),List.take_of_length_le (by omega)]
 have c26:=(McAt.of h1).c26;have hb0:Below w.heap.size w (w.alloc (dP fb)):=(Below.refl _ _).alloc (Nat.le_refl _) _;have k0:(w.alloc (dP fb)).heap[w.heap.size]?=some (dP fb):=by show (w.heap.push _)[w.heap.size]?=some _;exact Array.getElem?_push_size
 have HB:B<=w.heap.size:=pK hw;have HA:=hid hall2;have HL:=hid hlen;have HX:=hid hlx;clear hall2 hlen hlx;unfold dP at hb0 k0;go_in;go_upto_region 1 with fail;generalize hg:w.alloc _=W0 at *;have kp:W0.heap[w.heap.size]?=some (dP fb):=k0;have q1:=ag h1 hb0;have hm0:=hm.later hb0;have hw0:=hw.later hb0;clear hg k0 c26;have c26:=(McAt.of q1).c26;have d0:W0.cell? ⟨w.heap.size,0,none⟩=some (.pointer (some ⟨fb,0,none⟩)):=by simp[World.cell?,kp,dP]
 go_wp2_with fail;have hW:=AP B g l v 16 (by decide) m.hn 215 #[.pointer (some ⟨w.heap.size,0,none⟩)] (oQ c.seen) W0 hw0 (by omega) (enters_of Tryz.func215 (by kernel_rfl) rfl)
  (fun i hi=>by
   obtain⟨p,hp⟩:∃p,c.seen[i]?=some p:=⟨_,List.getElem?_eq_getElem (by rw[HX.out];exact hi)⟩
   unfold oQ;rw[hp];exact⟨jm 1 _ (by decide) (by dsimp only;rw[ah];omega),by rw[ae];omega⟩)
  (by rw[HA.out];exact HL.out) hl
  (fun i W1 hi hb1 hwr=>by
   obtain⟨p,hp⟩:∃p,c.seen[i]?=some p:=⟨_,List.getElem?_eq_getElem (by rw[HX.out];exact hi)⟩
   have hmn:=lu (oQ c.seen) (Nat.le_of_lt hi);rw[HA.out] at hmn;have hL:=HL.out;have e5:oQ c.seen i=val 1 (az p):=by unfold oQ;rw[hp]
   refine (Oe _ _ w.heap.size fb _ i p m c W1 hwr (by omega) ((hb1.block _ (Array.getElem?_eq_some_iff.1 kp).1).trans kp) (ag q1 hb1) (hm0.se.later hb1) hp).mono ?_;rintro e1 w1 ⟨q1,q2,q3⟩;exact⟨q1,by rw[dL,e5];exact q2,q3⟩)
 rw[HA.out] at hW;refine (show Calls _ _ _ _ _ from hW).mono ?_;rintro e w2 ⟨rfl,v2,hw2,hb2,hk2⟩;go_wp2_with fail;refine bodyPost_end (results_none rfl _ _ _) rfl ?_;exact⟨rfl,v2,hw2,(hb0.mono HB).trans hb2,hk2.after hb0⟩
structure PutOk (t0 t1 t2 t3 t4 t5 t6 t7:Nat)(f:FV)(pf:FuncId)(pc:Array Value):Prop where
 eq:f.pt=.func (.func pf) #[] pc
 en:∀args w,(callFunc pf args).run Tryz.prog w=.ok (.enter pf args) w
 calls:∀(B g fb:Nat) (l:List UInt8) (v:Value) (m:MV) (c:MC) (w:World),AllAt t0 t1 t2 t3 t4 t5 t6 t7 w->WrAt B g l 0 v w->l.length<=100000000->w.heap[fb]?=some m.box->MAt w m c->U64M m c->MayF f.l m c->MLow B m->Calls Tryz.prog pf (#[.pointer (some ⟨g,0,none⟩),.pointer (some ⟨fb,0,none⟩)]++pc) w (uG B g (l++dB f.l m c) v w)
theorem MF {t0 t1 t2 t3 t4 t5 t6 t7:Nat}:∀f∈allL t0 t1 t2 t3 t4 t5 t6 t7,∃pf pc,PutOk t0 t1 t2 t3 t4 t5 t6 t7 f pf pc:=by
 intro f hf;simp only[allL,List.mem_cons,List.not_mem_nil,or_false] at hf;rcases hf with rfl|rfl|rfl|rfl|rfl|rfl|rfl|rfl|rfl|rfl|rfl|rfl|rfl|rfl|rfl
 ·refine⟨219,#[.pointer (some ⟨t0,0,none⟩),.pointer (some ⟨t0+1,0,none⟩)],rfl,enters_of Tryz.func219 (by kernel_rfl) rfl,fun B g fb l v m c w ha h0 hl h1 hm hu hf hlo=>?_⟩;obtain⟨u0,u1⟩:=hu.vi;have hx:m.cells[1]?=some (.int .u64 ((m.vi.toNat:Nat):Int)):=by rw[Int.toNat_of_nonneg u0];rfl
  refine (tN EF 2 (by decide) B g fb t0 (t0+1) l v m.cells m.vi.toNat w h0 hl h1 hx ha.a0).mono ?_;rintro e w' ⟨rfl,v',h2,h3,h4⟩;exact⟨rfl,v',h2,h3,h4⟩
 ·refine⟨219,#[.pointer (some ⟨t1,0,none⟩),.pointer (some ⟨t1+1,0,none⟩)],rfl,enters_of Tryz.func219 (by kernel_rfl) rfl,fun B g fb l v m c w ha h0 hl h1 hm hu hf hlo=>?_⟩;obtain⟨u0,u1⟩:=hu.no;have hx:m.cells[2]?=some (.int .u64 ((m.no.toNat:Nat):Int)):=by rw[Int.toNat_of_nonneg u0];rfl
  refine (tN Ff 3 (by decide) B g fb t1 (t1+1) l v m.cells m.no.toNat w h0 hl h1 hx ha.a1).mono ?_;rintro e w' ⟨rfl,v',h2,h3,h4⟩;exact⟨rfl,v',h2,h3,h4⟩
 ·exact⟨187,#[],rfl,enters_of Tryz.func187 (by kernel_rfl) rfl,fun B g fb l v m c w _ h0 hl h1 hm hu hf hlo=>PM B g fb l v m c w h0 hl h1 hm hu hf hlo⟩
 ·refine⟨219,#[.pointer (some ⟨t2,0,none⟩),.pointer (some ⟨t2+1,0,none⟩)],rfl,enters_of Tryz.func219 (by kernel_rfl) rfl,fun B g fb l v m c w ha h0 hl h1 hm hu hf hlo=>?_⟩;obtain⟨u0,u1⟩:=hu.cl;have hx:m.cells[4]?=some (.int .u64 ((m.cl.toNat:Nat):Int)):=by rw[Int.toNat_of_nonneg u0];rfl
  refine (tN ET 5 (by decide) B g fb t2 (t2+1) l v m.cells m.cl.toNat w h0 hl h1 hx ha.a2).mono ?_;rintro e w' ⟨rfl,v',h2,h3,h4⟩;exact⟨rfl,v',h2,h3,h4⟩
 ·refine⟨219,#[.pointer (some ⟨t3,0,none⟩),.pointer (some ⟨t3+1,0,none⟩)],rfl,enters_of Tryz.func219 (by kernel_rfl) rfl,fun B g fb l v m c w ha h0 hl h1 hm hu hf hlo=>?_⟩;obtain⟨u0,u1⟩:=hu.nu;have hx:m.cells[5]?=some (.int .u64 ((m.nu.toNat:Nat):Int)):=by rw[Int.toNat_of_nonneg u0];rfl
  refine (tN FZ 6 (by decide) B g fb t3 (t3+1) l v m.cells m.nu.toNat w h0 hl h1 hx ha.a3).mono ?_;rintro e w' ⟨rfl,v',h2,h3,h4⟩;exact⟨rfl,v',h2,h3,h4⟩
 ·exact⟨190,#[],rfl,enters_of Tryz.func190 (by kernel_rfl) rfl,fun B g fb l v m c w _ h0 hl h1 hm hu hf hlo=>Pg B g fb l v m c w h0 hl h1 hm hu hf hlo⟩
 ·exact⟨196,#[],rfl,enters_of Tryz.func196 (by kernel_rfl) rfl,fun B g fb l v m c w _ h0 hl h1 hm hu hf hlo=>Py B g fb l v m c w h0 hl h1 hm hu hf hlo⟩
 ·refine⟨219,#[.pointer (some ⟨t4,0,none⟩),.pointer (some ⟨t4+1,0,none⟩)],rfl,enters_of Tryz.func219 (by kernel_rfl) rfl,fun B g fb l v m c w ha h0 hl h1 hm hu hf hlo=>?_⟩;obtain⟨u0,u1⟩:=hu.at_;have hx:m.cells[19]?=some (.int .u64 ((m.at_.toNat:Nat):Int)):=by rw[Int.toNat_of_nonneg u0];rfl
  refine (tN EN 9 (by decide) B g fb t4 (t4+1) l v m.cells m.at_.toNat w h0 hl h1 hx ha.a4).mono ?_;rintro e w' ⟨rfl,v',h2,h3,h4⟩;exact⟨rfl,v',h2,h3,h4⟩
 ·refine⟨219,#[.pointer (some ⟨t5,0,none⟩),.pointer (some ⟨t5+1,0,none⟩)],rfl,enters_of Tryz.func219 (by kernel_rfl) rfl,fun B g fb l v m c w ha h0 hl h1 hm hu hf hlo=>?_⟩;obtain⟨u0,u1⟩:=hu.cm;have hx:m.cells[20]?=some (.int .u64 ((m.cm.toNat:Nat):Int)):=by rw[Int.toNat_of_nonneg u0];rfl
  refine (tN Fz 10 (by decide) B g fb t5 (t5+1) l v m.cells m.cm.toNat w h0 hl h1 hx ha.a5).mono ?_;rintro e w' ⟨rfl,v',h2,h3,h4⟩;exact⟨rfl,v',h2,h3,h4⟩
 ·refine⟨219,#[.pointer (some ⟨t6,0,none⟩),.pointer (some ⟨t6+1,0,none⟩)],rfl,enters_of Tryz.func219 (by kernel_rfl) rfl,fun B g fb l v m c w ha h0 hl h1 hm hu hf hlo=>?_⟩;obtain⟨u0,u1⟩:=hu.bs;have hx:m.cells[21]?=some (.int .u64 ((m.bs.toNat:Nat):Int)):=by rw[Int.toNat_of_nonneg u0];rfl
  refine (tN EL 11 (by decide) B g fb t6 (t6+1) l v m.cells m.bs.toNat w h0 hl h1 hx ha.a6).mono ?_;rintro e w' ⟨rfl,v',h2,h3,h4⟩;exact⟨rfl,v',h2,h3,h4⟩
 ·exact⟨201,#[],rfl,enters_of Tryz.func201 (by kernel_rfl) rfl,fun B g fb l v m c w _ h0 hl h1 hm hu hf hlo=>OW B g fb l v m c w h0 hl h1 hm hu hf hlo⟩
 ·exact⟨204,#[],rfl,enters_of Tryz.func204 (by kernel_rfl) rfl,fun B g fb l v m c w _ h0 hl h1 hm hu hf hlo=>OY B g fb l v m c w h0 hl h1 hm hu hf hlo⟩
 ·refine⟨219,#[.pointer (some ⟨t7,0,none⟩),.pointer (some ⟨t7+1,0,none⟩)],rfl,enters_of Tryz.func219 (by kernel_rfl) rfl,fun B g fb l v m c w ha h0 hl h1 hm hu hf hlo=>?_⟩;obtain⟨u0,u1⟩:=hu.nc;have hx:m.cells[24]?=some (.int .u64 ((m.nc.toNat:Nat):Int)):=by rw[Int.toNat_of_nonneg u0];rfl
  refine (tN EC 14 (by decide) B g fb t7 (t7+1) l v m.cells m.nc.toNat w h0 hl h1 hx ha.a7).mono ?_;rintro e w' ⟨rfl,v',h2,h3,h4⟩;exact⟨rfl,v',h2,h3,h4⟩
 ·exact⟨210,#[],rfl,enters_of Tryz.func210 (by kernel_rfl) rfl,fun B g fb l v m c w _ h0 hl h1 hm hu hf hlo=>PL B g fb l v m c w h0 hl h1 hm hu hf hlo⟩
 exact⟨214,#[],rfl,enters_of Tryz.func214 (by kernel_rfl) rfl,fun B g fb l v m c w _ h0 hl h1 hm hu hf hlo=>OT B g fb l v m c w h0 hl h1 hm hu hf hlo⟩
end Go.Proofs.YtfmmandlmbcncaaGreatDoor.Msg
