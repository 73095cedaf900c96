/-
  A part of the proof.
-/
import Derived.ArgAppend
import Derived.Test.YtfmmandlmbcncaaGreatDoorKcaj
set_option maxHeartbeats 40000000
set_option maxRecDepth 100000
namespace Go.Proofs.YtfmmandlmbcncaaGreatDoor.Mem
open Go Go.RowKit
theorem Dz {w:World}{C:Nat}{e:TypeId}{size:Nat}{v:Value}{n:Nat}{xs:List Value}(h:w.ownsRow C e size v n xs):∀k,v.ownBlock=some k->C<=k:=by
 intro k hk;rcases h.2 with ⟨rfl,_⟩ | ⟨g,cap,cur,rfl,h4,_⟩
 ·cases hk
 have:g=k:=by simpa [Value.ownBlock] using hk
 omega
section
variable {P:Program} {w:World}
theorem BN (base:Nat)(t ty e:TypeId)(z:Value)(size bytes:Nat)(T:SliceT P t e z size bytes)
  (v:Value) (n:Nat) (xs:List Value) (hown:w.ownsRow base e size v n xs) (ao:Option Addr) (m c:Nat) (news:List Value) (hr:Rd w size ao m c news) (h1:∀u∈news,u.oneCell'=true)
  (h63:n+m<=maxLen) (hbytes:(n+m)*bytes<=140737488355328) (hbase:base<=w.heap.size) :
  ∃ao' cap' w',(Builtin.append_ #[t,t] ty #[v,.slice ao m c]).run P w=.ok (.slice ao' (n+m) cap') w'/\w'.ownsRow base e size (.slice ao' (n+m) cap') (n+m) (xs++news)/\w.grownBy w' v.ownBlock/\Below base w w' /\
   (∀k,(Value.slice ao' (n+m) cap').ownBlock=some k->v.ownBlock=some k\/w.heap.size<=k):=by
 obtain⟨ao',cap',w',hrun,r1,r2,r3,r4⟩:=ve (P:=P) w base t ty e z size bytes T v n xs hown ao m c news hr h1 h63 hbytes hbase;refine⟨ao',cap',w',hrun,r1,r2,r3,?_⟩;have hown':=hown;rcases hown'.2 with ⟨rfl,rfl⟩ | ⟨g,cap,cur,rfl,hb,hg,hn,hc,hs,ht⟩
 ·have hx:xs=[]:=List.eq_nil_of_length_eq_zero (by have:=hown.1;simpa using this);subst hx;obtain⟨ao2,cap2,w2,hrun2,q1,-⟩:=ve (P:=P) w w.heap.size t ty e z size bytes T (.slice none 0 0) 0 [] (World.ownsRow_nil _ _ _ _) ao m c news hr h1 h63 hbytes (Nat.le_refl _);rw[hrun] at hrun2;injection hrun2 with e1 e2;rw[<-e1] at q1;intro k hk;exact .inr (Dz q1 k hk)
 by_cases hroom:n+m<=cap
 ·obtain⟨i,hi,hz,hs',hby⟩:=info_parts T.info;have hsame:∃w2,(Builtin.append_ #[t,t] ty #[.slice (some ⟨g,0,none⟩) n cap,.slice ao m c]).run P w=.ok (.slice (some ⟨g,0,none⟩) (n+m) cap) w2:=by
   cases ao with
   | none=>
    have h0:c=0:=hr.2.2.2.1 rfl;have hm:m=0:=by have:=hr.2.1;omega
    subst h0;subst hm;exact⟨w,run_append_owned_none (P:=P) w base t ty e i size T.ht hi _ n xs hown⟩
   | some a=>
    refine⟨_,run_append_room_cells (P:=P) w t ty e i T.ht hi g 0 n cap a m c news (by rw[hs'];exact hr.1) hr.adds h1 hroom (fun j hj=>?_) (fun j hj=>by simp[World.frozen?,hg])⟩;have h2:=hr.1;have h3:(n+m)*size<=cap*size:=Nat.mul_le_mul_right size hroom;rw[Nat.add_mul] at h3;have hlt:0+n*i.size+j<cur.size:=by rw[hs'];omega
    simp[World.cell?,hg];omega
  obtain⟨w2,hrun2⟩:=hsame;rw[hrun] at hrun2;injection hrun2 with e1 e2;rw[e1];intro k hk;exact .inl hk
 obtain⟨g2,cap2,w2,hrun2,q1,-⟩:=Jl (P:=P) w t ty e z size bytes T _ n cap xs (Rd.of_own_slice hown) ao m c news hr h1 (by omega) h63 hbytes;rw[hrun] at hrun2;injection hrun2 with e1 e2;rw[<-e1] at q1;intro k hk;exact .inr (Dz q1 k hk)
theorem nC {ops:Array Oper}{Q:Exit->Act->World->Prop}{o:Oper}{a:Act}{w:World}{K:Act->World->Prop}{E:Prop}(hgd:o.guard=none)(s x:Operand)(t:TypeId)
  (ho:o.op=.call { callee:=.builtin .append,args:=#[s,x],argTypes:=#[t,t] }) (base:Nat) (e:TypeId) (z:Value) (size bytes:Nat) (T:SliceT P t e z size bytes)
  (v:Value) (n:Nat) (xs:List Value) (hs:a.eval s=v) (hown:w.ownsRow base e size v n xs) (ao:Option Addr) (m c:Nat) (news:List Value) (hx:a.eval x=.slice ao m c) (hr:Rd w size ao m c news) (h1:∀u∈news,u.oneCell'=true)
  (h63:n+m<=maxLen) (hbytes:(n+m)*bytes<=140737488355328) (hbase:base<=w.heap.size)
  (h:∀ao' cap' w',w'.ownsRow base e size (.slice ao' (n+m) cap') (n+m) (xs++news)->w.grownBy w' v.ownBlock->Below base w w'->(∀k,(Value.slice ao' (n+m) cap').ownBlock=some k->v.ownBlock=some k\/w.heap.size<=k)->K (a.put o.dst (.slice ao' (n+m) cap')) w') :
  if Region.wanted o (yielded ops a.tmps)=true then Oper.wp P o a w K Q else E:=by
 have hw:Region.wanted o (yielded ops a.tmps)=true:=by simp[Region.wanted,hgd]
 rw[if_pos hw];obtain⟨ao',cap',w',hrun,r1,r2,r3,r4⟩:=BN (P:=P) base t o.type e z size bytes T v n xs hown ao m c news hr h1 h63 hbytes hbase;unfold Oper.wp execOp;simp only[ho,resolve,invoke,builtin,Sem.run_bind,Sem.run_pure,Result.andThen_ok,List.map_toArray,List.map_cons,List.map_nil,hs,hx,hrun];exact h ao' cap' w' r1 r2 r3 r4
end
section
variable {P:Program} (w:World)
theorem qI {ops:Array Oper}{rest:List Oper}{o:Oper}{a:Act}{Q:Exit->Act->World->Prop}(hgd:o.guard=none)(s x:Operand)(t:TypeId)
  (ho:o.op=.call { callee:=.builtin .append,args:=#[s,x],argTypes:=#[t,t] }) (base:Nat) (e:TypeId) (z:Value) (size bytes:Nat) (T:SliceT P t e z size bytes)
  (v:Value) (n:Nat) (xs:List Value) (hs:a.eval s=v) (hown:w.ownsRow base e size v n xs) (ao:Option Addr) (m c:Nat) (news:List Value) (hx:a.eval x=.slice ao m c) (hr:Rd w size ao m c news) (h1:∀u∈news,u.oneCell'=true)
  (h63:n+m<=maxLen) (hbytes:(n+m)*bytes<=140737488355328) (hbase:base<=w.heap.size)
  (h:∀ao' cap' w',w'.ownsRow base e size (.slice ao' (n+m) cap') (n+m) (xs++news)->w.grownBy w' v.ownBlock->Below base w w'->(∀k,(Value.slice ao' (n+m) cap').ownBlock=some k->v.ownBlock=some k\/w.heap.size<=k)->wpList P ops Q rest (a.put o.dst (.slice ao' (n+m) cap')) w') :
  wpList P ops Q (o::rest) a w:=by
 refine wpList_plain hgd fun K hK=>?_;obtain⟨ao',cap',w',hrun,r1,r2,r3,r4⟩:=BN (P:=P) (w:=w) base t o.type e z size bytes T v n xs hown ao m c news hr h1 h63 hbytes hbase;unfold Oper.wp execOp;simp only[ho,resolve,invoke,builtin,Sem.run_bind,Sem.run_pure,Result.andThen_ok,List.map_toArray,List.map_cons,List.map_nil,hs,hx,hrun];exact hK _ _ (h ao' cap' w' r1 r2 r3 r4)
theorem Cm {ops:Array Oper}{rest:List Oper}{o:Oper}{a:Act}{Q:Exit->Act->World->Prop}(hgd:o.guard=none)(s x:Operand)(t:TypeId)
  (ho:o.op=.call { callee:=.builtin .append,args:=#[s,x],argTypes:=#[t,t] }) (base:Nat) (e:TypeId) (z:Value) (size bytes:Nat) (T:SliceT P t e z size bytes) (hby:bytes<=10000)
  (v:Value) (n:Nat) (xs:List Value) (hs:a.eval s=v) (hown:w.ownsRow base e size v n xs) (m:Nat) (news:List Value) (hx:a.eval x=.slice (some ⟨w.heap.size,0,none⟩) m m) (hl:news.length=m*size) (h1:∀u∈news,u.oneCell'=true)
  (hbase:base<=w.heap.size) (hN:n+m<=10000000000)
  (h:∀ao' cap' w',w'.ownsRow base e size (.slice ao' (n+m) cap') (n+m) (xs++news)->(w.alloc (.cells news.toArray e)).grownBy w' v.ownBlock->Below base w w'->(∀k,(Value.slice ao' (n+m) cap').ownBlock=some k->v.ownBlock=some k\/(w.alloc (.cells news.toArray e)).heap.size<=k)->wpList P ops Q rest (a.put o.dst (.slice ao' (n+m) cap')) w') :
  wpList P ops Q (o::rest) a (w.alloc (.cells news.toArray e)):=by
 have hb:(n+m)*bytes<=140737488355328:=by
  have:=Nat.mul_le_mul hN hby;omega
 refine qI _ hgd s x t ho base e z size bytes T v n xs hs (hown.alloc _) _ m m news hx (Rd.new w news e (0,0) size m hl (by unfold maxLen;omega)) h1 (by unfold maxLen;omega) hb (by simp;omega) ?_;intro ao' cap' w' h1' h2' h3' h4';exact h ao' cap' w' h1' h2' (((Below.refl base w).alloc hbase _).trans h3') h4'
end
end Go.Proofs.YtfmmandlmbcncaaGreatDoor.Mem
namespace Go.Proofs.YtfmmandlmbcncaaGreatDoor.Tlv
open Go.RowKit Go.Lib Mem
def KeepW (g:Nat)(v v':Value)(W w':World):Prop:=(∀k,k<W.heap.size->k≠g->v.ownBlock≠some k->w'.heap[k]?=W.heap[k]?)/\(∀k,v'.ownBlock=some k->v.ownBlock=some k\/W.heap.size<=k)
theorem KeepW.after {g:Nat}{v v':Value}{W W1 w':World}(h:KeepW g v v' W1 w')(hb:Below W.heap.size W W1):KeepW g v v' W w':=
 ⟨fun k hk hg hv=>(h.1 k (Nat.lt_of_lt_of_le hk hb.size) hg hv).trans (hb.block k hk),fun k hk=>(h.2 k hk).imp id (fun h=>Nat.le_trans hb.size h)⟩
theorem mM (B g:Nat)(l b:List UInt8)(v:Value)(t:UInt8)(ao:Option Addr)(n cap:Nat)(W:World)(hw:WrAt B g l 0 v W)(ht:0<t.toNat)(hl:l.length<=100000000)(hn:n<=4194304)(hr:Rd W 1 ao n cap (byV b))
  (hdis:0<cap->∀a,ao=some a->some a.block≠v.ownBlock) :
  Calls Tryz.prog 147 #[.pointer (some ⟨g,0,none⟩),.int .u8 (t.toNat:Int),.slice ao n cap] W fun e w'=>e=.returned (.pointer (some ⟨g,0,none⟩))/\∃v',WrAt B g (l++val t b) 0 v' w'/\Below B W w'/\KeepW g v v' W w':=by
 have k63:l.length+5+n<=maxLen:=by unfold maxLen;omega
 have kby:(l.length+5+n)*1<=140737488355328:=by omega
 have hat:=hw.at_;have hlt:=hw.lt;have hne:=hw.ne;have hown:=hw.own;have hB:=hw.le;have hBW:B<=W.heap.size:=by omega
 have hbl:b.length=n:=by have:=hr.1;rw[aP] at this;omega
 have Hbl:=hid hbl;clear hw hbl;have c0:W.cell? ⟨g,0,none⟩=some v:=by simp[World.cell?,hat]
 have c1:W.cell? ⟨g,1,none⟩=some (.int .i64 0):=by simp[World.cell?,hat]
 have g0:W.frozen? ⟨g,0,none⟩=false:=by simp[World.frozen?,hat]
 have f1:decide ((4194304:Int)<(n:Int))=false:=decide_eq_false (by omega);have ht2:t.toNat<256:=t.toNat_lt;have f2:((t.toNat:Int)==0)=false:=by simp;omega
 have hpe:∀(w:World),Sem.run Tryz.prog (binOp BinOp.eql 175 (.pointer (some ⟨g,0,none⟩)) (.pointer none)) w=.ok (.bool false) w:=fun _=>by kernel_rfl
 go_in;go_wp2_with (first | (at_builtin;refine Cm _ rfl (.tmp 14) (.tmp 27) 34 rfl B 5 (.int .u8 0) 1 1 byT (by decide) v l.length (byV l) rfl hown 5 [.int .u8 (t.toNat:Int),.int .u8 ((n:Int) / 16777216),.int .u8 ((n:Int) / 65536),.int .u8 ((n:Int) / 256 % 256),.int .u8 ((n:Int) % 256)] rfl rfl (fun u hu=>by simp at hu;rcases hu with rfl|rfl|rfl|rfl|rfl<;>rfl) hBW (by omega) ?_;intro ao1 cap1 w1 ho1 hg1 hb1 fr1;have hr1:=fD (hr.later ((Below.refl _ W).alloc (Nat.le_refl _) _)) hg1 hdis;have hat1:=(hg1.block g (by simp;omega) (fun e=>hne e.symm)).trans ((Below.heap_alloc W _ g hlt).trans hat)) | (at_builtin;refine qI _ rfl (.tmp 28) (.tmp 29) 34 rfl B 5 (.int .u8 0) 1 1 byT _ (l.length+5) _ rfl ho1 ao n cap (byV b) rfl hr1 (bK _) k63 kby (Nat.le_trans hBW hb1.size) ?_;intro ao2 cap2 w2 ho2 hg2 hb2 fr2;have hat2:w2.heap[g]?=some (.cells #[v,.int .i64 0] 177):=(hg2.block g (Array.getElem?_eq_some_iff.1 hat1).1 (fun e=>own_ne hat1 (by decide) ho1 e.symm)).trans hat1;have d0:w2.cell? ⟨g,0,none⟩=some v:=(by simp[World.cell?,hat2]);have e0:w2.frozen? ⟨g,0,none⟩=false:=(by simp[World.frozen?,hat2])));go_ret;refine⟨rfl,_,WrAt.store (l':=l++val t b) hat2 hB ?_,?_,?_⟩
 ·have hbl:=Hbl.out;rw[dP,yA t b n hbl hn,show (l++val t b).length=l.length+5+n from (by rw[List.length_append,af,hbl];omega)];rw[List.append_assoc] at ho2;exact ho2
 ·exact (hb1.trans hb2).setCell hB _
 have z0:W.heap.size<=(W.alloc (.cells #[.int .u8 (t.toNat:Int),.int .u8 ((n:Int) / 16777216),.int .u8 ((n:Int) / 65536),.int .u8 ((n:Int) / 256 % 256),.int .u8 ((n:Int) % 256)] 5)).heap.size:=((Below.refl _ W).alloc (Nat.le_refl _) _).size;have z1:=hg1.size;refine⟨fun k hk hkg hkv=>?_,fun k hk=>?_⟩
 ·have h1:some k≠v.ownBlock:=fun e=>hkv e.symm;have h2:some k≠(Value.slice ao1 (l.length+5) cap1).ownBlock:=fun e=>(fr1 k e.symm).elim hkv (fun h=>by simp at h;omega);have hk1:k<w1.heap.size:=by simp at z1;omega
  exact (Below.heap_setCell _ _ _ _ hkg).trans ((hg2.block k hk1 h2).trans ((hg1.block k (by simp;omega) h1).trans (Below.heap_alloc W _ k hk)))
 rcases fr2 k hk with h | h
 ·rcases fr1 k h with h | h
  ·exact .inl h
  exact .inr (by simp at h;omega)
 exact .inr (by simp at z1;omega)
theorem oI (B g:Nat)(l:List UInt8)(v:Value)(t:UInt8)(n:Nat)(W:World)(hw:WrAt B g l 0 v W)(ht:0<t.toNat)(hl:l.length<=100000000) :
  Calls Tryz.prog 107 #[.pointer (some ⟨g,0,none⟩),.int .u8 (t.toNat:Int),.int .u64 (n:Int)] W fun e w'=>e=.returned (.pointer (some ⟨g,0,none⟩))/\∃v',WrAt B g (l++val t (aA n)) 0 v' w'/\Below B W w'/\KeepW g v v' W w':=by
 have hmk:(Instr.makeSlice 34 (.int .i64 8) (.int .i64 8)).run Tryz.prog W=.ok (.slice (some ⟨W.heap.size,0,none⟩) 8 8) (W.alloc (.cells (madeCells #[.int .u8 0] 8) 5)):=run_make_row' (P:=Tryz.prog) 34 5 (.int .u8 0) 1 rfl (by kernel_rfl) rfl .i64 .i64 8 (by decide) (by decide) W;have hrow0:=World.rowIs_made W (.int .u8 0) 8 5;have hb0:Below W.heap.size W (W.alloc (.cells (madeCells #[.int .u8 0] 8) 5)):=(Below.refl _ W).alloc (Nat.le_refl _) _;go_in;go_wp2_with fail;go_loopw [12] (fun p wr=>∃k:Nat,k<=8/\p=.int .i64 (k:Int)/\wr.rowIs W.heap.size 5 8 (jP n k)/\Below W.heap.size W wr) (fun p _=>(8-intOf p).toNat)
 case atStart=>exact⟨0,by omega,rfl,hrow0.congr (fun i hi=>by simp only[jP];rw[if_neg (by omega)]),hb0⟩
 case round=>
  obtain⟨k,hk,rfl,hrow,hbr⟩:=hrel;by_cases hk8:k=8
  ·subst hk8;have hown:wr.ownsRow W.heap.size 5 1 (.slice (some ⟨W.heap.size,0,none⟩) 8 8) 8 (byV (aA n)):=hrow.own (by decide) rfl (by intro j hj;simp[jP,aA,byV,List.getElem?_map,List.getElem?_range hj,UInt8.toNat_ofNat']);go_wp2_with fail;refine (mM B g l (aA n) v t _ 8 8 wr (hw.later hbr) ht hl (by omega) (Rd.of_own_slice hown) (fun _ a ha=>by cases ha;exact fun e=>iG hw.own e.symm)).mono ?_;rintro e w' ⟨rfl,v',h1,h2,h3⟩;go_wp2;go_ret;exact⟨rfl,v',h1,(hbr.mono (by have:=hw.le;have:=hw.lt;omega)).trans h2,h3.after hbr⟩
  have hk7:k<8:=by omega
  have hcell:=hrow.cell (i:=7-k) (by omega);have hfr:=hrow.frozen (7-k);go_wp2_with fail
  case roundEnd=>
   have hs:=hrow.set (7-k) (.int .u8 ((n:Int) / 2 ^ (8*k) % 256));refine⟨⟨k+1,by omega,by go_num,hs.congr ?_,hbr.setCell (Nat.le_refl _) _⟩,by simp[intOf];omega⟩;intro j hj;by_cases hjk:j=7-k
   ·subst hjk;have e1:7-(7-k)=k:=by omega
    have e2:256 ^ k=2 ^ (8*k):=by rw[Nat.pow_mul]
    rw[if_pos rfl];unfold jP;rw[if_pos (by omega),e1,e2];simp
   simp only[jP,if_neg hjk];by_cases h8:8<=j+k
   ·rw[if_pos h8,if_pos (by omega)]
   rw[if_neg h8,if_neg (by omega)]
end Go.Proofs.YtfmmandlmbcncaaGreatDoor.Tlv
namespace Go.Proofs.YtfmmandlmbcncaaGreatDoor.Msg
open Go.RowKit Go.Lib Mem Tlv
def mF (cs:Array Value):Obj:=.cells cs 59
theorem pR {W:World}{B:Nat}{cs:Array Value}(h:W.heap[B]?=some (mF cs))(i:Nat)(v:Value)(hv:cs[i]?=some v):W.cell? ⟨B,i,none⟩=some v:=by
 unfold mF at h;simp[World.cell?,h,hv]
theorem vX {W:World}{B:Nat}{cs:Array Value}(h:W.heap[B]?=some (mF cs))(i:Nat):W.frozen? ⟨B,i,none⟩=false:=by
 unfold mF at h;simp[World.frozen?,h]
structure FnAt (ob:Nat)(ff:Value)(fb i:Nat)(x:Value)(W:World):Prop where
 fn:W.heap[ob]?=some (.cells #[ff] 251)
 cell:W.cell? ⟨fb,i,none⟩=some x
theorem FnAt.get {ob:Nat}{ff:Value}{fb i:Nat}{x:Value}{W:World}(h:FnAt ob ff fb i x W):W.cell? ⟨ob,0,none⟩=some ff:=by
 have:=h.fn;simp[World.cell?,this]
structure TgAt (tb:Nat)(t:Int)(ob:Nat)(ff:Value)(fb i:Nat)(x:Value)(W:World):Prop where
 fn:W.heap[ob]?=some (.cells #[ff] 251)
 cell:W.cell? ⟨fb,i,none⟩=some x
 tag:W.heap[tb]?=some (.cells #[.int .u8 t] 5)
theorem TgAt.get {tb:Nat}{t:Int}{ob:Nat}{ff:Value}{fb i:Nat}{x:Value}{W:World}(h:TgAt tb t ob ff fb i x W):W.cell? ⟨ob,0,none⟩=some ff/\W.cell? ⟨tb,0,none⟩=some (.int .u8 t):=by
 have h1:=h.fn;have h2:=h.tag;simp[World.cell?,h1,h2]
structure AllP (ff:FuncId)(ix:Nat):Prop where
 calls:∀(b:Nat) (w:World),Calls Tryz.prog ff #[.pointer (some ⟨b,0,none⟩)] w fun e w'=>e=.returned (.pointer (some ⟨b,ix,none⟩))/\w=w'
 ent:∀args w,(callFunc ff args).run Tryz.prog w=.ok (.enter ff args) w
theorem xO:AllP 164 1:=by
 refine⟨fun b w=>?_,enters_of Tryz.func164 (by kernel_rfl) rfl⟩;go_in;go_wp2;go_ret;exact⟨rfl,rfl⟩
theorem G5:AllP 165 2:=by
 refine⟨fun b w=>?_,enters_of Tryz.func165 (by kernel_rfl) rfl⟩;go_in;go_wp2;go_ret;exact⟨rfl,rfl⟩
theorem Eo:AllP 166 4:=by
 refine⟨fun b w=>?_,enters_of Tryz.func166 (by kernel_rfl) rfl⟩;go_in;go_wp2;go_ret;exact⟨rfl,rfl⟩
theorem Ea:AllP 167 5:=by
 refine⟨fun b w=>?_,enters_of Tryz.func167 (by kernel_rfl) rfl⟩;go_in;go_wp2;go_ret;exact⟨rfl,rfl⟩
theorem Ew:AllP 168 19:=by
 refine⟨fun b w=>?_,enters_of Tryz.func168 (by kernel_rfl) rfl⟩;go_in;go_wp2;go_ret;exact⟨rfl,rfl⟩
theorem xB:AllP 169 20:=by
 refine⟨fun b w=>?_,enters_of Tryz.func169 (by kernel_rfl) rfl⟩;go_in;go_wp2;go_ret;exact⟨rfl,rfl⟩
theorem EX:AllP 170 21:=by
 refine⟨fun b w=>?_,enters_of Tryz.func170 (by kernel_rfl) rfl⟩;go_in;go_wp2;go_ret;exact⟨rfl,rfl⟩
theorem Ey:AllP 171 24:=by
 refine⟨fun b w=>?_,enters_of Tryz.func171 (by kernel_rfl) rfl⟩;go_in;go_wp2;go_ret;exact⟨rfl,rfl⟩
section
variable {ff:FuncId} {ix:Nat} (H:AllP ff ix)
include H
theorem mV (B tb fb ob:Nat)(cs0 cs:Array Value)(n:Int)(y0:Value)(w:World)(h0:w.heap[tb]?=some (mF cs0))(h1:w.heap[fb]?=some (mF cs))(hx:cs[ix]?=some (.int .u64 n))(hy:cs0[ix]?=some y0)
  (hf:w.heap[ob]?=some (.cells #[.func (.func ff) #[] #[]] 251)) (hB:B<=tb) :
  Calls Tryz.prog 218 #[.pointer (some ⟨tb,0,none⟩),.pointer (some ⟨fb,0,none⟩),.pointer (some ⟨ob,0,none⟩)] w fun e w'=>e=.returned (.tuple #[])/\w'.heap[tb]?=some (mF (cs0.setIfInBounds ix (.int .u64 n)))/\Oth B tb w w':=by
 have hmo:Tryz.prog.follows .mixedOrders=true:=by kernel_rfl
 have hen:=H.ent;have hd:Below w.heap.size w w.drew:=(Below.refl _ _).drew;have s0:FnAt ob (.func (.func ff) #[] #[]) fb ix (.int .u64 n) w.drew:=⟨hf,pR h1 ix _ hx⟩
 have c9:w.drew.cell? ⟨tb,ix,none⟩=some y0:=pR (W:=w.drew) h0 ix y0 hy;have z9:w.drew.frozen? ⟨tb,ix,none⟩=false:=vX (W:=w.drew) h0 ix;have hO:Oth B tb w (w.drew.setCell ⟨tb,ix,none⟩ (.int .u64 n)):=((Oth.refl B tb w).later (Nat.le_trans hB (Nat.le_of_lt (Array.getElem?_eq_some_iff.1 h0).1)) hd).set hB _ _;have hS:(w.drew.setCell ⟨tb,ix,none⟩ (.int .u64 n)).heap[tb]?=some (mF (cs0.setIfInBounds ix (.int .u64 n))):=at_set (W:=w.drew) h0;clear hx hy h0 h1 hf;go_in;go_upto_region 0 with fail;refine fB (k:=9) (S:=FnAt ob (.func (.func ff) #[] #[]) fb ix (.int .u64 n)) hmo ?_;change dm _ _ _ _ _ _ _ _ _ (World.drew w);generalize World.drew w=W0 at *;refine zTa 0 (.func (.func ff) #[] #[]) rfl (by rintro w h;have c0:=h.get;have d0:=h.cell;go_simp) s0 ?_;go_simp;refine zTp 1 (.pointer (some ⟨tb,0,none⟩)) rfl s0 ?_;go_simp;refine zTa 3 (.func (.func ff) #[] #[]) rfl (by rintro w h;have c0:=h.get;have d0:=h.cell;go_simp) s0 ?_;go_simp;refine zTp 4 (.pointer (some ⟨fb,0,none⟩)) rfl s0 ?_;go_simp;refine zT1 2 rfl (fun K hK=>?_);go_simp;refine (H.calls tb W0).mono ?_;rintro e _ ⟨rfl,rfl⟩;go_simp;refine hK _ _ ⟨.inr s0,?_⟩;clear hK K;refine zT1 5 rfl (fun K hK=>?_);go_simp;refine (H.calls fb W0).mono ?_;rintro e _ ⟨rfl,rfl⟩;go_simp;refine hK _ _ ⟨.inr s0,?_⟩;clear hK K;refine zTa 6 (.pointer (some ⟨fb,ix,none⟩)) rfl (by rintro w h;have c0:=h.get;have d0:=h.cell;go_simp) s0 ?_;go_simp;refine zTa 7 (.int .u64 n) rfl (by rintro w h;have c0:=h.get;have d0:=h.cell;go_simp) s0 ?_;go_simp;refine zTa 8 (.pointer (some ⟨tb,ix,none⟩)) rfl (by rintro w h;have c0:=h.get;have d0:=h.cell;go_simp) s0 ?_;go_simp;refine dQ (by kernel_rfl) (by kernel_rfl) ?_;refine zA1 9 rfl (fun K hK=>?_);go_simp;go_simp;refine hK _ _ ?_;clear hK K;refine wpAny_done (by kernel_rfl) ?_ _;refine bodyPost_end (results_none rfl _ _ _) rfl ?_;exact⟨rfl,hS,hO⟩
theorem qC (t:UInt8)(ht:0<t.toNat)(B g fb tb ob:Nat)(l:List UInt8)(v:Value)(cs:Array Value)(n:Nat)(w:World)(hw:WrAt B g l 0 v w)(hl:l.length<=100000000)(h1:w.heap[fb]?=some (mF cs))(hx:cs[ix]?=some (.int .u64 (n:Int)))
  (hf:plainAt w (t.toNat:Int) (.func (.func ff) #[] #[]) tb ob) :
  Calls Tryz.prog 219 #[.pointer (some ⟨g,0,none⟩),.pointer (some ⟨fb,0,none⟩),.pointer (some ⟨tb,0,none⟩),.pointer (some ⟨ob,0,none⟩)] w fun e w'=>e=.returned (.tuple #[])/\∃v',WrAt B g (l++val t (aA n)) 0 v' w'/\Below B w w'/\KeepW g v v' w w':=by
 have hmo:Tryz.prog.follows .mixedOrders=true:=by kernel_rfl
 have hen:=H.ent;have hd:Below w.heap.size w w.drew:=(Below.refl _ _).drew;have s0:TgAt tb (t.toNat:Int) ob (.func (.func ff) #[] #[]) fb ix (.int .u64 (n:Int)) w.drew:=⟨hf.2,pR h1 ix _ hx,hf.1⟩
 have hw0:=hw.later hd;have hlt:=hw.lt;have hle:=hw.le;clear hx h1 hf;go_in;go_upto_region 0 with fail;refine fB (k:=7) (S:=TgAt tb (t.toNat:Int) ob (.func (.func ff) #[] #[]) fb ix (.int .u64 (n:Int))) hmo ?_;change dm _ _ _ _ _ _ _ _ _ (World.drew w);generalize World.drew w=W0 at *;refine zTp 0 (.pointer (some ⟨g,0,none⟩)) rfl s0 ?_;go_simp;refine zTa 1 (.int .u8 (t.toNat:Int)) rfl (by rintro w h;obtain⟨c0,c1⟩:=h.get;have d0:=h.cell;go_simp) s0 ?_;go_simp;refine zTa 2 (.func (.func ff) #[] #[]) rfl (by rintro w h;obtain⟨c0,c1⟩:=h.get;have d0:=h.cell;go_simp) s0 ?_;go_simp;refine zTp 3 (.pointer (some ⟨fb,0,none⟩)) rfl s0 ?_;go_simp;refine zT1 4 rfl (fun K hK=>?_);go_simp;refine (H.calls fb W0).mono ?_;rintro e _ ⟨rfl,rfl⟩;go_simp;refine hK _ _ ⟨.inr s0,?_⟩;clear hK K;refine zTp 5 (.pointer (some ⟨fb,ix,none⟩)) rfl s0 ?_;go_simp;refine zTa 6 (.int .u64 (n:Int)) rfl (by rintro w h;obtain⟨c0,c1⟩:=h.get;have d0:=h.cell;go_simp) s0 ?_;go_simp;refine dQ (by kernel_rfl) (by kernel_rfl) ?_;refine zA1 7 rfl (fun K hK=>?_);go_simp;refine (oI B g l v t n W0 hw0 ht hl).mono ?_;rintro e W1 ⟨rfl,v1,q1,q2,q3⟩;go_simp;refine hK _ _ ?_;clear hK K;refine wpAny_done (by kernel_rfl) ?_ _;refine bodyPost_end (results_none rfl _ _ _) rfl ?_;exact⟨rfl,v1,q1,(hd.mono (by omega)).trans q2,q3.after hd⟩
end
def ed:FM:=⟨5,1,0,0,0,0,bM,0,false,0,2,0,0,false⟩
def xG:FM:=⟨5,0,0,0,0,0,bM,0,false,0,0,0,0,false⟩
def EQ:FM:=⟨5,1,0,0,0,0,bM,0,false,0,0,0,0,false⟩
def lm (t0:Nat):FV:=dG 118 t0 (t0+1)
def kW (t5:Nat):FV:=dG 109 t5 (t5+1)
theorem Dc (t0 t1 t2 t3 t4 t5 t6 t7:Nat):ofL 5 false t0 t1 t2 t3 t4 t5 t6 t7=[lm t0,kW t5]:=rfl
def fn1:Value:=.func (.func 164) #[] #[]
def fn6:Value:=.func (.func 169) #[] #[]
structure FldAt (b t0 t5 n:Nat)(W:World):Prop where
 row:Rd W 4 (some ⟨b,0,none⟩) 2 n (fV [lm t0,kW t5])
 a0:plainAt W 2 fn1 t0 (t0+1)
 a5:plainAt W 10 fn6 t5 (t5+1)
theorem FldAt.pos {b t0 t5 n:Nat}{W:World}(h:FldAt b t0 t5 n W):0<n:=by have:=h.row.2.1;omega
theorem FldAt.cell {b t0 t5 n:Nat}{W:World}(h:FldAt b t0 t5 n W)(j:Nat)(v:Value)(hv:(fV [lm t0,kW t5])[j]?=some v):W.cell? ⟨b,j,none⟩=some v:=by
 obtain⟨-,-,q⟩:=h.row.2.2.2.2 h.pos _ rfl;have:=q j v hv
 rwa [show (0:Nat)+j=j by omega] at this
theorem FldAt.lt {b t0 t5 n:Nat}{W:World}(h:FldAt b t0 t5 n W):b<W.heap.size:=(h.row.2.2.2.2 h.pos _ rfl).2.1
theorem FldAt.later {b t0 t5 n:Nat}{W W':World}(h:FldAt b t0 t5 n W)(hb:Below W.heap.size W W'):FldAt b t0 t5 n W':=⟨h.row.later hb,h.a0.later hb,h.a5.later hb⟩
theorem FldAt.keep {b t0 t5 n:Nat}{W W':World}(h:FldAt b t0 t5 n W)(hz:W.heap.size<=W'.heap.size)(h1:W'.heap[b]?=W.heap[b]?)(h2:W'.heap[t0]?=W.heap[t0]?)(h3:W'.heap[t0+1]?=W.heap[t0+1]?)(h4:W'.heap[t5]?=W.heap[t5]?)(h5:W'.heap[t5+1]?=W.heap[t5+1]?):FldAt b t0 t5 n W':=by
 refine⟨?_,⟨h2.trans h.a0.1,h3.trans h.a0.2⟩,⟨h4.trans h.a5.1,h5.trans h.a5.2⟩⟩;obtain⟨r1,r2,r3,r4,r5⟩:=h.row;refine⟨r1,r2,r3,r4,fun h0 a ha=>?_⟩;cases ha;obtain⟨s,l,c⟩:=r5 h0 _ rfl;exact⟨s,Nat.lt_of_lt_of_le l hz,fun j u hu=>(World.cell?_of_block (a:=⟨b,0+j,none⟩) h1).trans (c j u hu)⟩
theorem FldAt.ne {b t0 t5 n k:Nat}{W:World}(h:FldAt b t0 t5 n W){cs:Array Value}{t:TypeId}(hk:W.heap[k]?=some (.cells cs t))(hc:cs[0]?≠some (.int .i32 118))(ht:t≠5)(ht2:t≠251):b≠k/\t0≠k/\t0+1≠k/\t5≠k/\t5+1≠k:=by
 refine⟨?_,?_,?_,?_,?_⟩
 ·rintro rfl;have h1:=h.cell 0 (.int .i32 118) rfl;simp only[World.cell?,hk] at h1;exact hc h1
 all_goals
  intro e
  first
  | (have h1:=h.a0.1;rw[e,hk] at h1;cases h1;exact ht rfl)
  | (have h1:=h.a0.2;rw[e,hk] at h1;cases h1;exact ht2 rfl)
  | (have h1:=h.a5.1;rw[e,hk] at h1;cases h1;exact ht rfl)
  | (have h1:=h.a5.2;rw[e,hk] at h1;cases h1;exact ht2 rfl)
theorem FldAt.oth {b t0 t5 n B tb:Nat}{W W':World}{cs:Array Value}(h:FldAt b t0 t5 n W)(ho:Oth B tb W W')(hk:W.heap[tb]?=some (mF cs))(hc:cs[0]?≠some (.int .i32 118)):FldAt b t0 t5 n W':=by
 obtain⟨n1,n2,n3,n4,n5⟩:=h.ne hk hc (by decide) (by decide);exact h.keep ho.bel.size (ho.oth _ h.lt n1) (ho.oth _ (Array.getElem?_eq_some_iff.1 h.a0.1).1 n2) (ho.oth _ (Array.getElem?_eq_some_iff.1 h.a0.2).1 n3) (ho.oth _ (Array.getElem?_eq_some_iff.1 h.a5.1).1 n4) (ho.oth _ (Array.getElem?_eq_some_iff.1 h.a5.2).1 n5)
structure ComAt (w:World)(M:FM)(W:World):Prop where
 bel:Below w.heap.size w W
 msg:W.heap[w.heap.size]?=some ed.box
 bare:W.heap[w.heap.size+1]?=some M.box
theorem ComAt.lt {w:World}{M:FM}{W:World}(h:ComAt w M W):w.heap.size+1<W.heap.size:=(Array.getElem?_eq_some_iff.1 h.bare).1
theorem ComAt.later {w:World}{M:FM}{W W':World}(h:ComAt w M W)(hb:Below W.heap.size W W'):ComAt w M W':=
 ⟨h.bel.trans (hb.mono h.bel.size),(hb.block _ (Nat.lt_of_succ_lt h.lt)).trans h.msg,(hb.block _ h.lt).trans h.bare⟩
theorem Oq (W:World):OpAt W ed.rq.op ⟨[],[],[]⟩:=⟨Rd.nil _ _,Rd.nil _ _,Rd.nil _ _,Nat.zero_le _,Nat.zero_le _,Nat.zero_le _⟩
theorem Kq (w:World):Calls Tryz.prog 60 #[ed.val] w (aN true w):=by
 have hb0:Below w.heap.size w (w.alloc ed.box):=(Below.refl _ _).alloc (Nat.le_refl _) _;have k0:(w.alloc ed.box).heap[w.heap.size]?=some ed.box:=by show (w.heap.push _)[w.heap.size]?=some _;exact Array.getElem?_push_size
 have hz0:(w.alloc ed.box).heap.size=w.heap.size+1:=by simp
 unfold ed at hb0 k0 hz0;unfold FM.box FM.cells bM zeroV at hb0 k0 hz0;unfold ed FM.val FM.cells bM zeroV;dsimp only at hb0 k0 hz0 ⊢;go_in;go_upto_region 1 with fail;generalize hg:w.alloc _=W0 at *;have k0f:W0.heap[w.heap.size]?=some ed.box:=k0;have c0:W0.cell? ⟨w.heap.size,0,none⟩=some (.int .i64 5):=aQ k0f 0 _ rfl;have HZ:=hid hz0;clear hg k0 hz0;go_upto_region 2 with (refine zNr rfl ?_;go_simp);generalize hg:W0.alloc _=W1;have hz0:=HZ.out;have hb1:Below W0.heap.size W0 W1:=by rw[<-hg];exact (Below.refl _ _).alloc (Nat.le_refl _) _
 have k1:W1.heap[w.heap.size+1]?=some xG.box:=by rw[<-hg,<-hz0];show (W0.heap.push _)[W0.heap.size]?=some _;exact Array.getElem?_push_size
 have hA:ComAt w xG W1:=⟨hb0.trans (hb1.mono hb0.size),(hb1.block _ (by rw[hz0];omega)).trans k0f,k1⟩
 rw[hz0];clear hg c0 k1 hb1 k0f hz0 hb0 HZ;have a0:W1.cell? ⟨w.heap.size,0,none⟩=some (.int .i64 5):=aQ hA.msg 0 _ rfl;have a25:W1.cell? ⟨w.heap.size,25,none⟩=some (.bool false):=aQ hA.msg 25 _ rfl;go_wp2_with fail;refine (qZ 5 false W1).mono ?_;rintro e W2 ⟨b,t0,t1,t2,t3,t4,t5,t6,t7,m,n,rfl,hm,hrd,hat,hb2⟩;rw[Dc] at hm hrd;have hm1:m=2:=hm;subst hm1;have hA2:=hA.later hb2;have hF2:FldAt b t0 t5 n W2:=⟨hrd,hat.a0,hat.a5⟩
 clear hat hm hA a0 a25 hrd;go_wp2_with fail;go_loopw [17] (fun p wr=>(p=.int .i64 0/\ComAt w xG wr/\FldAt b t0 t5 n wr)\/(p=.int .i64 1/\ComAt w EQ wr/\FldAt b t0 t5 n wr)\/(p=.int .i64 2/\ComAt w ed wr)) (fun p _=>2-(intOf p).toNat)
 case atStart=>exact .inl ⟨rfl,hA2,hF2⟩
 case round=>
  rcases hrel with ⟨rfl,hB,hr⟩ | ⟨rfl,hB,hr⟩ | ⟨rfl,hB⟩
  ·have f0:wr.cell? ⟨b,0,none⟩=some (.int .i32 118):=hr.cell 0 _ rfl;have f1:wr.cell? ⟨b,1,none⟩=some (lm t0).kp:=hr.cell 1 _ rfl;have f2:wr.cell? ⟨b,2,none⟩=some (lm t0).pt:=hr.cell 2 _ rfl;have f3:wr.cell? ⟨b,3,none⟩=some (lm t0).tk:=hr.cell 3 _ rfl;unfold lm dG at f1 f2 f3;dsimp only at f1 f2 f3;go_upto_region 6 with fail;generalize hg:wr.alloc _=W3;have hb3:Below wr.heap.size wr W3:=by rw[<-hg];exact (Below.refl _ _).alloc (Nat.le_refl _) _
   have kf:W3.heap[wr.heap.size]?=some (lm t0).box:=by rw[<-hg];show (wr.heap.push _)[wr.heap.size]?=some _;exact Array.getElem?_push_size
   have hB3:=hB.later hb3;have hr3:=hr.later hb3;obtain⟨-,g1,-,-,-⟩:=jQ kf;unfold lm dG at g1;dsimp only at g1;clear hg f0 f1 f2 f3 kf;go_wp2_with fail;refine (mV xO w.heap.size (w.heap.size+1) w.heap.size (t0+1) xG.cells ed.cells 1 (.int .u64 0) W3 hB3.bare hB3.msg rfl rfl hr3.a0.2 (by omega)).mono ?_;rintro e W4 ⟨rfl,hbare,hoth⟩;have hB4:ComAt w EQ W4:=⟨hB3.bel.trans hoth.bel,(hoth.oth _ (Nat.lt_of_succ_lt hB3.lt) (by omega)).trans hB3.msg,hbare⟩
   have hr4:=hr3.oth hoth hB3.bare (by simp[xG,FM.cells]);go_wp2_with fail;go_roundw
   case rel=>exact .inr (.inl ⟨rfl,hB4,hr4⟩)
   case measure=>simp[intOf]
  ·have f0:wr.cell? ⟨b,4,none⟩=some (.int .i32 109):=hr.cell 4 _ rfl;have f1:wr.cell? ⟨b,5,none⟩=some (kW t5).kp:=hr.cell 5 _ rfl;have f2:wr.cell? ⟨b,6,none⟩=some (kW t5).pt:=hr.cell 6 _ rfl;have f3:wr.cell? ⟨b,7,none⟩=some (kW t5).tk:=hr.cell 7 _ rfl;unfold kW dG at f1 f2 f3;dsimp only at f1 f2 f3;go_upto_region 6 with fail;generalize hg:wr.alloc _=W3;have hb3:Below wr.heap.size wr W3:=by rw[<-hg];exact (Below.refl _ _).alloc (Nat.le_refl _) _
   have kf:W3.heap[wr.heap.size]?=some (kW t5).box:=by rw[<-hg];show (wr.heap.push _)[wr.heap.size]?=some _;exact Array.getElem?_push_size
   have hB3:=hB.later hb3;have hr3:=hr.later hb3;obtain⟨-,g1,-,-,-⟩:=jQ kf;unfold kW dG at g1;dsimp only at g1;clear hg f0 f1 f2 f3 kf;go_wp2_with fail;refine (mV xB w.heap.size (w.heap.size+1) w.heap.size (t5+1) EQ.cells ed.cells 2 (.int .u64 0) W3 hB3.bare hB3.msg rfl rfl hr3.a5.2 (by omega)).mono ?_;rintro e W4 ⟨rfl,hbare,hoth⟩;have hB4:ComAt w ed W4:=⟨hB3.bel.trans hoth.bel,(hoth.oth _ (Nat.lt_of_succ_lt hB3.lt) (by omega)).trans hB3.msg,hbare⟩
   go_wp2_with fail;go_roundw
   case rel=>exact .inr (.inr ⟨rfl,hB4⟩)
   case measure=>simp[intOf]
  have hsame:=GL ed ⟨[],[],[]⟩ wr (Oq wr);go_wp2_with (first | (refine zLr rfl hB.msg ?_;go_simp) | (refine zLr rfl hB.bare ?_;go_simp));refine hsame.mono ?_;rintro e W5 ⟨rfl,hb5⟩;have hB5:=hB.later hb5;clear hsame;have a3:W5.cell? ⟨w.heap.size,3,none⟩=some (.int .i64 0):=aQ hB5.msg 3 _ rfl;have a22:W5.cell? ⟨w.heap.size,22,none⟩=some (.slice none 0 0):=aQ hB5.msg 22 _ rfl;have a23:W5.cell? ⟨w.heap.size,23,none⟩=some (.slice none 0 0):=aQ hB5.msg 23 _ rfl;have a26:W5.cell? ⟨w.heap.size,26,none⟩=some (.slice none 0 0):=aQ hB5.msg 26 _ rfl;go_wp2_with fail;refine (wQ _ W5).mono ?_;rintro e W6 ⟨rfl,hb6⟩;have hB6:=hB5.later hb6;clear a3 a22 a23 a26;have a0:W6.cell? ⟨w.heap.size,0,none⟩=some (.int .i64 5):=aQ hB6.msg 0 _ rfl;go_wp2_with fail;go_ret;exact⟨rfl,hB6.bel⟩
def uo:List UInt8:=val 1 (aA 5)++val 2 (aA 1)++val 10 (aA 2)
theorem wC:uo.length=39:=rfl
structure PkAt (w:World)(g b t0 t5 n:Nat)(l:List UInt8)(W:World):Prop where
 bel:Below w.heap.size w W
 msg:W.heap[w.heap.size]?=some ed.box
 wr:∃v,WrAt g g l 0 v W
 lt:w.heap.size<g
 fld:FldAt b t0 t5 n W
theorem qP {W:World}{B n size k:Nat}{e t:TypeId}{v x:Value}{xs:List Value}(h:W.ownsRow B e size v n xs)(hn:2<=n*size)(hk:W.heap[k]?=some (.cells #[x] t)):v.ownBlock≠some k:=by
 intro e';rcases h.2 with ⟨rfl,_⟩ | ⟨g',cap,cur,rfl,_,hc,h1,h2,h3,h4⟩
 ·cases e'
 have:g'=k:=by simpa [Value.ownBlock] using e'
 subst this;rw[hk] at hc;have e2:cur=#[x]:=by cases hc;rfl
 have h5:=Nat.le_trans (Nat.mul_le_mul_right size h1) (Nat.le_of_eq h3.symm);rw[e2] at h5;simp at h5;omega
theorem yU {W:World}{B n k:Nat}{l:List UInt8}{v x:Value}(h:W.ownsRow B 5 1 v n (byV l))(hl:0<l.length)(hk:W.cell? ⟨k,0,none⟩=some x)(hx:∀z,x≠.int .u8 z):v.ownBlock≠some k:=by
 intro e';obtain⟨ao,cap,rfl,hr⟩:=Rd.of_own h;rcases h.2 with ⟨h1,_⟩ | ⟨g',cap',cur,h1,_⟩
 ·cases h1;cases e'
 cases h1;have:g'=k:=by simpa [Value.ownBlock] using e'
 subst this;have hlen:=hr.1;rw[aP] at hlen;obtain⟨-,-,q⟩:=hr.2.2.2.2 (by have:=hr.2.1;omega) _ rfl;cases l with
 | nil=>simp at hl
 | cons c l=>
  have:=q 0 (.int .u8 (c.toNat:Int)) rfl;rw[show (0:Nat)+0=0 by rfl] at this;rw[hk] at this;exact hx _ (Option.some.inj this)
theorem FldAt.keepW {b t0 t5 n g:Nat}{W W':World}{l:List UInt8}{v v':Value}(h:FldAt b t0 t5 n W)(hw:WrAt g g l 0 v W)(hl:2<=l.length)(hb:Below g W W')(hk:KeepW g v v' W W'):FldAt b t0 t5 n W':=by
 obtain⟨n1,n2,n3,n4,n5⟩:=h.ne (k:=g) hw.at_ (by simp;exact fun e=>(by rw[e] at hw;have:=hw.own.2;rcases this with ⟨h,_⟩ | ⟨_,_,_,h,_⟩<;>cases h)) (by decide) (by decide);have q1:v.ownBlock≠some b:=yU hw.own (by omega) (h.cell 0 (.int .i32 118) rfl) (fun z e=>by cases e);have q2:v.ownBlock≠some t0:=qP hw.own (by omega) h.a0.1;have q3:v.ownBlock≠some (t0+1):=qP hw.own (by omega) h.a0.2;have q4:v.ownBlock≠some t5:=qP hw.own (by omega) h.a5.1;have q5:v.ownBlock≠some (t5+1):=qP hw.own (by omega) h.a5.2;exact h.keep hb.size (hk.1 _ h.lt n1 q1) (hk.1 _ (Array.getElem?_eq_some_iff.1 h.a0.1).1 n2 q2) (hk.1 _ (Array.getElem?_eq_some_iff.1 h.a0.2).1 n3 q3) (hk.1 _ (Array.getElem?_eq_some_iff.1 h.a5.1).1 n4 q4) (hk.1 _ (Array.getElem?_eq_some_iff.1 h.a5.2).1 n5 q5)
theorem PkAt.later {w:World}{g b t0 t5 n:Nat}{l:List UInt8}{W W':World}(h:PkAt w g b t0 t5 n l W)(hb:Below W.heap.size W W'):PkAt w g b t0 t5 n l W':=by
 obtain⟨v,hv⟩:=h.wr;exact⟨h.bel.trans (hb.mono h.bel.size),(hb.block _ (Nat.lt_trans h.lt hv.lt)).trans h.msg,⟨v,hv.later hb⟩,h.lt,h.fld.later hb⟩
theorem PkAt.put {w:World}{g b t0 t5 n:Nat}{l l':List UInt8}{v v':Value}{W W':World}(h:PkAt w g b t0 t5 n l W)(hv:WrAt g g l 0 v W)(hl:2<=l.length)(hw:WrAt g g l' 0 v' W')(hb:Below g W W')(hk:KeepW g v v' W W'):PkAt w g b t0 t5 n l' W':=
 ⟨h.bel.trans (hb.mono (Nat.le_of_lt h.lt)),(hb.block _ h.lt).trans h.msg,⟨v',hw⟩,h.lt,h.fld.keepW hv hl hb hk⟩
theorem Jg (w:World):Calls Tryz.prog 61 #[ed.val] w (xy w uo):=by
 have hb0:Below w.heap.size w (w.alloc ed.box):=(Below.refl _ _).alloc (Nat.le_refl _) _;have k0:(w.alloc ed.box).heap[w.heap.size]?=some ed.box:=by show (w.heap.push _)[w.heap.size]?=some _;exact Array.getElem?_push_size
 have hz0:(w.alloc ed.box).heap.size=w.heap.size+1:=by simp
 unfold ed at hb0 k0 hz0;unfold FM.box FM.cells bM zeroV at hb0 k0 hz0;unfold ed FM.val FM.cells bM zeroV;dsimp only at hb0 k0 hz0 ⊢;go_in;go_upto_region 1 with fail;generalize hg:w.alloc _=W0 at *;have k0f:W0.heap[w.heap.size]?=some ed.box:=k0;have hlt:w.heap.size<W0.heap.size:=by rw[hz0];exact Nat.lt_succ_self _
 have g0:WrAt W0.heap.size W0.heap.size [] 0 (.slice none 0 0) (W0.alloc (.cells #[.slice none 0 0,.int .i64 0] 177)):=⟨by show (W0.heap.push _)[W0.heap.size]?=some _;exact Array.getElem?_push_size,Nat.le_refl _,World.ownsRow_nil _ _ _ _⟩
 have hm0:(W0.alloc (.cells #[.slice none 0 0,.int .i64 0] 177)).heap[w.heap.size]?=some ed.box:=(((Below.refl _ W0).alloc (Nat.le_refl _) _).block _ hlt).trans k0f;have hbW:Below w.heap.size w (W0.alloc (.cells #[.slice none 0 0,.int .i64 0] 177)):=hb0.trans (((Below.refl _ _).alloc (Nat.le_refl _) _).mono (Nat.le_of_lt hlt));have c1:(W0.alloc (.cells #[.slice none 0 0,.int .i64 0] 177)).cell? ⟨w.heap.size,0,none⟩=some (.int .i64 5):=aQ hm0 0 _ rfl;clear hg k0 hz0 hb0 k0f;go_wp2_with fail;refine (oI W0.heap.size W0.heap.size [] (.slice none 0 0) 1 5 _ g0 (by decide) (by decide)).mono ?_;rintro e W1 ⟨rfl,v1,g1,hb1,hk1⟩;rw[List.nil_append] at g1;have hm1:W1.heap[w.heap.size]?=some ed.box:=(hb1.block _ hlt).trans hm0;have hbW1:Below w.heap.size w W1:=hbW.trans (hb1.mono (Nat.le_of_lt hlt));clear g0 hm0 hbW c1 hb1 hk1;generalize W0.heap.size=g at *;have a0:W1.cell? ⟨w.heap.size,0,none⟩=some (.int .i64 5):=aQ hm1 0 _ rfl;have a25:W1.cell? ⟨w.heap.size,25,none⟩=some (.bool false):=aQ hm1 25 _ rfl;go_wp2_with fail;refine (qZ 5 false W1).mono ?_;rintro e W2 ⟨b,t0,t1,t2,t3,t4,t5,t6,t7,m,n,rfl,hm2,hrd,hat,hb2⟩;rw[Dc] at hm2 hrd;have hme:m=2:=hm2;subst hme;have hA2:PkAt w g b t0 t5 n (val 1 (aA 5)) W2:=⟨hbW1.trans (hb2.mono hbW1.size),(hb2.block _ (Nat.lt_trans hlt g1.lt)).trans hm1,⟨v1,g1.later hb2⟩,hlt,⟨hrd,hat.a0,hat.a5⟩⟩
 clear hat hm2 a0 a25 hb2 g1 hm1 hbW1 hrd;go_wp2_with fail;go_loopw [18] (fun p wr=>(p=.int .i64 0/\PkAt w g b t0 t5 n (val 1 (aA 5)) wr)\/(p=.int .i64 1/\PkAt w g b t0 t5 n (val 1 (aA 5)++val 2 (aA 1)) wr)\/(p=.int .i64 2/\PkAt w g b t0 t5 n uo wr)) (fun p _=>2-(intOf p).toNat)
 case atStart=>exact .inl ⟨rfl,hA2⟩
 case round=>
  rcases hrel with ⟨rfl,hB⟩ | ⟨rfl,hB⟩ | ⟨rfl,hB⟩
  ·have f0:wr.cell? ⟨b,0,none⟩=some (.int .i32 118):=hB.fld.cell 0 _ rfl;have f1:wr.cell? ⟨b,1,none⟩=some (lm t0).kp:=hB.fld.cell 1 _ rfl;have f2:wr.cell? ⟨b,2,none⟩=some (lm t0).pt:=hB.fld.cell 2 _ rfl;have f3:wr.cell? ⟨b,3,none⟩=some (lm t0).tk:=hB.fld.cell 3 _ rfl;unfold lm dG at f1 f2 f3;dsimp only at f1 f2 f3;go_upto_region 5 with fail;generalize hg:wr.alloc _=W3;have hb3:Below wr.heap.size wr W3:=by rw[<-hg];exact (Below.refl _ _).alloc (Nat.le_refl _) _
   have kf:W3.heap[wr.heap.size]?=some (lm t0).box:=by rw[<-hg];show (wr.heap.push _)[wr.heap.size]?=some _;exact Array.getElem?_push_size
   have hB3:=hB.later hb3;obtain⟨-,-,g1,-,-⟩:=jQ kf;unfold lm dG at g1;dsimp only at g1;clear hg f0 f1 f2 f3 kf hb3 hB;obtain⟨v3,hv3⟩:=hB3.wr;go_wp2_with fail;refine (qC xO 2 (by decide) g g w.heap.size t0 (t0+1) (val 1 (aA 5)) v3 ed.cells 1 W3 hv3 (by decide) hB3.msg rfl hB3.fld.a0).mono ?_;rintro e W4 ⟨rfl,v4,hw4,hb4,hk4⟩;have hB4:=hB3.put hv3 (by decide) hw4 hb4 hk4;go_wp2_with fail;go_roundw
   case rel=>exact .inr (.inl ⟨rfl,hB4⟩)
   case measure=>simp[intOf]
  ·have f0:wr.cell? ⟨b,4,none⟩=some (.int .i32 109):=hB.fld.cell 4 _ rfl;have f1:wr.cell? ⟨b,5,none⟩=some (kW t5).kp:=hB.fld.cell 5 _ rfl;have f2:wr.cell? ⟨b,6,none⟩=some (kW t5).pt:=hB.fld.cell 6 _ rfl;have f3:wr.cell? ⟨b,7,none⟩=some (kW t5).tk:=hB.fld.cell 7 _ rfl;unfold kW dG at f1 f2 f3;dsimp only at f1 f2 f3;go_upto_region 5 with fail;generalize hg:wr.alloc _=W3;have hb3:Below wr.heap.size wr W3:=by rw[<-hg];exact (Below.refl _ _).alloc (Nat.le_refl _) _
   have kf:W3.heap[wr.heap.size]?=some (kW t5).box:=by rw[<-hg];show (wr.heap.push _)[wr.heap.size]?=some _;exact Array.getElem?_push_size
   have hB3:=hB.later hb3;obtain⟨-,-,g1,-,-⟩:=jQ kf;unfold kW dG at g1;dsimp only at g1;clear hg f0 f1 f2 f3 kf hb3 hB;obtain⟨v3,hv3⟩:=hB3.wr;go_wp2_with fail;refine (qC xB 10 (by decide) g g w.heap.size t5 (t5+1) (val 1 (aA 5)++val 2 (aA 1)) v3 ed.cells 2 W3 hv3 (by decide) hB3.msg rfl hB3.fld.a5).mono ?_;rintro e W4 ⟨rfl,v4,hw4,hb4,hk4⟩;have hB4:PkAt w g b t0 t5 n uo W4:=hB3.put hv3 (by decide) hw4 hb4 hk4;go_wp2_with fail;go_roundw
   case rel=>exact .inr (.inr ⟨rfl,hB4⟩)
   case measure=>simp[intOf]
  obtain⟨v,hv⟩:=hB.wr;go_wp2_with fail;refine (og g g uo v wr hv (by rw[wC];decide)).mono ?_;rintro e W5 ⟨v5,rfl,hown,hb5⟩;obtain⟨ao,cap,rfl,hr5⟩:=Rd.of_own hown;have hfr:=kD hown;have hle:=hB.bel.size;have hB5:=hB.later hb5;go_wp2_with fail;go_ret2;exact⟨ao,cap,rfl,hr5,hB5.bel,fun a ha=>Nat.le_trans hle (hfr a ha)⟩
theorem IB (w:World):Calls Tryz.prog 27 #[ed.val] w (xy w uo):=by
 have hb0:Below w.heap.size w (w.alloc ed.box):=(Below.refl _ _).alloc (Nat.le_refl _) _;have k0:(w.alloc ed.box).heap[w.heap.size]?=some ed.box:=by show (w.heap.push _)[w.heap.size]?=some _;exact Array.getElem?_push_size
 unfold ed at hb0 k0;unfold FM.box FM.cells bM zeroV at hb0 k0;unfold ed FM.val FM.cells bM zeroV;dsimp only at hb0 k0 ⊢;go_in;go_upto_region 1 with fail;generalize hg:w.alloc _=W0 at *;have k0f:W0.heap[w.heap.size]?=some ed.box:=k0;clear hg k0;have hwell:=Kq W0;go_wp2_with (refine zLr rfl k0f ?_;go_simp);refine hwell.mono ?_;rintro e W1 ⟨rfl,hb1⟩;have k1:W1.heap[w.heap.size]?=some ed.box:=(hb1.block _ (Array.getElem?_eq_some_iff.1 k0f).1).trans k0f;have hB1:=hb0.trans (hb1.mono hb0.size);have hpack:=Jg W1;have hl3:(decide ((8388608:Int)<((uo.length:Nat):Int)))=false:=by rw[wC];decide
 clear hwell hb1 hb0 k0f;go_wp2_with (refine zLr rfl k1 ?_;go_simp);refine hpack.mono ?_;rintro e W2 ⟨ao,cap,rfl,hr2,hb2,hf2⟩;have hB2:=hB1.trans (hb2.mono hB1.size);clear hpack hb2 k1;go_wp2_with fail;go_ret2;exact⟨ao,cap,rfl,hr2,hB2,fun a ha=>Nat.le_trans hB1.size (hf2 a ha)⟩
theorem vM (z:Int)(w:World):Calls Tryz.prog 28 #[.int .i64 z] w fun e w'=>e=.returned (.int .i64 z)/\w=w':=by
 go_in;go_wp2;go_ret;exact⟨rfl,rfl⟩
theorem uJ (w:World):Calls Tryz.prog 25 #[] w (aN true w):=by
 have hc:=IB w;unfold ed FM.val FM.cells bM zeroV at hc;dsimp only at hc;have hl:uo.length=39:=wC;go_in;go_wp2_with fail;refine hc.mono ?_;rintro e W1 ⟨ao,cap,rfl,hr,hb,-⟩;rw[hl];clear hc;go_wp2_with fail;refine (vM 0 W1).mono ?_;rintro e W2 ⟨rfl,rfl⟩;go_wp2_with fail;go_ret;exact⟨rfl,hb⟩
end Go.Proofs.YtfmmandlmbcncaaGreatDoor.Msg
