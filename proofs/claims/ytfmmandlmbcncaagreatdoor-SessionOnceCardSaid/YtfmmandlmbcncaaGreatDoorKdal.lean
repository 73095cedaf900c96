/-
  A part of the proof.
-/
import Derived.ArgAppend
import Derived.Test.YtfmmandlmbcncaaGreatDoorKdah
import Derived.Test.YtfmmandlmbcncaaGreatDoorKdak
set_option maxHeartbeats 40000000
set_option maxRecDepth 100000
namespace Go.Proofs.YtfmmandlmbcncaaGreatDoor.Mem
open Go Go.RowKit
theorem DN {w:World}{C:Nat}{e:TypeId}{size:Nat}{v:Value}{n:Nat}{xs:List Value}(h:w.ownsRow C e size v n xs):∀k,v.ownBlock=some k->C<=k:=by
 intro k hk;rcases h.2 with ⟨rfl,_⟩ | ⟨g,cap,cur,rfl,h4,_⟩
 ·cases hk
 have:g=k:=by simpa [Value.ownBlock] using hk
 omega
section
variable {P:Program} {w:World}
theorem wC (base:Nat)(t ty e:TypeId)(z:Value)(size bytes:Nat)(T:SliceT P t e z size bytes)
  (v:Value) (n:Nat) (xs:List Value) (hown:w.ownsRow base e size v n xs) (ao:Option Addr) (m c:Nat) (news:List Value) (hr:Rd w size ao m c news) (h1:∀u∈news,u.oneCell'=true)
  (h63:n+m<=maxLen) (hbytes:(n+m)*bytes<=140737488355328) (hbase:base<=w.heap.size) :
  ∃ao' cap' w',(Builtin.append_ #[t,t] ty #[v,.slice ao m c]).run P w=.ok (.slice ao' (n+m) cap') w'/\w'.ownsRow base e size (.slice ao' (n+m) cap') (n+m) (xs++news)/\w.grownBy w' v.ownBlock/\Below base w w' /\
   (∀k,(Value.slice ao' (n+m) cap').ownBlock=some k->v.ownBlock=some k\/w.heap.size<=k):=by
 obtain⟨ao',cap',w',hrun,r1,r2,r3,r4⟩:=uX (P:=P) w base t ty e z size bytes T v n xs hown ao m c news hr h1 h63 hbytes hbase;refine⟨ao',cap',w',hrun,r1,r2,r3,?_⟩;have hown':=hown;rcases hown'.2 with ⟨rfl,rfl⟩ | ⟨g,cap,cur,rfl,hb,hg,hn,hc,hs,ht⟩
 ·have hx:xs=[]:=List.eq_nil_of_length_eq_zero (by have:=hown.1;simpa using this);subst hx;obtain⟨ao2,cap2,w2,hrun2,q1,-⟩:=uX (P:=P) w w.heap.size t ty e z size bytes T (.slice none 0 0) 0 [] (World.ownsRow_nil _ _ _ _) ao m c news hr h1 h63 hbytes (Nat.le_refl _);rw[hrun] at hrun2;injection hrun2 with e1 e2;rw[<-e1] at q1;intro k hk;exact .inr (DN q1 k hk)
 by_cases hroom:n+m<=cap
 ·obtain⟨i,hi,hz,hs',hby⟩:=info_parts T.info;have hsame:∃w2,(Builtin.append_ #[t,t] ty #[.slice (some ⟨g,0,none⟩) n cap,.slice ao m c]).run P w=.ok (.slice (some ⟨g,0,none⟩) (n+m) cap) w2:=by
   cases ao with
   | none=>
    have h0:c=0:=hr.2.2.2.1 rfl;have hm:m=0:=by have:=hr.2.1;omega
    subst h0;subst hm;exact⟨w,run_append_owned_none (P:=P) w base t ty e i size T.ht hi _ n xs hown⟩
   | some a=>
    refine⟨_,run_append_room_cells (P:=P) w t ty e i T.ht hi g 0 n cap a m c news (by rw[hs'];exact hr.1) hr.adds h1 hroom (fun j hj=>?_) (fun j hj=>by simp[World.frozen?,hg])⟩;have h2:=hr.1;have h3:(n+m)*size<=cap*size:=Nat.mul_le_mul_right size hroom;rw[Nat.add_mul] at h3;have hlt:0+n*i.size+j<cur.size:=by rw[hs'];omega
    simp[World.cell?,hg];omega
  obtain⟨w2,hrun2⟩:=hsame;rw[hrun] at hrun2;injection hrun2 with e1 e2;rw[e1];intro k hk;exact .inl hk
 obtain⟨g2,cap2,w2,hrun2,q1,-⟩:=JK (P:=P) w t ty e z size bytes T _ n cap xs (Rd.of_own_slice hown) ao m c news hr h1 (by omega) h63 hbytes;rw[hrun] at hrun2;injection hrun2 with e1 e2;rw[<-e1] at q1;intro k hk;exact .inr (DN q1 k hk)
theorem yU {ops:Array Oper}{Q:Exit->Act->World->Prop}{o:Oper}{a:Act}{w:World}{K:Act->World->Prop}{E:Prop}(hgd:o.guard=none)(s x:Operand)(t:TypeId)
  (ho:o.op=.call { callee:=.builtin .append,args:=#[s,x],argTypes:=#[t,t] }) (base:Nat) (e:TypeId) (z:Value) (size bytes:Nat) (T:SliceT P t e z size bytes)
  (v:Value) (n:Nat) (xs:List Value) (hs:a.eval s=v) (hown:w.ownsRow base e size v n xs) (ao:Option Addr) (m c:Nat) (news:List Value) (hx:a.eval x=.slice ao m c) (hr:Rd w size ao m c news) (h1:∀u∈news,u.oneCell'=true)
  (h63:n+m<=maxLen) (hbytes:(n+m)*bytes<=140737488355328) (hbase:base<=w.heap.size)
  (h:∀ao' cap' w',w'.ownsRow base e size (.slice ao' (n+m) cap') (n+m) (xs++news)->w.grownBy w' v.ownBlock->Below base w w'->(∀k,(Value.slice ao' (n+m) cap').ownBlock=some k->v.ownBlock=some k\/w.heap.size<=k)->K (a.put o.dst (.slice ao' (n+m) cap')) w') :
  if Region.wanted o (yielded ops a.tmps)=true then Oper.wp P o a w K Q else E:=by
 have hw:Region.wanted o (yielded ops a.tmps)=true:=by simp[Region.wanted,hgd]
 rw[if_pos hw];obtain⟨ao',cap',w',hrun,r1,r2,r3,r4⟩:=wC (P:=P) base t o.type e z size bytes T v n xs hown ao m c news hr h1 h63 hbytes hbase;unfold Oper.wp execOp;simp only[ho,resolve,invoke,builtin,Sem.run_bind,Sem.run_pure,Result.andThen_ok,List.map_toArray,List.map_cons,List.map_nil,hs,hx,hrun];exact h ao' cap' w' r1 r2 r3 r4
end
section
variable {P:Program} (w:World)
theorem pJ {ops:Array Oper}{rest:List Oper}{o:Oper}{a:Act}{Q:Exit->Act->World->Prop}(hgd:o.guard=none)(s x:Operand)(t:TypeId)
  (ho:o.op=.call { callee:=.builtin .append,args:=#[s,x],argTypes:=#[t,t] }) (base:Nat) (e:TypeId) (z:Value) (size bytes:Nat) (T:SliceT P t e z size bytes)
  (v:Value) (n:Nat) (xs:List Value) (hs:a.eval s=v) (hown:w.ownsRow base e size v n xs) (ao:Option Addr) (m c:Nat) (news:List Value) (hx:a.eval x=.slice ao m c) (hr:Rd w size ao m c news) (h1:∀u∈news,u.oneCell'=true)
  (h63:n+m<=maxLen) (hbytes:(n+m)*bytes<=140737488355328) (hbase:base<=w.heap.size)
  (h:∀ao' cap' w',w'.ownsRow base e size (.slice ao' (n+m) cap') (n+m) (xs++news)->w.grownBy w' v.ownBlock->Below base w w'->(∀k,(Value.slice ao' (n+m) cap').ownBlock=some k->v.ownBlock=some k\/w.heap.size<=k)->wpList P ops Q rest (a.put o.dst (.slice ao' (n+m) cap')) w') :
  wpList P ops Q (o::rest) a w:=by
 refine wpList_plain hgd fun K hK=>?_;obtain⟨ao',cap',w',hrun,r1,r2,r3,r4⟩:=wC (P:=P) (w:=w) base t o.type e z size bytes T v n xs hown ao m c news hr h1 h63 hbytes hbase;unfold Oper.wp execOp;simp only[ho,resolve,invoke,builtin,Sem.run_bind,Sem.run_pure,Result.andThen_ok,List.map_toArray,List.map_cons,List.map_nil,hs,hx,hrun];exact hK _ _ (h ao' cap' w' r1 r2 r3 r4)
theorem CV {ops:Array Oper}{rest:List Oper}{o:Oper}{a:Act}{Q:Exit->Act->World->Prop}(hgd:o.guard=none)(s x:Operand)(t:TypeId)
  (ho:o.op=.call { callee:=.builtin .append,args:=#[s,x],argTypes:=#[t,t] }) (base:Nat) (e:TypeId) (z:Value) (size bytes:Nat) (T:SliceT P t e z size bytes) (hby:bytes<=10000)
  (v:Value) (n:Nat) (xs:List Value) (hs:a.eval s=v) (hown:w.ownsRow base e size v n xs) (m:Nat) (news:List Value) (hx:a.eval x=.slice (some ⟨w.heap.size,0,none⟩) m m) (hl:news.length=m*size) (h1:∀u∈news,u.oneCell'=true)
  (hbase:base<=w.heap.size) (hN:n+m<=10000000000)
  (h:∀ao' cap' w',w'.ownsRow base e size (.slice ao' (n+m) cap') (n+m) (xs++news)->(w.alloc (.cells news.toArray e)).grownBy w' v.ownBlock->Below base w w'->(∀k,(Value.slice ao' (n+m) cap').ownBlock=some k->v.ownBlock=some k\/(w.alloc (.cells news.toArray e)).heap.size<=k)->wpList P ops Q rest (a.put o.dst (.slice ao' (n+m) cap')) w') :
  wpList P ops Q (o::rest) a (w.alloc (.cells news.toArray e)):=by
 have hb:(n+m)*bytes<=140737488355328:=by
  have:=Nat.mul_le_mul hN hby;omega
 refine pJ _ hgd s x t ho base e z size bytes T v n xs hs (hown.alloc _) _ m m news hx (Rd.new w news e (0,0) size m hl (by unfold maxLen;omega)) h1 (by unfold maxLen;omega) hb (by simp;omega) ?_;intro ao' cap' w' h1' h2' h3' h4';exact h ao' cap' w' h1' h2' (((Below.refl base w).alloc hbase _).trans h3') h4'
end
end Go.Proofs.YtfmmandlmbcncaaGreatDoor.Mem
namespace Go.Proofs.YtfmmandlmbcncaaGreatDoor.Tlv
open Go.RowKit Go.Lib Mem
def KeepW (g:Nat)(v v':Value)(W w':World):Prop:=(∀k,k<W.heap.size->k≠g->v.ownBlock≠some k->w'.heap[k]?=W.heap[k]?)/\(∀k,v'.ownBlock=some k->v.ownBlock=some k\/W.heap.size<=k)
theorem KeepW.after {g:Nat}{v v':Value}{W W1 w':World}(h:KeepW g v v' W1 w')(hb:Below W.heap.size W W1):KeepW g v v' W w':=
 ⟨fun k hk hg hv=>(h.1 k (Nat.lt_of_lt_of_le hk hb.size) hg hv).trans (hb.block k hk),fun k hk=>(h.2 k hk).imp id (fun h=>Nat.le_trans hb.size h)⟩
theorem lM (B g:Nat)(l b:List UInt8)(v:Value)(t:UInt8)(ao:Option Addr)(n cap:Nat)(W:World)(hw:WrAt B g l 0 v W)(ht:0<t.toNat)(hl:l.length<=100000000)(hn:n<=4194304)(hr:Rd W 1 ao n cap (byV b))
  (hdis:0<cap->∀a,ao=some a->some a.block≠v.ownBlock) :
  Calls Tryz.prog 147 #[.pointer (some ⟨g,0,none⟩),.int .u8 (t.toNat:Int),.slice ao n cap] W fun e w'=>e=.returned (.pointer (some ⟨g,0,none⟩))/\∃v',WrAt B g (l++val t b) 0 v' w'/\Below B W w'/\KeepW g v v' W w':=by
 have k63:l.length+5+n<=maxLen:=by unfold maxLen;omega
 have kby:(l.length+5+n)*1<=140737488355328:=by omega
 have hat:=hw.at_;have hlt:=hw.lt;have hne:=hw.ne;have hown:=hw.own;have hB:=hw.le;have hBW:B<=W.heap.size:=by omega
 have hbl:b.length=n:=by have:=hr.1;rw[aS] at this;omega
 have Hbl:=hid hbl;clear hw hbl;have c0:W.cell? ⟨g,0,none⟩=some v:=by simp[World.cell?,hat]
 have c1:W.cell? ⟨g,1,none⟩=some (.int .i64 0):=by simp[World.cell?,hat]
 have g0:W.frozen? ⟨g,0,none⟩=false:=by simp[World.frozen?,hat]
 have f1:decide ((4194304:Int)<(n:Int))=false:=decide_eq_false (by omega);have ht2:t.toNat<256:=t.toNat_lt;have f2:((t.toNat:Int)==0)=false:=by simp;omega
 have hpe:∀(w:World),Sem.run Tryz.prog (binOp BinOp.eql 175 (.pointer (some ⟨g,0,none⟩)) (.pointer none)) w=.ok (.bool false) w:=fun _=>by kernel_rfl
 go_in;go_wp2_with (first | (at_builtin;refine CV _ rfl (.tmp 14) (.tmp 27) 34 rfl B 5 (.int .u8 0) 1 1 byT (by decide) v l.length (byV l) rfl hown 5 [.int .u8 (t.toNat:Int),.int .u8 ((n:Int) / 16777216),.int .u8 ((n:Int) / 65536),.int .u8 ((n:Int) / 256 % 256),.int .u8 ((n:Int) % 256)] rfl rfl (fun u hu=>by simp at hu;rcases hu with rfl|rfl|rfl|rfl|rfl<;>rfl) hBW (by omega) ?_;intro ao1 cap1 w1 ho1 hg1 hb1 fr1;have hr1:=eU (hr.later ((Below.refl _ W).alloc (Nat.le_refl _) _)) hg1 hdis;have hat1:=(hg1.block g (by simp;omega) (fun e=>hne e.symm)).trans ((Below.heap_alloc W _ g hlt).trans hat)) | (at_builtin;refine pJ _ rfl (.tmp 28) (.tmp 29) 34 rfl B 5 (.int .u8 0) 1 1 byT _ (l.length+5) _ rfl ho1 ao n cap (byV b) rfl hr1 (eP _) k63 kby (Nat.le_trans hBW hb1.size) ?_;intro ao2 cap2 w2 ho2 hg2 hb2 fr2;have hat2:w2.heap[g]?=some (.cells #[v,.int .i64 0] 177):=(hg2.block g (Array.getElem?_eq_some_iff.1 hat1).1 (fun e=>own_ne hat1 (by decide) ho1 e.symm)).trans hat1;have d0:w2.cell? ⟨g,0,none⟩=some v:=(by simp[World.cell?,hat2]);have e0:w2.frozen? ⟨g,0,none⟩=false:=(by simp[World.frozen?,hat2])));go_ret;refine⟨rfl,_,WrAt.store (l':=l++val t b) hat2 hB ?_,?_,?_⟩
 ·have hbl:=Hbl.out;rw[iy,yP t b n hbl hn,show (l++val t b).length=l.length+5+n from (by rw[List.length_append,ae,hbl];omega)];rw[List.append_assoc] at ho2;exact ho2
 ·exact (hb1.trans hb2).setCell hB _
 have z0:W.heap.size<=(W.alloc (.cells #[.int .u8 (t.toNat:Int),.int .u8 ((n:Int) / 16777216),.int .u8 ((n:Int) / 65536),.int .u8 ((n:Int) / 256 % 256),.int .u8 ((n:Int) % 256)] 5)).heap.size:=((Below.refl _ W).alloc (Nat.le_refl _) _).size;have z1:=hg1.size;refine⟨fun k hk hkg hkv=>?_,fun k hk=>?_⟩
 ·have h1:some k≠v.ownBlock:=fun e=>hkv e.symm;have h2:some k≠(Value.slice ao1 (l.length+5) cap1).ownBlock:=fun e=>(fr1 k e.symm).elim hkv (fun h=>by simp at h;omega);have hk1:k<w1.heap.size:=by simp at z1;omega
  exact (Below.heap_setCell _ _ _ _ hkg).trans ((hg2.block k hk1 h2).trans ((hg1.block k (by simp;omega) h1).trans (Below.heap_alloc W _ k hk)))
 rcases fr2 k hk with h | h
 ·rcases fr1 k h with h | h
  ·exact .inl h
  exact .inr (by simp at h;omega)
 exact .inr (by simp at z1;omega)
theorem qE (B g:Nat)(l:List UInt8)(v:Value)(t:UInt8)(n:Nat)(W:World)(hw:WrAt B g l 0 v W)(ht:0<t.toNat)(hl:l.length<=100000000) :
  Calls Tryz.prog 107 #[.pointer (some ⟨g,0,none⟩),.int .u8 (t.toNat:Int),.int .u64 (n:Int)] W fun e w'=>e=.returned (.pointer (some ⟨g,0,none⟩))/\∃v',WrAt B g (l++val t (az n)) 0 v' w'/\Below B W w'/\KeepW g v v' W w':=by
 have hmk:(Instr.makeSlice 34 (.int .i64 8) (.int .i64 8)).run Tryz.prog W=.ok (.slice (some ⟨W.heap.size,0,none⟩) 8 8) (W.alloc (.cells (madeCells #[.int .u8 0] 8) 5)):=run_make_row' (P:=Tryz.prog) 34 5 (.int .u8 0) 1 rfl (by kernel_rfl) rfl .i64 .i64 8 (by decide) (by decide) W;have hrow0:=World.rowIs_made W (.int .u8 0) 8 5;have hb0:Below W.heap.size W (W.alloc (.cells (madeCells #[.int .u8 0] 8) 5)):=(Below.refl _ W).alloc (Nat.le_refl _) _;go_in;go_wp2_with fail;go_loopw [12] (fun p wr=>∃k:Nat,k<=8/\p=.int .i64 (k:Int)/\wr.rowIs W.heap.size 5 8 (jk n k)/\Below W.heap.size W wr) (fun p _=>(8-intOf p).toNat)
 case atStart=>exact⟨0,by omega,rfl,hrow0.congr (fun i hi=>by simp only[jk];rw[if_neg (by omega)]),hb0⟩
 case round=>
  obtain⟨k,hk,rfl,hrow,hbr⟩:=hrel;by_cases hk8:k=8
  ·subst hk8;have hown:wr.ownsRow W.heap.size 5 1 (.slice (some ⟨W.heap.size,0,none⟩) 8 8) 8 (byV (az n)):=hrow.own (by decide) rfl (by intro j hj;simp[jk,az,byV,List.getElem?_map,List.getElem?_range hj,UInt8.toNat_ofNat']);go_wp2_with fail;refine (lM B g l (az n) v t _ 8 8 wr (hw.later hbr) ht hl (by omega) (Rd.of_own_slice hown) (fun _ a ha=>by cases ha;exact fun e=>kW hw.own e.symm)).mono ?_;rintro e w' ⟨rfl,v',h1,h2,h3⟩;go_wp2;go_ret;exact⟨rfl,v',h1,(hbr.mono (by have:=hw.le;have:=hw.lt;omega)).trans h2,h3.after hbr⟩
  have hk7:k<8:=by omega
  have hcell:=hrow.cell (i:=7-k) (by omega);have hfr:=hrow.frozen (7-k);go_wp2_with fail
  case roundEnd=>
   have hs:=hrow.set (7-k) (.int .u8 ((n:Int) / 2 ^ (8*k) % 256));refine⟨⟨k+1,by omega,by go_num,hs.congr ?_,hbr.setCell (Nat.le_refl _) _⟩,by simp[intOf];omega⟩;intro j hj;by_cases hjk:j=7-k
   ·subst hjk;have e1:7-(7-k)=k:=by omega
    have e2:256 ^ k=2 ^ (8*k):=by rw[Nat.pow_mul]
    rw[if_pos rfl];unfold jk;rw[if_pos (by omega),e1,e2];simp
   simp only[jk,if_neg hjk];by_cases h8:8<=j+k
   ·rw[if_pos h8,if_pos (by omega)]
   rw[if_neg h8,if_neg (by omega)]
end Go.Proofs.YtfmmandlmbcncaaGreatDoor.Tlv
namespace Go.Proofs.YtfmmandlmbcncaaGreatDoor.Msg
open Go.RowKit Go.Lib Mem Tlv
def mO (cs:Array Value):Obj:=.cells cs 59
theorem oL {W:World}{B:Nat}{cs:Array Value}(h:W.heap[B]?=some (mO cs))(i:Nat)(v:Value)(hv:cs[i]?=some v):W.cell? ⟨B,i,none⟩=some v:=by
 unfold mO at h;simp[World.cell?,h,hv]
theorem vN {W:World}{B:Nat}{cs:Array Value}(h:W.heap[B]?=some (mO cs))(i:Nat):W.frozen? ⟨B,i,none⟩=false:=by
 unfold mO at h;simp[World.frozen?,h]
structure FnAt (ob:Nat)(ff:Value)(fb i:Nat)(x:Value)(W:World):Prop where
 fn:W.heap[ob]?=some (.cells #[ff] 251)
 cell:W.cell? ⟨fb,i,none⟩=some x
theorem FnAt.get {ob:Nat}{ff:Value}{fb i:Nat}{x:Value}{W:World}(h:FnAt ob ff fb i x W):W.cell? ⟨ob,0,none⟩=some ff:=by
 have:=h.fn;simp[World.cell?,this]
structure TgAt (tb:Nat)(t:Int)(ob:Nat)(ff:Value)(fb i:Nat)(x:Value)(W:World):Prop where
 fn:W.heap[ob]?=some (.cells #[ff] 251)
 cell:W.cell? ⟨fb,i,none⟩=some x
 tag:W.heap[tb]?=some (.cells #[.int .u8 t] 5)
theorem TgAt.get {tb:Nat}{t:Int}{ob:Nat}{ff:Value}{fb i:Nat}{x:Value}{W:World}(h:TgAt tb t ob ff fb i x W):W.cell? ⟨ob,0,none⟩=some ff/\W.cell? ⟨tb,0,none⟩=some (.int .u8 t):=by
 have h1:=h.fn;have h2:=h.tag;simp[World.cell?,h1,h2]
structure AllP (ff:FuncId)(ix:Nat):Prop where
 calls:∀(b:Nat) (w:World),Calls Tryz.prog ff #[.pointer (some ⟨b,0,none⟩)] w fun e w'=>e=.returned (.pointer (some ⟨b,ix,none⟩))/\w=w'
 ent:∀args w,(callFunc ff args).run Tryz.prog w=.ok (.enter ff args) w
theorem EF:AllP 164 1:=by
 refine⟨fun b w=>?_,enters_of Tryz.func164 (by kernel_rfl) rfl⟩;go_in;go_wp2;go_ret;exact⟨rfl,rfl⟩
theorem Ff:AllP 165 2:=by
 refine⟨fun b w=>?_,enters_of Tryz.func165 (by kernel_rfl) rfl⟩;go_in;go_wp2;go_ret;exact⟨rfl,rfl⟩
theorem ET:AllP 166 4:=by
 refine⟨fun b w=>?_,enters_of Tryz.func166 (by kernel_rfl) rfl⟩;go_in;go_wp2;go_ret;exact⟨rfl,rfl⟩
theorem FZ:AllP 167 5:=by
 refine⟨fun b w=>?_,enters_of Tryz.func167 (by kernel_rfl) rfl⟩;go_in;go_wp2;go_ret;exact⟨rfl,rfl⟩
theorem EN:AllP 168 19:=by
 refine⟨fun b w=>?_,enters_of Tryz.func168 (by kernel_rfl) rfl⟩;go_in;go_wp2;go_ret;exact⟨rfl,rfl⟩
theorem Fz:AllP 169 20:=by
 refine⟨fun b w=>?_,enters_of Tryz.func169 (by kernel_rfl) rfl⟩;go_in;go_wp2;go_ret;exact⟨rfl,rfl⟩
theorem EL:AllP 170 21:=by
 refine⟨fun b w=>?_,enters_of Tryz.func170 (by kernel_rfl) rfl⟩;go_in;go_wp2;go_ret;exact⟨rfl,rfl⟩
theorem EC:AllP 171 24:=by
 refine⟨fun b w=>?_,enters_of Tryz.func171 (by kernel_rfl) rfl⟩;go_in;go_wp2;go_ret;exact⟨rfl,rfl⟩
section
variable {ff:FuncId} {ix:Nat} (H:AllP ff ix)
include H
theorem oK (B tb fb ob:Nat)(cs0 cs:Array Value)(n:Int)(y0:Value)(w:World)(h0:w.heap[tb]?=some (mO cs0))(h1:w.heap[fb]?=some (mO cs))(hx:cs[ix]?=some (.int .u64 n))(hy:cs0[ix]?=some y0)
  (hf:w.heap[ob]?=some (.cells #[.func (.func ff) #[] #[]] 251)) (hB:B<=tb) :
  Calls Tryz.prog 218 #[.pointer (some ⟨tb,0,none⟩),.pointer (some ⟨fb,0,none⟩),.pointer (some ⟨ob,0,none⟩)] w fun e w'=>e=.returned (.tuple #[])/\w'.heap[tb]?=some (mO (cs0.setIfInBounds ix (.int .u64 n)))/\Oth B tb w w':=by
 have hmo:Tryz.prog.follows .mixedOrders=true:=by kernel_rfl
 have hen:=H.ent;have hd:Below w.heap.size w w.drew:=(Below.refl _ _).drew;have s0:FnAt ob (.func (.func ff) #[] #[]) fb ix (.int .u64 n) w.drew:=⟨hf,oL h1 ix _ hx⟩
 have c9:w.drew.cell? ⟨tb,ix,none⟩=some y0:=oL (W:=w.drew) h0 ix y0 hy;have z9:w.drew.frozen? ⟨tb,ix,none⟩=false:=vN (W:=w.drew) h0 ix;have hO:Oth B tb w (w.drew.setCell ⟨tb,ix,none⟩ (.int .u64 n)):=((Oth.refl B tb w).later (Nat.le_trans hB (Nat.le_of_lt (Array.getElem?_eq_some_iff.1 h0).1)) hd).set hB _ _;have hS:(w.drew.setCell ⟨tb,ix,none⟩ (.int .u64 n)).heap[tb]?=some (mO (cs0.setIfInBounds ix (.int .u64 n))):=at_set (W:=w.drew) h0;clear hx hy h0 h1 hf;go_in;go_upto_region 0 with fail;refine ed (k:=9) (S:=FnAt ob (.func (.func ff) #[] #[]) fb ix (.int .u64 n)) hmo ?_;change dh _ _ _ _ _ _ _ _ _ (World.drew w);generalize World.drew w=W0 at *;refine zTa 0 (.func (.func ff) #[] #[]) rfl (by rintro w h;have c0:=h.get;have d0:=h.cell;go_simp) s0 ?_;go_simp;refine zTp 1 (.pointer (some ⟨tb,0,none⟩)) rfl s0 ?_;go_simp;refine zTa 3 (.func (.func ff) #[] #[]) rfl (by rintro w h;have c0:=h.get;have d0:=h.cell;go_simp) s0 ?_;go_simp;refine zTp 4 (.pointer (some ⟨fb,0,none⟩)) rfl s0 ?_;go_simp;refine zT1 2 rfl (fun K hK=>?_);go_simp;refine (H.calls tb W0).mono ?_;rintro e _ ⟨rfl,rfl⟩;go_simp;refine hK _ _ ⟨.inr s0,?_⟩;clear hK K;refine zT1 5 rfl (fun K hK=>?_);go_simp;refine (H.calls fb W0).mono ?_;rintro e _ ⟨rfl,rfl⟩;go_simp;refine hK _ _ ⟨.inr s0,?_⟩;clear hK K;refine zTa 6 (.pointer (some ⟨fb,ix,none⟩)) rfl (by rintro w h;have c0:=h.get;have d0:=h.cell;go_simp) s0 ?_;go_simp;refine zTa 7 (.int .u64 n) rfl (by rintro w h;have c0:=h.get;have d0:=h.cell;go_simp) s0 ?_;go_simp;refine zTa 8 (.pointer (some ⟨tb,ix,none⟩)) rfl (by rintro w h;have c0:=h.get;have d0:=h.cell;go_simp) s0 ?_;go_simp;refine dH (by kernel_rfl) (by kernel_rfl) ?_;refine zA1 9 rfl (fun K hK=>?_);go_simp;go_simp;refine hK _ _ ?_;clear hK K;refine wpAny_done (by kernel_rfl) ?_ _;refine bodyPost_end (results_none rfl _ _ _) rfl ?_;exact⟨rfl,hS,hO⟩
theorem tN (t:UInt8)(ht:0<t.toNat)(B g fb tb ob:Nat)(l:List UInt8)(v:Value)(cs:Array Value)(n:Nat)(w:World)(hw:WrAt B g l 0 v w)(hl:l.length<=100000000)(h1:w.heap[fb]?=some (mO cs))(hx:cs[ix]?=some (.int .u64 (n:Int)))
  (hf:plainAt w (t.toNat:Int) (.func (.func ff) #[] #[]) tb ob) :
  Calls Tryz.prog 219 #[.pointer (some ⟨g,0,none⟩),.pointer (some ⟨fb,0,none⟩),.pointer (some ⟨tb,0,none⟩),.pointer (some ⟨ob,0,none⟩)] w fun e w'=>e=.returned (.tuple #[])/\∃v',WrAt B g (l++val t (az n)) 0 v' w'/\Below B w w'/\KeepW g v v' w w':=by
 have hmo:Tryz.prog.follows .mixedOrders=true:=by kernel_rfl
 have hen:=H.ent;have hd:Below w.heap.size w w.drew:=(Below.refl _ _).drew;have s0:TgAt tb (t.toNat:Int) ob (.func (.func ff) #[] #[]) fb ix (.int .u64 (n:Int)) w.drew:=⟨hf.2,oL h1 ix _ hx,hf.1⟩
 have hw0:=hw.later hd;have hlt:=hw.lt;have hle:=hw.le;clear hx h1 hf;go_in;go_upto_region 0 with fail;refine ed (k:=7) (S:=TgAt tb (t.toNat:Int) ob (.func (.func ff) #[] #[]) fb ix (.int .u64 (n:Int))) hmo ?_;change dh _ _ _ _ _ _ _ _ _ (World.drew w);generalize World.drew w=W0 at *;refine zTp 0 (.pointer (some ⟨g,0,none⟩)) rfl s0 ?_;go_simp;refine zTa 1 (.int .u8 (t.toNat:Int)) rfl (by rintro w h;obtain⟨c0,c1⟩:=h.get;have d0:=h.cell;go_simp) s0 ?_;go_simp;refine zTa 2 (.func (.func ff) #[] #[]) rfl (by rintro w h;obtain⟨c0,c1⟩:=h.get;have d0:=h.cell;go_simp) s0 ?_;go_simp;refine zTp 3 (.pointer (some ⟨fb,0,none⟩)) rfl s0 ?_;go_simp;refine zT1 4 rfl (fun K hK=>?_);go_simp;refine (H.calls fb W0).mono ?_;rintro e _ ⟨rfl,rfl⟩;go_simp;refine hK _ _ ⟨.inr s0,?_⟩;clear hK K;refine zTp 5 (.pointer (some ⟨fb,ix,none⟩)) rfl s0 ?_;go_simp;refine zTa 6 (.int .u64 (n:Int)) rfl (by rintro w h;obtain⟨c0,c1⟩:=h.get;have d0:=h.cell;go_simp) s0 ?_;go_simp;refine dH (by kernel_rfl) (by kernel_rfl) ?_;refine zA1 7 rfl (fun K hK=>?_);go_simp;refine (qE B g l v t n W0 hw0 ht hl).mono ?_;rintro e W1 ⟨rfl,v1,q1,q2,q3⟩;go_simp;refine hK _ _ ?_;clear hK K;refine wpAny_done (by kernel_rfl) ?_ _;refine bodyPost_end (results_none rfl _ _ _) rfl ?_;exact⟨rfl,v1,q1,(hd.mono (by omega)).trans q2,q3.after hd⟩
end
theorem MS {W:World}{B n size k:Nat}{e t:TypeId}{v x:Value}{xs:List Value}(h:W.ownsRow B e size v n xs)(hn:2<=n*size)(hk:W.heap[k]?=some (.cells #[x] t)):v.ownBlock≠some k:=by
 intro e';rcases h.2 with ⟨rfl,_⟩ | ⟨g',cap,cur,rfl,_,hc,h1,h2,h3,h4⟩
 ·cases e'
 have:g'=k:=by simpa [Value.ownBlock] using e'
 subst this;rw[hk] at hc;have e2:cur=#[x]:=by cases hc;rfl
 have h5:=Nat.le_trans (Nat.mul_le_mul_right size h1) (Nat.le_of_eq h3.symm);rw[e2] at h5;simp at h5;omega
theorem IM {W:World}{B n k:Nat}{l:List UInt8}{v x:Value}(h:W.ownsRow B 5 1 v n (byV l))(hl:0<l.length)(hk:W.cell? ⟨k,0,none⟩=some x)(hx:∀z,x≠.int .u8 z):v.ownBlock≠some k:=by
 intro e';obtain⟨ao,cap,rfl,hr⟩:=Rd.of_own h;rcases h.2 with ⟨h1,_⟩ | ⟨g',cap',cur,h1,_⟩
 ·cases h1;cases e'
 cases h1;have:g'=k:=by simpa [Value.ownBlock] using e'
 subst this;have hlen:=hr.1;rw[aS] at hlen;obtain⟨-,-,q⟩:=hr.2.2.2.2 (by have:=hr.2.1;omega) _ rfl;cases l with
 | nil=>simp at hl
 | cons c l=>
  have:=q 0 (.int .u8 (c.toNat:Int)) rfl;rw[show (0:Nat)+0=0 by rfl] at this;rw[hk] at this;exact hx _ (Option.some.inj this)
end Go.Proofs.YtfmmandlmbcncaaGreatDoor.Msg
