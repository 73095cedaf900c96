/-
  A part of the proof.
-/
import Derived.Test.YtfmmandlmbcncaaGreatDoorKaan
import Derived.Test.YtfmmandlmbcncaaGreatDoorKaam
set_option maxHeartbeats 40000000
namespace Go.Proofs.YtfmmandlmbcncaaGreatDoor.Msg
open Go.RowKit Go.Lib Go.Proofs.YtfmmandlmbcncaaGreatDoor.Mem Go.Proofs.YtfmmandlmbcncaaGreatDoor.Tlv
theorem allIt_le (it:Nat→List UInt8)(B:Nat):∀n,(∀i,i<n→(it i).length≤B)→(allIt it n).length≤n*B
 | 0,_=>by simp[allIt]
 | n+1,h=>by
  have h1:=allIt_le it B n (fun i hi=>h i (by omega))
  have h2:=h n (by omega)
  rw[allIt_succ,List.length_append,Nat.add_mul]
  omega
theorem sz_len (x:ByteArray):x.data.toList.length=x.size:=Utf.len_data x
def atIt (u:ByteArray×ByteArray)(k:Nat):List UInt8:=if k=0 then val 1 u.1.data.toList else val 2 u.2.data.toList
theorem atIt_two (u:ByteArray×ByteArray):allIt (atIt u) 2=val 1 u.1.data.toList++val 2 u.2.data.toList:=by
 simp[allIt,atIt,List.range_succ]
set_option maxRecDepth 100000 in
theorem put11_any (B g lb ib b1 o1 n cap i k:Nat)(st:WS)(u:ByteArray×ByteArray)(W:World)(hw:WrS B g st W)(hl:st.l.length≤100000000)(hk:k<2)
  (c1:W.cell? ⟨lb,0,none⟩=some (.slice (some ⟨b1,o1,none⟩) n cap)) (c2:W.cell? ⟨ib,0,none⟩=some (.int .i64 (i:Int))) (hi:i<n)
  (c3:W.cell? ⟨b1,o1+i*2,none⟩=some (.string u.1)) (c4:W.cell? ⟨b1,o1+i*2+1,none⟩=some (.string u.2)) (h1:u.1.size≤1000) (h2:u.2.size≤1000) :
  Calls Tryz.prog 234 (#[.pointer (some ⟨g,0,none⟩),.int .i64 (k:Int)]++#[.pointer (some ⟨lb,0,none⟩),.pointer (some ⟨ib,0,none⟩)]) W fun e w'=>(∃r,e=.returned r)∧WrS B g (st.put (if k=0 then 1 else 2) (if k=0 then u.1.data.toList else u.2.data.toList)) w'∧Below B W w':=by
 have i0:(0:Int)≤(i:Int):=by omega
 have i1:(i:Int)<(n:Int):=by omega
 rcases (by omega:k=0∨k=1) with rfl|rfl
 ·go_enter Tryz.func234,Tryz.ntmps234
  go_wp2_with fail
  refine (wtext_any B g st 1 u.1 W hw hl (by omega)).mono ?_
  rintro e w' ⟨rfl,q1,q2,q3⟩
  go_wp2
  refine bodyPost_end (results_none rfl _ _ _) rfl ?_
  exact⟨⟨_,rfl⟩,q1,q2⟩
 go_enter Tryz.func234,Tryz.ntmps234
 go_wp2_with fail
 refine (wtext_any B g st 2 u.2 W hw hl (by omega)).mono ?_
 rintro e w' ⟨rfl,q1,q2,q3⟩
 go_wp2
 refine bodyPost_end (results_none rfl _ _ _) rfl ?_
 exact⟨⟨_,rfl⟩,q1,q2⟩
set_option maxRecDepth 100000 in
theorem put1_any (B g lb b1 o1 n cap i:Nat)(st:WS)(u:ByteArray×ByteArray)(W:World)(hw:WrS B g st W)(hb:st.bad=0)(hl:st.l.length≤100000000)
  (c1:W.cell? ⟨lb,0,none⟩=some (.slice (some ⟨b1,o1,none⟩) n cap)) (hi:i<n)
  (c3:W.cell? ⟨b1,o1+i*2,none⟩=some (.string u.1)) (c4:W.cell? ⟨b1,o1+i*2+1,none⟩=some (.string u.2)) (h1:u.1.size≤1000) (h2:u.2.size≤1000) :
  Calls Tryz.prog 233 (#[.pointer (some ⟨g,0,none⟩),.int .i64 (i:Int)]++#[.pointer (some ⟨lb,0,none⟩)]) W fun e w'=>(∃r,e=.returned r)∧WrS B g (st.put 3 (val 1 u.1.data.toList++val 2 u.2.data.toList)) w'∧Below B W w':=by
 have hbx:Below W.heap.size W (W.alloc (.cells #[.int .i64 (i:Int)] 3)):=(Below.refl _ W).alloc (Nat.le_refl _) _
 have hib:(W.alloc (.cells #[.int .i64 (i:Int)] 3)).cell? ⟨W.heap.size,0,none⟩=some (.int .i64 (i:Int)):=by
  rw[World.cell?_alloc_mark]
  rfl
 have kc:∀ {a:Addr} {x:Value},W.cell? a=some x→∀W',Below (W.alloc (.cells #[.int .i64 (i:Int)] 3)).heap.size (W.alloc (.cells #[.int .i64 (i:Int)] 3)) W'→W'.cell? a=some x:=fun {a x} h W' hb'=>by
  have e1:=(hbx.cell (World.block_lt_of_cell? W _ h)).trans h
  exact (hb'.cell (World.block_lt_of_cell? _ _ e1)).trans e1
 have hW:=wlist_ok B g st 3 2 234 #[.pointer (some ⟨lb,0,none⟩),.pointer (some ⟨W.heap.size,0,none⟩)] (atIt u) _ (hw.later hbx) hb (by decide) (enters_of Tryz.func234 (by kernel_rfl) rfl)
  (fun k hk=>by
   unfold atIt
   rcases (by omega:k=0∨k=1) with rfl|rfl
   ·rw[if_pos rfl];exact⟨manyOf_val 1 _ (by decide) (by rw[sz_len];omega),by rw[val_len];omega⟩
   rw[if_neg (by omega)];exact⟨manyOf_val 2 _ (by decide) (by rw[sz_len];omega),by rw[val_len];omega⟩)
  (by rw[atIt_two,List.length_append,val_len,val_len,sz_len,sz_len];omega) hl
  (fun k W' hk hb' hwr=>by
   refine (put11_any _ _ lb W.heap.size b1 o1 n cap i k _ u W' hwr ?_ hk (kc c1 W' hb') ((hb'.cell (World.block_lt_of_cell? _ _ hib)).trans hib) hi (kc c3 W' hb') (kc c4 W' hb') h1 h2).mono ?_
   ·have:=allIt_le (atIt u) 2000 k (fun j hj=>by unfold atIt;split<;>rw[val_len,sz_len]<;>omega)
    dsimp only
    omega
   rintro e w' ⟨q1,q2,q3⟩
   refine⟨q1,?_,q3⟩
   rw[allIt_succ]
   rcases (by omega:k=0∨k=1) with rfl|rfl
   ·simpa [WS.put,atIt] using q2
   simpa [WS.put,atIt] using q2)
 rw[atIt_two] at hW
 go_enter Tryz.func233,Tryz.ntmps233
 go_wp2_with fail
 refine hW.mono ?_
 rintro e w' ⟨rfl,q1,q2,q3⟩
 go_wp2
 refine bodyPost_end (results_none rfl _ _ _) rfl ?_
 exact⟨⟨_,rfl⟩,q1,(hbx.mono hw.le).trans q2⟩
def atE (x:List (ByteArray×ByteArray))(i:Nat):List UInt8:=val 3 (val 1 (x[i]?.getD (⟨#[]⟩,⟨#[]⟩)).1.data.toList++val 2 (x[i]?.getD (⟨#[]⟩,⟨#[]⟩)).2.data.toList)
theorem atE_all (x:List (ByteArray×ByteArray)):∀n,n≤x.length→allIt (atE x) n=attB (x.take n)
 | 0,_=>by simp[allIt,attB]
 | n+1,h=>by
  have e:∀(a:List (ByteArray×ByteArray)) u,attB (a++[u])=attB a++val 3 (val 1 u.1.data.toList++val 2 u.2.data.toList):=fun a u=>by simp[attB]
  rw[allIt_succ,atE_all x n (by omega),List.take_succ_eq_append_getElem (by omega),e]
  simp only[atE,List.getElem?_eq_getElem (show n<x.length by omega),Option.getD_some]
set_option maxRecDepth 100000 in
theorem attPut_any (B g:Nat)(st:WS)(t:UInt8)(ao:Option Addr)(n cap:Nat)(x:List (ByteArray×ByteArray))(W:World)(hw:WrS B g st W)(hb:st.bad=0)(hl:st.l.length≤100000000)(hx:Rd W 2 ao n cap (atV x))(hn:n≤50)
  (hs:∀u∈x,u.1.size≤1000∧u.2.size≤1000) :
  Calls Tryz.prog 223 #[.pointer (some ⟨g,0,none⟩),.int .u8 (t.toNat:Int),.slice ao n cap] W fun e w'=>(∃r,e=.returned r)∧WrS B g (st.put t (attB x)) w'∧Below B W w'∧Stays g W w':=by
 have lx:x.length=n:=by have:=hx.1;rw[atV_len] at this;omega
 have hbx:Below W.heap.size W (W.alloc (.cells #[.slice ao n cap] 32)):=(Below.refl _ W).alloc (Nat.le_refl _) _
 have hib:(W.alloc (.cells #[.slice ao n cap] 32)).cell? ⟨W.heap.size,0,none⟩=some (.slice ao n cap):=by
  rw[World.cell?_alloc_mark]
  rfl
 have hsz:∀i,i<n→∃u,x[i]?=some u∧u.1.size≤1000∧u.2.size≤1000:=fun i hi=>by
  have hi':i<x.length:=by omega
  exact⟨x[i],List.getElem?_eq_getElem hi',hs _ (List.getElem_mem hi')⟩
 have hle:∀i,i<n→(atE x i).length≤3000∧0<(atE x i).length∧manyOf (atE x i)=1:=fun i hi=>by
  obtain⟨u,hu,h1,h2⟩:=hsz i hi
  have e:atE x i=val 3 (val 1 u.1.data.toList++val 2 u.2.data.toList):=by simp[atE,hu]
  rw[e]
  have hl2:(val 1 u.1.data.toList++val 2 u.2.data.toList).length≤2010:=by rw[List.length_append,val_len,val_len,sz_len,sz_len];omega
  exact⟨by rw[val_len];omega,by rw[val_len];omega,manyOf_val 3 _ (by decide) (by omega)⟩
 have hW:=wlist_ok B g st t n 233 #[.pointer (some ⟨W.heap.size,0,none⟩)] (atE x) _ (hw.later hbx) hb (by omega) (enters_of Tryz.func233 (by kernel_rfl) rfl)
  (fun i hi=>⟨(hle i hi).2.2,(hle i hi).2.1⟩) (by have:=allIt_le (atE x) 3000 n (fun i hi=>(hle i hi).1);omega) hl
  (fun i W' hi hb' hwr=>by
   obtain⟨u,hu,h1,h2⟩:=hsz i hi
   have hx':=(hx.later hbx).later hb'
   obtain⟨b1,o1,rfl,hl1,hc1⟩:=hx'.some (by have:=hx.le;omega)
   obtain⟨v1,v2⟩:=atV_at x i u hu
   have e:atE x i=val 3 (val 1 u.1.data.toList++val 2 u.2.data.toList):=by simp[atE,hu]
   refine (put1_any _ _ W.heap.size b1 o1 n cap i _ u W' hwr rfl ?_ ((hb'.cell (World.block_lt_of_cell? _ _ hib)).trans hib) hi (hc1 _ _ v1) (hc1 _ _ v2) h1 h2).mono ?_
   ·have:=allIt_le (atE x) 3000 i (fun j hj=>(hle j (by omega)).1)
    dsimp only
    omega
   rintro e' w' ⟨q1,q2,q3⟩
   refine⟨q1,?_,q3⟩
   rw[allIt_succ,e]
   simpa [WS.put] using q2)
 rw[atE_all x n (by omega),List.take_of_length_le (by omega)] at hW
 go_enter Tryz.func223,Tryz.ntmps223
 go_wp2_with fail
 refine hW.mono ?_
 rintro e w' hT
 have h2:=hT.after hw.le hbx
 obtain⟨rfl,q1,q2,q3⟩:=h2
 go_wp2
 refine bodyPost_end (results_none rfl _ _ _) rfl ?_
 exact⟨⟨_,rfl⟩,q1,q2,q3⟩
theorem attrs_any (B g:Nat)(st:WS)(t:UInt8)(ao:Option Addr)(n cap:Nat)(x:List (ByteArray×ByteArray))(W:World)(hw:WrS B g st W)(hb:st.bad=0)(hl:st.l.length≤100000000)(hx:Rd W 2 ao n cap (atV x))(hn:n≤50)
  (hs:∀u∈x,u.1.size≤1000∧u.2.size≤1000) :
  Calls Tryz.prog 236 #[.pointer (some ⟨g,0,none⟩),.int .u8 (t.toNat:Int),.slice ao n cap] W fun e w'=>(∃r,e=.returned r)∧WrS B g (st.put t (attB x)) w'∧Below B W w'∧Stays g W w':=by
 go_enter Tryz.func236,Tryz.ntmps236
 go_wp2_with fail
 refine (attPut_any B g st t ao n cap x W hw hb hl hx hn hs).mono ?_
 rintro e w' ⟨⟨r,rfl⟩,q1,q2,q3⟩
 go_wp2
 refine bodyPost_end (results_none rfl _ _ _) rfl ?_
 exact⟨⟨_,rfl⟩,q1,q2,q3⟩
def paE (x:List ByteArray)(i:Nat):List UInt8:=val 1 (x[i]?.getD ⟨#[]⟩).data.toList
theorem paE_all (x:List ByteArray):∀n,n≤x.length→allIt (paE x) n=parB (x.take n)
 | 0,_=>by simp[allIt,parB]
 | n+1,h=>by
  have e:∀(a:List ByteArray) u,parB (a++[u])=parB a++val 1 u.data.toList:=fun a u=>by simp[parB]
  rw[allIt_succ,paE_all x n (by omega),List.take_succ_eq_append_getElem (by omega),e]
  simp only[paE,List.getElem?_eq_getElem (show n<x.length by omega),Option.getD_some]
set_option maxRecDepth 100000 in
theorem part_any (B g:Nat)(st:WS)(v:OV)(c:OC)(xb i:Nat)(u:ByteArray)(W:World)(hw:WrS B g st W)(hl:st.l.length≤100000000)(hx:W.heap[xb]?=some v.box)(ho:OpAt W v c)(hu:c.parts[i]?=some u)(h1:u.size≤1000) :
  Calls Tryz.prog 237 (#[.pointer (some ⟨g,0,none⟩),.int .i64 (i:Int)]++#[.pointer (some ⟨xb,0,none⟩)]) W fun e w'=>(∃r,e=.returned r)∧WrS B g (st.put 1 u.data.toList) w'∧Below B W w':=by
 obtain⟨-,-,-,-,c4,-,-,-⟩:=box_all hx
 have hlen:c.parts.length=v.bn:=by have:=ho.b.1;rw[txV_len] at this;omega
 have hi:i<v.bn:=by have:=(List.getElem?_eq_some_iff.1 hu).1;omega
 obtain⟨b1,o1,hao,hl1,hc1⟩:=ho.b.some (by have:=ho.b.le;omega)
 rw[hao] at c4
 have c5:=hc1 i _ (txV_at _ i u hu)
 have i0:(0:Int)≤(i:Int):=by omega
 have i1:(i:Int)<(v.bn:Int):=by omega
 clear hao
 go_enter Tryz.func237,Tryz.ntmps237
 go_wp2_with fail
 refine (wtext_any B g st 1 u W hw hl (by omega)).mono ?_
 rintro e w' ⟨rfl,q1,q2,q3⟩
 go_wp2
 refine bodyPost_end (results_none rfl _ _ _) rfl ?_
 exact⟨⟨_,rfl⟩,q1,q2⟩
theorem parts_any (B g:Nat)(st:WS)(t:UInt8)(v:OV)(c:OC)(xb:Nat)(W:World)(hw:WrS B g st W)(hb:st.bad=0)(hl:st.l.length≤100000000)(hx:W.heap[xb]?=some v.box)(ho:OpAt W v c)(hn:v.bn≤8)(hs:∀u∈c.parts,u.size≤1000) :
  Calls Tryz.prog 176 #[.pointer (some ⟨g,0,none⟩),.int .u8 (t.toNat:Int),.int .i64 (v.bn:Int),.func (.func 237) #[] #[.pointer (some ⟨xb,0,none⟩)]] W (Turns B g (st.put t (parB c.parts)) W):=by
 have hlen:c.parts.length=v.bn:=by have:=ho.b.1;rw[txV_len] at this;omega
 have hsz:∀i,i<v.bn→∃u,c.parts[i]?=some u∧u.size≤1000:=fun i hi=>by
  have hi':i<c.parts.length:=by omega
  exact⟨c.parts[i],List.getElem?_eq_getElem hi',hs _ (List.getElem_mem hi')⟩
 have hle:∀i,i<v.bn→(paE c.parts i).length≤3000∧0<(paE c.parts i).length∧manyOf (paE c.parts i)=1:=fun i hi=>by
  obtain⟨u,hu,h1⟩:=hsz i hi
  have e:paE c.parts i=val 1 u.data.toList:=by simp[paE,hu]
  rw[e]
  exact⟨by rw[val_len,sz_len];omega,by rw[val_len];omega,manyOf_val 1 _ (by decide) (by rw[sz_len];omega)⟩
 have hW:=wlist_ok B g st t v.bn 237 #[.pointer (some ⟨xb,0,none⟩)] (paE c.parts) W hw hb (by omega) (enters_of Tryz.func237 (by kernel_rfl) rfl)
  (fun i hi=>⟨(hle i hi).2.2,(hle i hi).2.1⟩) (by have:=allIt_le (paE c.parts) 3000 v.bn (fun i hi=>(hle i hi).1);omega) hl
  (fun i W' hi hb' hwr=>by
   obtain⟨u,hu,h1⟩:=hsz i hi
   have e:paE c.parts i=val 1 u.data.toList:=by simp[paE,hu]
   refine (part_any _ _ _ v c xb i u W' hwr ?_ ((hb'.block _ (Array.getElem?_eq_some_iff.1 hx).1).trans hx) (ho.later hb') hu h1).mono ?_
   ·have:=allIt_le (paE c.parts) 3000 i (fun j hj=>(hle j (by omega)).1)
    dsimp only
    omega
   rintro e' w' ⟨q1,q2,q3⟩
   refine⟨q1,?_,q3⟩
   rw[allIt_succ,e]
   simpa [WS.put] using q2)
 rw[paE_all _ _ (by omega),List.take_of_length_le (by omega)] at hW
 exact hW
end Go.Proofs.YtfmmandlmbcncaaGreatDoor.Msg
