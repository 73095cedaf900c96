/-
  A part of the proof.
-/
import Derived.Test.YtfmmandlmbcncaaGreatDoorKbam
import Derived.Test.YtfmmandlmbcncaaGreatDoorKban
import Derived.Test.YtfmmandlmbcncaaGreatDoorKbao
import Derived.Test.YtfmmandlmbcncaaGreatDoorKbab
set_option maxHeartbeats 40000000
namespace Go.Proofs.YtfmmandlmbcncaaGreatDoor.Msg
open Go.RowKit Go.Lib Go.Proofs.YtfmmandlmbcncaaGreatDoor.Mem Go.Proofs.YtfmmandlmbcncaaGreatDoor.Tlv
def msgO (cs:Array Value):Obj:=.cells cs 59
theorem msgO_cell {W:World}{B:Nat}{cs:Array Value}(h:W.heap[B]?=some (msgO cs))(i:Nat)(v:Value)(hv:cs[i]?=some v):W.cell? ⟨B,i,none⟩=some v:=by
 unfold msgO at h
 simp[World.cell?,h,hv]
theorem msgO_frozen {W:World}{B:Nat}{cs:Array Value}(h:W.heap[B]?=some (msgO cs))(i:Nat):W.frozen? ⟨B,i,none⟩=false:=by
 unfold msgO at h
 simp[World.frozen?,h]
structure FnAt (ob:Nat)(ff:Value)(fb i:Nat)(x:Value)(W:World):Prop where
 fn:W.heap[ob]?=some (.cells #[ff] 251)
 cell:W.cell? ⟨fb,i,none⟩=some x
theorem FnAt.get {ob:Nat}{ff:Value}{fb i:Nat}{x:Value}{W:World}(h:FnAt ob ff fb i x W):W.cell? ⟨ob,0,none⟩=some ff:=by
 have:=h.fn
 simp[World.cell?,this]
structure TgAt (tb:Nat)(t:Int)(ob:Nat)(ff:Value)(fb i:Nat)(x:Value)(W:World):Prop where
 fn:W.heap[ob]?=some (.cells #[ff] 251)
 cell:W.cell? ⟨fb,i,none⟩=some x
 tag:W.heap[tb]?=some (.cells #[.int .u8 t] 5)
theorem TgAt.get {tb:Nat}{t:Int}{ob:Nat}{ff:Value}{fb i:Nat}{x:Value}{W:World}(h:TgAt tb t ob ff fb i x W):W.cell? ⟨ob,0,none⟩=some ff∧W.cell? ⟨tb,0,none⟩=some (.int .u8 t):=by
 have h1:=h.fn
 have h2:=h.tag
 simp[World.cell?,h1,h2]
theorem allp1 (b:Nat)(w:World):Calls Tryz.prog 164 #[.pointer (some ⟨b,0,none⟩)] w fun e w'=>e=.returned (.pointer (some ⟨b,1,none⟩))∧w=w':=by
 go_enter Tryz.func164,Tryz.ntmps164
 go_wp2
 go_ret
 exact⟨rfl,rfl⟩
set_option maxRecDepth 100000 in
theorem keepP1 (B tb fb ob:Nat)(cs0 cs:Array Value)(n:Int)(y0:Value)(w:World)(h0:w.heap[tb]?=some (msgO cs0))(h1:w.heap[fb]?=some (msgO cs))(hx:cs[1]?=some (.int .u64 n))(hy:cs0[1]?=some y0)
  (hf:w.heap[ob]?=some (.cells #[.func (.func 164) #[] #[]] 251)) (hB:B≤tb) :
  Calls Tryz.prog 218 #[.pointer (some ⟨tb,0,none⟩),.pointer (some ⟨fb,0,none⟩),.pointer (some ⟨ob,0,none⟩)] w fun e w'=>e=.returned (.tuple #[])∧w'.heap[tb]?=some (msgO (cs0.setIfInBounds 1 (.int .u64 n)))∧Oth B tb w w':=by
 have hmo:Tryz.prog.follows .mixedOrders=true:=by kernel_rfl
 have hd:Below w.heap.size w w.drew:=(Below.refl _ _).drew
 have s0:FnAt ob (.func (.func 164) #[] #[]) fb 1 (.int .u64 n) w.drew:=⟨hf,msgO_cell h1 1 _ hx⟩
 have c9:w.drew.cell? ⟨tb,1,none⟩=some y0:=msgO_cell (W:=w.drew) h0 1 y0 hy
 have z9:w.drew.frozen? ⟨tb,1,none⟩=false:=msgO_frozen (W:=w.drew) h0 1
 have hO:Oth B tb w (w.drew.setCell ⟨tb,1,none⟩ (.int .u64 n)):=((Oth.refl B tb w).later (Nat.le_trans hB (Nat.le_of_lt (Array.getElem?_eq_some_iff.1 h0).1)) hd).set hB _ _
 have hS:(w.drew.setCell ⟨tb,1,none⟩ (.int .u64 n)).heap[tb]?=some (msgO (cs0.setIfInBounds 1 (.int .u64 n))):=at_set (W:=w.drew) h0
 go_enter Tryz.func218,Tryz.ntmps218
 go_upto_region 0 with fail
 refine wp_region_T (k:=9) (S:=FnAt ob (.func (.func 164) #[] #[]) fb 1 (.int .u64 n)) hmo ?_
 change wpAnyT _ _ _ _ _ _ _ _ _ (World.drew w)
 generalize World.drew w=W0 at *
 refine zTa 0 (.func (.func 164) #[] #[]) rfl (by rintro w h;have c0:=h.get;have d0:=h.cell;go_simp) s0 ?_
 go_simp
 refine zTp 1 (.pointer (some ⟨tb,0,none⟩)) rfl s0 ?_
 go_simp
 refine zTa 3 (.func (.func 164) #[] #[]) rfl (by rintro w h;have c0:=h.get;have d0:=h.cell;go_simp) s0 ?_
 go_simp
 refine zTp 4 (.pointer (some ⟨fb,0,none⟩)) rfl s0 ?_
 go_simp
 refine zT1 2 rfl (fun K hK=>?_)
 go_simp
 refine (allp1 tb W0).mono ?_
 rintro e _ ⟨rfl,rfl⟩
 go_simp
 refine hK _ _ ⟨.inr s0,?_⟩
 clear hK K
 refine zT1 5 rfl (fun K hK=>?_)
 go_simp
 refine (allp1 fb W0).mono ?_
 rintro e _ ⟨rfl,rfl⟩
 go_simp
 refine hK _ _ ⟨.inr s0,?_⟩
 clear hK K
 refine zTp 6 (.pointer (some ⟨fb,1,none⟩)) rfl s0 ?_
 go_simp
 refine zTa 7 (.int .u64 n) rfl (by rintro w h;have c0:=h.get;have d0:=h.cell;go_simp) s0 ?_
 go_simp
 refine zTp 8 (.pointer (some ⟨tb,1,none⟩)) rfl s0 ?_
 go_simp
 refine wpAnyT_last (by kernel_rfl) (by kernel_rfl) ?_
 refine zA1 9 rfl (fun K hK=>?_)
 go_simp
 go_simp
 refine hK _ _ ?_
 clear hK K
 refine wpAny_done (by kernel_rfl) ?_ _
 refine bodyPost_end (results_none rfl _ _ _) rfl ?_
 exact⟨rfl,hS,hO⟩
set_option maxRecDepth 100000 in
theorem putP1 (B g fb tb ob:Nat)(l:List UInt8)(v:Value)(cs:Array Value)(n:Nat)(w:World)(hw:WrAt B g l 0 v w)(hl:l.length≤100000000)(h1:w.heap[fb]?=some (msgO cs))(hx:cs[1]?=some (.int .u64 (n:Int)))
  (hf:plainAt w 2 (.func (.func 164) #[] #[]) tb ob) :
  Calls Tryz.prog 219 #[.pointer (some ⟨g,0,none⟩),.pointer (some ⟨fb,0,none⟩),.pointer (some ⟨tb,0,none⟩),.pointer (some ⟨ob,0,none⟩)] w fun e w'=>e=.returned (.tuple #[])∧∃v',WrAt B g (l++val 2 (num8 n)) 0 v' w'∧Below B w w'∧KeepW g v v' w w':=by
 have hmo:Tryz.prog.follows .mixedOrders=true:=by kernel_rfl
 have hd:Below w.heap.size w w.drew:=(Below.refl _ _).drew
 have s0:TgAt tb 2 ob (.func (.func 164) #[] #[]) fb 1 (.int .u64 (n:Int)) w.drew:=⟨hf.2,msgO_cell h1 1 _ hx,hf.1⟩
 have hw0:=hw.later hd
 have hlt:=hw.lt
 have hle:=hw.le
 go_enter Tryz.func219,Tryz.ntmps219
 go_upto_region 0 with fail
 refine wp_region_T (k:=7) (S:=TgAt tb 2 ob (.func (.func 164) #[] #[]) fb 1 (.int .u64 (n:Int))) hmo ?_
 change wpAnyT _ _ _ _ _ _ _ _ _ (World.drew w)
 generalize World.drew w=W0 at *
 refine zTp 0 (.pointer (some ⟨g,0,none⟩)) rfl s0 ?_
 go_simp
 refine zTa 1 (.int .u8 2) rfl (by rintro w h;obtain⟨c0,c1⟩:=h.get;have d0:=h.cell;go_simp) s0 ?_
 go_simp
 refine zTa 2 (.func (.func 164) #[] #[]) rfl (by rintro w h;obtain⟨c0,c1⟩:=h.get;have d0:=h.cell;go_simp) s0 ?_
 go_simp
 refine zTp 3 (.pointer (some ⟨fb,0,none⟩)) rfl s0 ?_
 go_simp
 refine zT1 4 rfl (fun K hK=>?_)
 go_simp
 refine (allp1 fb W0).mono ?_
 rintro e _ ⟨rfl,rfl⟩
 go_simp
 refine hK _ _ ⟨.inr s0,?_⟩
 clear hK K
 refine zTp 5 (.pointer (some ⟨fb,1,none⟩)) rfl s0 ?_
 go_simp
 refine zTa 6 (.int .u64 (n:Int)) rfl (by rintro w h;obtain⟨c0,c1⟩:=h.get;have d0:=h.cell;go_simp) s0 ?_
 go_simp
 refine wpAnyT_last (by kernel_rfl) (by kernel_rfl) ?_
 refine zA1 7 rfl (fun K hK=>?_)
 go_simp
 refine (wnumber2 B g l v 2 n W0 hw0 (by decide) hl).mono ?_
 rintro e W1 ⟨rfl,v1,q1,q2,q3⟩
 go_simp
 refine hK _ _ ?_
 clear hK K
 refine wpAny_done (by kernel_rfl) ?_ _
 refine bodyPost_end (results_none rfl _ _ _) rfl ?_
 exact⟨rfl,v1,q1,(hd.mono (by omega)).trans q2,q3.after hd⟩
theorem allp2 (b:Nat)(w:World):Calls Tryz.prog 165 #[.pointer (some ⟨b,0,none⟩)] w fun e w'=>e=.returned (.pointer (some ⟨b,2,none⟩))∧w=w':=by
 go_enter Tryz.func165,Tryz.ntmps165
 go_wp2
 go_ret
 exact⟨rfl,rfl⟩
set_option maxRecDepth 100000 in
theorem keepP2 (B tb fb ob:Nat)(cs0 cs:Array Value)(n:Int)(y0:Value)(w:World)(h0:w.heap[tb]?=some (msgO cs0))(h1:w.heap[fb]?=some (msgO cs))(hx:cs[2]?=some (.int .u64 n))(hy:cs0[2]?=some y0)
  (hf:w.heap[ob]?=some (.cells #[.func (.func 165) #[] #[]] 251)) (hB:B≤tb) :
  Calls Tryz.prog 218 #[.pointer (some ⟨tb,0,none⟩),.pointer (some ⟨fb,0,none⟩),.pointer (some ⟨ob,0,none⟩)] w fun e w'=>e=.returned (.tuple #[])∧w'.heap[tb]?=some (msgO (cs0.setIfInBounds 2 (.int .u64 n)))∧Oth B tb w w':=by
 have hmo:Tryz.prog.follows .mixedOrders=true:=by kernel_rfl
 have hd:Below w.heap.size w w.drew:=(Below.refl _ _).drew
 have s0:FnAt ob (.func (.func 165) #[] #[]) fb 2 (.int .u64 n) w.drew:=⟨hf,msgO_cell h1 2 _ hx⟩
 have c9:w.drew.cell? ⟨tb,2,none⟩=some y0:=msgO_cell (W:=w.drew) h0 2 y0 hy
 have z9:w.drew.frozen? ⟨tb,2,none⟩=false:=msgO_frozen (W:=w.drew) h0 2
 have hO:Oth B tb w (w.drew.setCell ⟨tb,2,none⟩ (.int .u64 n)):=((Oth.refl B tb w).later (Nat.le_trans hB (Nat.le_of_lt (Array.getElem?_eq_some_iff.1 h0).1)) hd).set hB _ _
 have hS:(w.drew.setCell ⟨tb,2,none⟩ (.int .u64 n)).heap[tb]?=some (msgO (cs0.setIfInBounds 2 (.int .u64 n))):=at_set (W:=w.drew) h0
 go_enter Tryz.func218,Tryz.ntmps218
 go_upto_region 0 with fail
 refine wp_region_T (k:=9) (S:=FnAt ob (.func (.func 165) #[] #[]) fb 2 (.int .u64 n)) hmo ?_
 change wpAnyT _ _ _ _ _ _ _ _ _ (World.drew w)
 generalize World.drew w=W0 at *
 refine zTa 0 (.func (.func 165) #[] #[]) rfl (by rintro w h;have c0:=h.get;have d0:=h.cell;go_simp) s0 ?_
 go_simp
 refine zTp 1 (.pointer (some ⟨tb,0,none⟩)) rfl s0 ?_
 go_simp
 refine zTa 3 (.func (.func 165) #[] #[]) rfl (by rintro w h;have c0:=h.get;have d0:=h.cell;go_simp) s0 ?_
 go_simp
 refine zTp 4 (.pointer (some ⟨fb,0,none⟩)) rfl s0 ?_
 go_simp
 refine zT1 2 rfl (fun K hK=>?_)
 go_simp
 refine (allp2 tb W0).mono ?_
 rintro e _ ⟨rfl,rfl⟩
 go_simp
 refine hK _ _ ⟨.inr s0,?_⟩
 clear hK K
 refine zT1 5 rfl (fun K hK=>?_)
 go_simp
 refine (allp2 fb W0).mono ?_
 rintro e _ ⟨rfl,rfl⟩
 go_simp
 refine hK _ _ ⟨.inr s0,?_⟩
 clear hK K
 refine zTp 6 (.pointer (some ⟨fb,2,none⟩)) rfl s0 ?_
 go_simp
 refine zTa 7 (.int .u64 n) rfl (by rintro w h;have c0:=h.get;have d0:=h.cell;go_simp) s0 ?_
 go_simp
 refine zTp 8 (.pointer (some ⟨tb,2,none⟩)) rfl s0 ?_
 go_simp
 refine wpAnyT_last (by kernel_rfl) (by kernel_rfl) ?_
 refine zA1 9 rfl (fun K hK=>?_)
 go_simp
 go_simp
 refine hK _ _ ?_
 clear hK K
 refine wpAny_done (by kernel_rfl) ?_ _
 refine bodyPost_end (results_none rfl _ _ _) rfl ?_
 exact⟨rfl,hS,hO⟩
set_option maxRecDepth 100000 in
theorem putP2 (B g fb tb ob:Nat)(l:List UInt8)(v:Value)(cs:Array Value)(n:Nat)(w:World)(hw:WrAt B g l 0 v w)(hl:l.length≤100000000)(h1:w.heap[fb]?=some (msgO cs))(hx:cs[2]?=some (.int .u64 (n:Int)))
  (hf:plainAt w 3 (.func (.func 165) #[] #[]) tb ob) :
  Calls Tryz.prog 219 #[.pointer (some ⟨g,0,none⟩),.pointer (some ⟨fb,0,none⟩),.pointer (some ⟨tb,0,none⟩),.pointer (some ⟨ob,0,none⟩)] w fun e w'=>e=.returned (.tuple #[])∧∃v',WrAt B g (l++val 3 (num8 n)) 0 v' w'∧Below B w w'∧KeepW g v v' w w':=by
 have hmo:Tryz.prog.follows .mixedOrders=true:=by kernel_rfl
 have hd:Below w.heap.size w w.drew:=(Below.refl _ _).drew
 have s0:TgAt tb 3 ob (.func (.func 165) #[] #[]) fb 2 (.int .u64 (n:Int)) w.drew:=⟨hf.2,msgO_cell h1 2 _ hx,hf.1⟩
 have hw0:=hw.later hd
 have hlt:=hw.lt
 have hle:=hw.le
 go_enter Tryz.func219,Tryz.ntmps219
 go_upto_region 0 with fail
 refine wp_region_T (k:=7) (S:=TgAt tb 3 ob (.func (.func 165) #[] #[]) fb 2 (.int .u64 (n:Int))) hmo ?_
 change wpAnyT _ _ _ _ _ _ _ _ _ (World.drew w)
 generalize World.drew w=W0 at *
 refine zTp 0 (.pointer (some ⟨g,0,none⟩)) rfl s0 ?_
 go_simp
 refine zTa 1 (.int .u8 3) rfl (by rintro w h;obtain⟨c0,c1⟩:=h.get;have d0:=h.cell;go_simp) s0 ?_
 go_simp
 refine zTa 2 (.func (.func 165) #[] #[]) rfl (by rintro w h;obtain⟨c0,c1⟩:=h.get;have d0:=h.cell;go_simp) s0 ?_
 go_simp
 refine zTp 3 (.pointer (some ⟨fb,0,none⟩)) rfl s0 ?_
 go_simp
 refine zT1 4 rfl (fun K hK=>?_)
 go_simp
 refine (allp2 fb W0).mono ?_
 rintro e _ ⟨rfl,rfl⟩
 go_simp
 refine hK _ _ ⟨.inr s0,?_⟩
 clear hK K
 refine zTp 5 (.pointer (some ⟨fb,2,none⟩)) rfl s0 ?_
 go_simp
 refine zTa 6 (.int .u64 (n:Int)) rfl (by rintro w h;obtain⟨c0,c1⟩:=h.get;have d0:=h.cell;go_simp) s0 ?_
 go_simp
 refine wpAnyT_last (by kernel_rfl) (by kernel_rfl) ?_
 refine zA1 7 rfl (fun K hK=>?_)
 go_simp
 refine (wnumber2 B g l v 3 n W0 hw0 (by decide) hl).mono ?_
 rintro e W1 ⟨rfl,v1,q1,q2,q3⟩
 go_simp
 refine hK _ _ ?_
 clear hK K
 refine wpAny_done (by kernel_rfl) ?_ _
 refine bodyPost_end (results_none rfl _ _ _) rfl ?_
 exact⟨rfl,v1,q1,(hd.mono (by omega)).trans q2,q3.after hd⟩
theorem allp3 (b:Nat)(w:World):Calls Tryz.prog 166 #[.pointer (some ⟨b,0,none⟩)] w fun e w'=>e=.returned (.pointer (some ⟨b,4,none⟩))∧w=w':=by
 go_enter Tryz.func166,Tryz.ntmps166
 go_wp2
 go_ret
 exact⟨rfl,rfl⟩
set_option maxRecDepth 100000 in
theorem keepP3 (B tb fb ob:Nat)(cs0 cs:Array Value)(n:Int)(y0:Value)(w:World)(h0:w.heap[tb]?=some (msgO cs0))(h1:w.heap[fb]?=some (msgO cs))(hx:cs[4]?=some (.int .u64 n))(hy:cs0[4]?=some y0)
  (hf:w.heap[ob]?=some (.cells #[.func (.func 166) #[] #[]] 251)) (hB:B≤tb) :
  Calls Tryz.prog 218 #[.pointer (some ⟨tb,0,none⟩),.pointer (some ⟨fb,0,none⟩),.pointer (some ⟨ob,0,none⟩)] w fun e w'=>e=.returned (.tuple #[])∧w'.heap[tb]?=some (msgO (cs0.setIfInBounds 4 (.int .u64 n)))∧Oth B tb w w':=by
 have hmo:Tryz.prog.follows .mixedOrders=true:=by kernel_rfl
 have hd:Below w.heap.size w w.drew:=(Below.refl _ _).drew
 have s0:FnAt ob (.func (.func 166) #[] #[]) fb 4 (.int .u64 n) w.drew:=⟨hf,msgO_cell h1 4 _ hx⟩
 have c9:w.drew.cell? ⟨tb,4,none⟩=some y0:=msgO_cell (W:=w.drew) h0 4 y0 hy
 have z9:w.drew.frozen? ⟨tb,4,none⟩=false:=msgO_frozen (W:=w.drew) h0 4
 have hO:Oth B tb w (w.drew.setCell ⟨tb,4,none⟩ (.int .u64 n)):=((Oth.refl B tb w).later (Nat.le_trans hB (Nat.le_of_lt (Array.getElem?_eq_some_iff.1 h0).1)) hd).set hB _ _
 have hS:(w.drew.setCell ⟨tb,4,none⟩ (.int .u64 n)).heap[tb]?=some (msgO (cs0.setIfInBounds 4 (.int .u64 n))):=at_set (W:=w.drew) h0
 go_enter Tryz.func218,Tryz.ntmps218
 go_upto_region 0 with fail
 refine wp_region_T (k:=9) (S:=FnAt ob (.func (.func 166) #[] #[]) fb 4 (.int .u64 n)) hmo ?_
 change wpAnyT _ _ _ _ _ _ _ _ _ (World.drew w)
 generalize World.drew w=W0 at *
 refine zTa 0 (.func (.func 166) #[] #[]) rfl (by rintro w h;have c0:=h.get;have d0:=h.cell;go_simp) s0 ?_
 go_simp
 refine zTp 1 (.pointer (some ⟨tb,0,none⟩)) rfl s0 ?_
 go_simp
 refine zTa 3 (.func (.func 166) #[] #[]) rfl (by rintro w h;have c0:=h.get;have d0:=h.cell;go_simp) s0 ?_
 go_simp
 refine zTp 4 (.pointer (some ⟨fb,0,none⟩)) rfl s0 ?_
 go_simp
 refine zT1 2 rfl (fun K hK=>?_)
 go_simp
 refine (allp3 tb W0).mono ?_
 rintro e _ ⟨rfl,rfl⟩
 go_simp
 refine hK _ _ ⟨.inr s0,?_⟩
 clear hK K
 refine zT1 5 rfl (fun K hK=>?_)
 go_simp
 refine (allp3 fb W0).mono ?_
 rintro e _ ⟨rfl,rfl⟩
 go_simp
 refine hK _ _ ⟨.inr s0,?_⟩
 clear hK K
 refine zTp 6 (.pointer (some ⟨fb,4,none⟩)) rfl s0 ?_
 go_simp
 refine zTa 7 (.int .u64 n) rfl (by rintro w h;have c0:=h.get;have d0:=h.cell;go_simp) s0 ?_
 go_simp
 refine zTp 8 (.pointer (some ⟨tb,4,none⟩)) rfl s0 ?_
 go_simp
 refine wpAnyT_last (by kernel_rfl) (by kernel_rfl) ?_
 refine zA1 9 rfl (fun K hK=>?_)
 go_simp
 go_simp
 refine hK _ _ ?_
 clear hK K
 refine wpAny_done (by kernel_rfl) ?_ _
 refine bodyPost_end (results_none rfl _ _ _) rfl ?_
 exact⟨rfl,hS,hO⟩
set_option maxRecDepth 100000 in
theorem putP3 (B g fb tb ob:Nat)(l:List UInt8)(v:Value)(cs:Array Value)(n:Nat)(w:World)(hw:WrAt B g l 0 v w)(hl:l.length≤100000000)(h1:w.heap[fb]?=some (msgO cs))(hx:cs[4]?=some (.int .u64 (n:Int)))
  (hf:plainAt w 5 (.func (.func 166) #[] #[]) tb ob) :
  Calls Tryz.prog 219 #[.pointer (some ⟨g,0,none⟩),.pointer (some ⟨fb,0,none⟩),.pointer (some ⟨tb,0,none⟩),.pointer (some ⟨ob,0,none⟩)] w fun e w'=>e=.returned (.tuple #[])∧∃v',WrAt B g (l++val 5 (num8 n)) 0 v' w'∧Below B w w'∧KeepW g v v' w w':=by
 have hmo:Tryz.prog.follows .mixedOrders=true:=by kernel_rfl
 have hd:Below w.heap.size w w.drew:=(Below.refl _ _).drew
 have s0:TgAt tb 5 ob (.func (.func 166) #[] #[]) fb 4 (.int .u64 (n:Int)) w.drew:=⟨hf.2,msgO_cell h1 4 _ hx,hf.1⟩
 have hw0:=hw.later hd
 have hlt:=hw.lt
 have hle:=hw.le
 go_enter Tryz.func219,Tryz.ntmps219
 go_upto_region 0 with fail
 refine wp_region_T (k:=7) (S:=TgAt tb 5 ob (.func (.func 166) #[] #[]) fb 4 (.int .u64 (n:Int))) hmo ?_
 change wpAnyT _ _ _ _ _ _ _ _ _ (World.drew w)
 generalize World.drew w=W0 at *
 refine zTp 0 (.pointer (some ⟨g,0,none⟩)) rfl s0 ?_
 go_simp
 refine zTa 1 (.int .u8 5) rfl (by rintro w h;obtain⟨c0,c1⟩:=h.get;have d0:=h.cell;go_simp) s0 ?_
 go_simp
 refine zTa 2 (.func (.func 166) #[] #[]) rfl (by rintro w h;obtain⟨c0,c1⟩:=h.get;have d0:=h.cell;go_simp) s0 ?_
 go_simp
 refine zTp 3 (.pointer (some ⟨fb,0,none⟩)) rfl s0 ?_
 go_simp
 refine zT1 4 rfl (fun K hK=>?_)
 go_simp
 refine (allp3 fb W0).mono ?_
 rintro e _ ⟨rfl,rfl⟩
 go_simp
 refine hK _ _ ⟨.inr s0,?_⟩
 clear hK K
 refine zTp 5 (.pointer (some ⟨fb,4,none⟩)) rfl s0 ?_
 go_simp
 refine zTa 6 (.int .u64 (n:Int)) rfl (by rintro w h;obtain⟨c0,c1⟩:=h.get;have d0:=h.cell;go_simp) s0 ?_
 go_simp
 refine wpAnyT_last (by kernel_rfl) (by kernel_rfl) ?_
 refine zA1 7 rfl (fun K hK=>?_)
 go_simp
 refine (wnumber2 B g l v 5 n W0 hw0 (by decide) hl).mono ?_
 rintro e W1 ⟨rfl,v1,q1,q2,q3⟩
 go_simp
 refine hK _ _ ?_
 clear hK K
 refine wpAny_done (by kernel_rfl) ?_ _
 refine bodyPost_end (results_none rfl _ _ _) rfl ?_
 exact⟨rfl,v1,q1,(hd.mono (by omega)).trans q2,q3.after hd⟩
theorem allp4 (b:Nat)(w:World):Calls Tryz.prog 167 #[.pointer (some ⟨b,0,none⟩)] w fun e w'=>e=.returned (.pointer (some ⟨b,5,none⟩))∧w=w':=by
 go_enter Tryz.func167,Tryz.ntmps167
 go_wp2
 go_ret
 exact⟨rfl,rfl⟩
set_option maxRecDepth 100000 in
theorem keepP4 (B tb fb ob:Nat)(cs0 cs:Array Value)(n:Int)(y0:Value)(w:World)(h0:w.heap[tb]?=some (msgO cs0))(h1:w.heap[fb]?=some (msgO cs))(hx:cs[5]?=some (.int .u64 n))(hy:cs0[5]?=some y0)
  (hf:w.heap[ob]?=some (.cells #[.func (.func 167) #[] #[]] 251)) (hB:B≤tb) :
  Calls Tryz.prog 218 #[.pointer (some ⟨tb,0,none⟩),.pointer (some ⟨fb,0,none⟩),.pointer (some ⟨ob,0,none⟩)] w fun e w'=>e=.returned (.tuple #[])∧w'.heap[tb]?=some (msgO (cs0.setIfInBounds 5 (.int .u64 n)))∧Oth B tb w w':=by
 have hmo:Tryz.prog.follows .mixedOrders=true:=by kernel_rfl
 have hd:Below w.heap.size w w.drew:=(Below.refl _ _).drew
 have s0:FnAt ob (.func (.func 167) #[] #[]) fb 5 (.int .u64 n) w.drew:=⟨hf,msgO_cell h1 5 _ hx⟩
 have c9:w.drew.cell? ⟨tb,5,none⟩=some y0:=msgO_cell (W:=w.drew) h0 5 y0 hy
 have z9:w.drew.frozen? ⟨tb,5,none⟩=false:=msgO_frozen (W:=w.drew) h0 5
 have hO:Oth B tb w (w.drew.setCell ⟨tb,5,none⟩ (.int .u64 n)):=((Oth.refl B tb w).later (Nat.le_trans hB (Nat.le_of_lt (Array.getElem?_eq_some_iff.1 h0).1)) hd).set hB _ _
 have hS:(w.drew.setCell ⟨tb,5,none⟩ (.int .u64 n)).heap[tb]?=some (msgO (cs0.setIfInBounds 5 (.int .u64 n))):=at_set (W:=w.drew) h0
 go_enter Tryz.func218,Tryz.ntmps218
 go_upto_region 0 with fail
 refine wp_region_T (k:=9) (S:=FnAt ob (.func (.func 167) #[] #[]) fb 5 (.int .u64 n)) hmo ?_
 change wpAnyT _ _ _ _ _ _ _ _ _ (World.drew w)
 generalize World.drew w=W0 at *
 refine zTa 0 (.func (.func 167) #[] #[]) rfl (by rintro w h;have c0:=h.get;have d0:=h.cell;go_simp) s0 ?_
 go_simp
 refine zTp 1 (.pointer (some ⟨tb,0,none⟩)) rfl s0 ?_
 go_simp
 refine zTa 3 (.func (.func 167) #[] #[]) rfl (by rintro w h;have c0:=h.get;have d0:=h.cell;go_simp) s0 ?_
 go_simp
 refine zTp 4 (.pointer (some ⟨fb,0,none⟩)) rfl s0 ?_
 go_simp
 refine zT1 2 rfl (fun K hK=>?_)
 go_simp
 refine (allp4 tb W0).mono ?_
 rintro e _ ⟨rfl,rfl⟩
 go_simp
 refine hK _ _ ⟨.inr s0,?_⟩
 clear hK K
 refine zT1 5 rfl (fun K hK=>?_)
 go_simp
 refine (allp4 fb W0).mono ?_
 rintro e _ ⟨rfl,rfl⟩
 go_simp
 refine hK _ _ ⟨.inr s0,?_⟩
 clear hK K
 refine zTp 6 (.pointer (some ⟨fb,5,none⟩)) rfl s0 ?_
 go_simp
 refine zTa 7 (.int .u64 n) rfl (by rintro w h;have c0:=h.get;have d0:=h.cell;go_simp) s0 ?_
 go_simp
 refine zTp 8 (.pointer (some ⟨tb,5,none⟩)) rfl s0 ?_
 go_simp
 refine wpAnyT_last (by kernel_rfl) (by kernel_rfl) ?_
 refine zA1 9 rfl (fun K hK=>?_)
 go_simp
 go_simp
 refine hK _ _ ?_
 clear hK K
 refine wpAny_done (by kernel_rfl) ?_ _
 refine bodyPost_end (results_none rfl _ _ _) rfl ?_
 exact⟨rfl,hS,hO⟩
set_option maxRecDepth 100000 in
theorem putP4 (B g fb tb ob:Nat)(l:List UInt8)(v:Value)(cs:Array Value)(n:Nat)(w:World)(hw:WrAt B g l 0 v w)(hl:l.length≤100000000)(h1:w.heap[fb]?=some (msgO cs))(hx:cs[5]?=some (.int .u64 (n:Int)))
  (hf:plainAt w 6 (.func (.func 167) #[] #[]) tb ob) :
  Calls Tryz.prog 219 #[.pointer (some ⟨g,0,none⟩),.pointer (some ⟨fb,0,none⟩),.pointer (some ⟨tb,0,none⟩),.pointer (some ⟨ob,0,none⟩)] w fun e w'=>e=.returned (.tuple #[])∧∃v',WrAt B g (l++val 6 (num8 n)) 0 v' w'∧Below B w w'∧KeepW g v v' w w':=by
 have hmo:Tryz.prog.follows .mixedOrders=true:=by kernel_rfl
 have hd:Below w.heap.size w w.drew:=(Below.refl _ _).drew
 have s0:TgAt tb 6 ob (.func (.func 167) #[] #[]) fb 5 (.int .u64 (n:Int)) w.drew:=⟨hf.2,msgO_cell h1 5 _ hx,hf.1⟩
 have hw0:=hw.later hd
 have hlt:=hw.lt
 have hle:=hw.le
 go_enter Tryz.func219,Tryz.ntmps219
 go_upto_region 0 with fail
 refine wp_region_T (k:=7) (S:=TgAt tb 6 ob (.func (.func 167) #[] #[]) fb 5 (.int .u64 (n:Int))) hmo ?_
 change wpAnyT _ _ _ _ _ _ _ _ _ (World.drew w)
 generalize World.drew w=W0 at *
 refine zTp 0 (.pointer (some ⟨g,0,none⟩)) rfl s0 ?_
 go_simp
 refine zTa 1 (.int .u8 6) rfl (by rintro w h;obtain⟨c0,c1⟩:=h.get;have d0:=h.cell;go_simp) s0 ?_
 go_simp
 refine zTa 2 (.func (.func 167) #[] #[]) rfl (by rintro w h;obtain⟨c0,c1⟩:=h.get;have d0:=h.cell;go_simp) s0 ?_
 go_simp
 refine zTp 3 (.pointer (some ⟨fb,0,none⟩)) rfl s0 ?_
 go_simp
 refine zT1 4 rfl (fun K hK=>?_)
 go_simp
 refine (allp4 fb W0).mono ?_
 rintro e _ ⟨rfl,rfl⟩
 go_simp
 refine hK _ _ ⟨.inr s0,?_⟩
 clear hK K
 refine zTp 5 (.pointer (some ⟨fb,5,none⟩)) rfl s0 ?_
 go_simp
 refine zTa 6 (.int .u64 (n:Int)) rfl (by rintro w h;obtain⟨c0,c1⟩:=h.get;have d0:=h.cell;go_simp) s0 ?_
 go_simp
 refine wpAnyT_last (by kernel_rfl) (by kernel_rfl) ?_
 refine zA1 7 rfl (fun K hK=>?_)
 go_simp
 refine (wnumber2 B g l v 6 n W0 hw0 (by decide) hl).mono ?_
 rintro e W1 ⟨rfl,v1,q1,q2,q3⟩
 go_simp
 refine hK _ _ ?_
 clear hK K
 refine wpAny_done (by kernel_rfl) ?_ _
 refine bodyPost_end (results_none rfl _ _ _) rfl ?_
 exact⟨rfl,v1,q1,(hd.mono (by omega)).trans q2,q3.after hd⟩
theorem allp5 (b:Nat)(w:World):Calls Tryz.prog 168 #[.pointer (some ⟨b,0,none⟩)] w fun e w'=>e=.returned (.pointer (some ⟨b,19,none⟩))∧w=w':=by
 go_enter Tryz.func168,Tryz.ntmps168
 go_wp2
 go_ret
 exact⟨rfl,rfl⟩
set_option maxRecDepth 100000 in
theorem keepP5 (B tb fb ob:Nat)(cs0 cs:Array Value)(n:Int)(y0:Value)(w:World)(h0:w.heap[tb]?=some (msgO cs0))(h1:w.heap[fb]?=some (msgO cs))(hx:cs[19]?=some (.int .u64 n))(hy:cs0[19]?=some y0)
  (hf:w.heap[ob]?=some (.cells #[.func (.func 168) #[] #[]] 251)) (hB:B≤tb) :
  Calls Tryz.prog 218 #[.pointer (some ⟨tb,0,none⟩),.pointer (some ⟨fb,0,none⟩),.pointer (some ⟨ob,0,none⟩)] w fun e w'=>e=.returned (.tuple #[])∧w'.heap[tb]?=some (msgO (cs0.setIfInBounds 19 (.int .u64 n)))∧Oth B tb w w':=by
 have hmo:Tryz.prog.follows .mixedOrders=true:=by kernel_rfl
 have hd:Below w.heap.size w w.drew:=(Below.refl _ _).drew
 have s0:FnAt ob (.func (.func 168) #[] #[]) fb 19 (.int .u64 n) w.drew:=⟨hf,msgO_cell h1 19 _ hx⟩
 have c9:w.drew.cell? ⟨tb,19,none⟩=some y0:=msgO_cell (W:=w.drew) h0 19 y0 hy
 have z9:w.drew.frozen? ⟨tb,19,none⟩=false:=msgO_frozen (W:=w.drew) h0 19
 have hO:Oth B tb w (w.drew.setCell ⟨tb,19,none⟩ (.int .u64 n)):=((Oth.refl B tb w).later (Nat.le_trans hB (Nat.le_of_lt (Array.getElem?_eq_some_iff.1 h0).1)) hd).set hB _ _
 have hS:(w.drew.setCell ⟨tb,19,none⟩ (.int .u64 n)).heap[tb]?=some (msgO (cs0.setIfInBounds 19 (.int .u64 n))):=at_set (W:=w.drew) h0
 go_enter Tryz.func218,Tryz.ntmps218
 go_upto_region 0 with fail
 refine wp_region_T (k:=9) (S:=FnAt ob (.func (.func 168) #[] #[]) fb 19 (.int .u64 n)) hmo ?_
 change wpAnyT _ _ _ _ _ _ _ _ _ (World.drew w)
 generalize World.drew w=W0 at *
 refine zTa 0 (.func (.func 168) #[] #[]) rfl (by rintro w h;have c0:=h.get;have d0:=h.cell;go_simp) s0 ?_
 go_simp
 refine zTp 1 (.pointer (some ⟨tb,0,none⟩)) rfl s0 ?_
 go_simp
 refine zTa 3 (.func (.func 168) #[] #[]) rfl (by rintro w h;have c0:=h.get;have d0:=h.cell;go_simp) s0 ?_
 go_simp
 refine zTp 4 (.pointer (some ⟨fb,0,none⟩)) rfl s0 ?_
 go_simp
 refine zT1 2 rfl (fun K hK=>?_)
 go_simp
 refine (allp5 tb W0).mono ?_
 rintro e _ ⟨rfl,rfl⟩
 go_simp
 refine hK _ _ ⟨.inr s0,?_⟩
 clear hK K
 refine zT1 5 rfl (fun K hK=>?_)
 go_simp
 refine (allp5 fb W0).mono ?_
 rintro e _ ⟨rfl,rfl⟩
 go_simp
 refine hK _ _ ⟨.inr s0,?_⟩
 clear hK K
 refine zTp 6 (.pointer (some ⟨fb,19,none⟩)) rfl s0 ?_
 go_simp
 refine zTa 7 (.int .u64 n) rfl (by rintro w h;have c0:=h.get;have d0:=h.cell;go_simp) s0 ?_
 go_simp
 refine zTp 8 (.pointer (some ⟨tb,19,none⟩)) rfl s0 ?_
 go_simp
 refine wpAnyT_last (by kernel_rfl) (by kernel_rfl) ?_
 refine zA1 9 rfl (fun K hK=>?_)
 go_simp
 go_simp
 refine hK _ _ ?_
 clear hK K
 refine wpAny_done (by kernel_rfl) ?_ _
 refine bodyPost_end (results_none rfl _ _ _) rfl ?_
 exact⟨rfl,hS,hO⟩
set_option maxRecDepth 100000 in
theorem putP5 (B g fb tb ob:Nat)(l:List UInt8)(v:Value)(cs:Array Value)(n:Nat)(w:World)(hw:WrAt B g l 0 v w)(hl:l.length≤100000000)(h1:w.heap[fb]?=some (msgO cs))(hx:cs[19]?=some (.int .u64 (n:Int)))
  (hf:plainAt w 9 (.func (.func 168) #[] #[]) tb ob) :
  Calls Tryz.prog 219 #[.pointer (some ⟨g,0,none⟩),.pointer (some ⟨fb,0,none⟩),.pointer (some ⟨tb,0,none⟩),.pointer (some ⟨ob,0,none⟩)] w fun e w'=>e=.returned (.tuple #[])∧∃v',WrAt B g (l++val 9 (num8 n)) 0 v' w'∧Below B w w'∧KeepW g v v' w w':=by
 have hmo:Tryz.prog.follows .mixedOrders=true:=by kernel_rfl
 have hd:Below w.heap.size w w.drew:=(Below.refl _ _).drew
 have s0:TgAt tb 9 ob (.func (.func 168) #[] #[]) fb 19 (.int .u64 (n:Int)) w.drew:=⟨hf.2,msgO_cell h1 19 _ hx,hf.1⟩
 have hw0:=hw.later hd
 have hlt:=hw.lt
 have hle:=hw.le
 go_enter Tryz.func219,Tryz.ntmps219
 go_upto_region 0 with fail
 refine wp_region_T (k:=7) (S:=TgAt tb 9 ob (.func (.func 168) #[] #[]) fb 19 (.int .u64 (n:Int))) hmo ?_
 change wpAnyT _ _ _ _ _ _ _ _ _ (World.drew w)
 generalize World.drew w=W0 at *
 refine zTp 0 (.pointer (some ⟨g,0,none⟩)) rfl s0 ?_
 go_simp
 refine zTa 1 (.int .u8 9) rfl (by rintro w h;obtain⟨c0,c1⟩:=h.get;have d0:=h.cell;go_simp) s0 ?_
 go_simp
 refine zTa 2 (.func (.func 168) #[] #[]) rfl (by rintro w h;obtain⟨c0,c1⟩:=h.get;have d0:=h.cell;go_simp) s0 ?_
 go_simp
 refine zTp 3 (.pointer (some ⟨fb,0,none⟩)) rfl s0 ?_
 go_simp
 refine zT1 4 rfl (fun K hK=>?_)
 go_simp
 refine (allp5 fb W0).mono ?_
 rintro e _ ⟨rfl,rfl⟩
 go_simp
 refine hK _ _ ⟨.inr s0,?_⟩
 clear hK K
 refine zTp 5 (.pointer (some ⟨fb,19,none⟩)) rfl s0 ?_
 go_simp
 refine zTa 6 (.int .u64 (n:Int)) rfl (by rintro w h;obtain⟨c0,c1⟩:=h.get;have d0:=h.cell;go_simp) s0 ?_
 go_simp
 refine wpAnyT_last (by kernel_rfl) (by kernel_rfl) ?_
 refine zA1 7 rfl (fun K hK=>?_)
 go_simp
 refine (wnumber2 B g l v 9 n W0 hw0 (by decide) hl).mono ?_
 rintro e W1 ⟨rfl,v1,q1,q2,q3⟩
 go_simp
 refine hK _ _ ?_
 clear hK K
 refine wpAny_done (by kernel_rfl) ?_ _
 refine bodyPost_end (results_none rfl _ _ _) rfl ?_
 exact⟨rfl,v1,q1,(hd.mono (by omega)).trans q2,q3.after hd⟩
theorem allp6 (b:Nat)(w:World):Calls Tryz.prog 169 #[.pointer (some ⟨b,0,none⟩)] w fun e w'=>e=.returned (.pointer (some ⟨b,20,none⟩))∧w=w':=by
 go_enter Tryz.func169,Tryz.ntmps169
 go_wp2
 go_ret
 exact⟨rfl,rfl⟩
set_option maxRecDepth 100000 in
theorem keepP6 (B tb fb ob:Nat)(cs0 cs:Array Value)(n:Int)(y0:Value)(w:World)(h0:w.heap[tb]?=some (msgO cs0))(h1:w.heap[fb]?=some (msgO cs))(hx:cs[20]?=some (.int .u64 n))(hy:cs0[20]?=some y0)
  (hf:w.heap[ob]?=some (.cells #[.func (.func 169) #[] #[]] 251)) (hB:B≤tb) :
  Calls Tryz.prog 218 #[.pointer (some ⟨tb,0,none⟩),.pointer (some ⟨fb,0,none⟩),.pointer (some ⟨ob,0,none⟩)] w fun e w'=>e=.returned (.tuple #[])∧w'.heap[tb]?=some (msgO (cs0.setIfInBounds 20 (.int .u64 n)))∧Oth B tb w w':=by
 have hmo:Tryz.prog.follows .mixedOrders=true:=by kernel_rfl
 have hd:Below w.heap.size w w.drew:=(Below.refl _ _).drew
 have s0:FnAt ob (.func (.func 169) #[] #[]) fb 20 (.int .u64 n) w.drew:=⟨hf,msgO_cell h1 20 _ hx⟩
 have c9:w.drew.cell? ⟨tb,20,none⟩=some y0:=msgO_cell (W:=w.drew) h0 20 y0 hy
 have z9:w.drew.frozen? ⟨tb,20,none⟩=false:=msgO_frozen (W:=w.drew) h0 20
 have hO:Oth B tb w (w.drew.setCell ⟨tb,20,none⟩ (.int .u64 n)):=((Oth.refl B tb w).later (Nat.le_trans hB (Nat.le_of_lt (Array.getElem?_eq_some_iff.1 h0).1)) hd).set hB _ _
 have hS:(w.drew.setCell ⟨tb,20,none⟩ (.int .u64 n)).heap[tb]?=some (msgO (cs0.setIfInBounds 20 (.int .u64 n))):=at_set (W:=w.drew) h0
 go_enter Tryz.func218,Tryz.ntmps218
 go_upto_region 0 with fail
 refine wp_region_T (k:=9) (S:=FnAt ob (.func (.func 169) #[] #[]) fb 20 (.int .u64 n)) hmo ?_
 change wpAnyT _ _ _ _ _ _ _ _ _ (World.drew w)
 generalize World.drew w=W0 at *
 refine zTa 0 (.func (.func 169) #[] #[]) rfl (by rintro w h;have c0:=h.get;have d0:=h.cell;go_simp) s0 ?_
 go_simp
 refine zTp 1 (.pointer (some ⟨tb,0,none⟩)) rfl s0 ?_
 go_simp
 refine zTa 3 (.func (.func 169) #[] #[]) rfl (by rintro w h;have c0:=h.get;have d0:=h.cell;go_simp) s0 ?_
 go_simp
 refine zTp 4 (.pointer (some ⟨fb,0,none⟩)) rfl s0 ?_
 go_simp
 refine zT1 2 rfl (fun K hK=>?_)
 go_simp
 refine (allp6 tb W0).mono ?_
 rintro e _ ⟨rfl,rfl⟩
 go_simp
 refine hK _ _ ⟨.inr s0,?_⟩
 clear hK K
 refine zT1 5 rfl (fun K hK=>?_)
 go_simp
 refine (allp6 fb W0).mono ?_
 rintro e _ ⟨rfl,rfl⟩
 go_simp
 refine hK _ _ ⟨.inr s0,?_⟩
 clear hK K
 refine zTp 6 (.pointer (some ⟨fb,20,none⟩)) rfl s0 ?_
 go_simp
 refine zTa 7 (.int .u64 n) rfl (by rintro w h;have c0:=h.get;have d0:=h.cell;go_simp) s0 ?_
 go_simp
 refine zTp 8 (.pointer (some ⟨tb,20,none⟩)) rfl s0 ?_
 go_simp
 refine wpAnyT_last (by kernel_rfl) (by kernel_rfl) ?_
 refine zA1 9 rfl (fun K hK=>?_)
 go_simp
 go_simp
 refine hK _ _ ?_
 clear hK K
 refine wpAny_done (by kernel_rfl) ?_ _
 refine bodyPost_end (results_none rfl _ _ _) rfl ?_
 exact⟨rfl,hS,hO⟩
set_option maxRecDepth 100000 in
theorem putP6 (B g fb tb ob:Nat)(l:List UInt8)(v:Value)(cs:Array Value)(n:Nat)(w:World)(hw:WrAt B g l 0 v w)(hl:l.length≤100000000)(h1:w.heap[fb]?=some (msgO cs))(hx:cs[20]?=some (.int .u64 (n:Int)))
  (hf:plainAt w 10 (.func (.func 169) #[] #[]) tb ob) :
  Calls Tryz.prog 219 #[.pointer (some ⟨g,0,none⟩),.pointer (some ⟨fb,0,none⟩),.pointer (some ⟨tb,0,none⟩),.pointer (some ⟨ob,0,none⟩)] w fun e w'=>e=.returned (.tuple #[])∧∃v',WrAt B g (l++val 10 (num8 n)) 0 v' w'∧Below B w w'∧KeepW g v v' w w':=by
 have hmo:Tryz.prog.follows .mixedOrders=true:=by kernel_rfl
 have hd:Below w.heap.size w w.drew:=(Below.refl _ _).drew
 have s0:TgAt tb 10 ob (.func (.func 169) #[] #[]) fb 20 (.int .u64 (n:Int)) w.drew:=⟨hf.2,msgO_cell h1 20 _ hx,hf.1⟩
 have hw0:=hw.later hd
 have hlt:=hw.lt
 have hle:=hw.le
 go_enter Tryz.func219,Tryz.ntmps219
 go_upto_region 0 with fail
 refine wp_region_T (k:=7) (S:=TgAt tb 10 ob (.func (.func 169) #[] #[]) fb 20 (.int .u64 (n:Int))) hmo ?_
 change wpAnyT _ _ _ _ _ _ _ _ _ (World.drew w)
 generalize World.drew w=W0 at *
 refine zTp 0 (.pointer (some ⟨g,0,none⟩)) rfl s0 ?_
 go_simp
 refine zTa 1 (.int .u8 10) rfl (by rintro w h;obtain⟨c0,c1⟩:=h.get;have d0:=h.cell;go_simp) s0 ?_
 go_simp
 refine zTa 2 (.func (.func 169) #[] #[]) rfl (by rintro w h;obtain⟨c0,c1⟩:=h.get;have d0:=h.cell;go_simp) s0 ?_
 go_simp
 refine zTp 3 (.pointer (some ⟨fb,0,none⟩)) rfl s0 ?_
 go_simp
 refine zT1 4 rfl (fun K hK=>?_)
 go_simp
 refine (allp6 fb W0).mono ?_
 rintro e _ ⟨rfl,rfl⟩
 go_simp
 refine hK _ _ ⟨.inr s0,?_⟩
 clear hK K
 refine zTp 5 (.pointer (some ⟨fb,20,none⟩)) rfl s0 ?_
 go_simp
 refine zTa 6 (.int .u64 (n:Int)) rfl (by rintro w h;obtain⟨c0,c1⟩:=h.get;have d0:=h.cell;go_simp) s0 ?_
 go_simp
 refine wpAnyT_last (by kernel_rfl) (by kernel_rfl) ?_
 refine zA1 7 rfl (fun K hK=>?_)
 go_simp
 refine (wnumber2 B g l v 10 n W0 hw0 (by decide) hl).mono ?_
 rintro e W1 ⟨rfl,v1,q1,q2,q3⟩
 go_simp
 refine hK _ _ ?_
 clear hK K
 refine wpAny_done (by kernel_rfl) ?_ _
 refine bodyPost_end (results_none rfl _ _ _) rfl ?_
 exact⟨rfl,v1,q1,(hd.mono (by omega)).trans q2,q3.after hd⟩
theorem allp7 (b:Nat)(w:World):Calls Tryz.prog 170 #[.pointer (some ⟨b,0,none⟩)] w fun e w'=>e=.returned (.pointer (some ⟨b,21,none⟩))∧w=w':=by
 go_enter Tryz.func170,Tryz.ntmps170
 go_wp2
 go_ret
 exact⟨rfl,rfl⟩
set_option maxRecDepth 100000 in
theorem keepP7 (B tb fb ob:Nat)(cs0 cs:Array Value)(n:Int)(y0:Value)(w:World)(h0:w.heap[tb]?=some (msgO cs0))(h1:w.heap[fb]?=some (msgO cs))(hx:cs[21]?=some (.int .u64 n))(hy:cs0[21]?=some y0)
  (hf:w.heap[ob]?=some (.cells #[.func (.func 170) #[] #[]] 251)) (hB:B≤tb) :
  Calls Tryz.prog 218 #[.pointer (some ⟨tb,0,none⟩),.pointer (some ⟨fb,0,none⟩),.pointer (some ⟨ob,0,none⟩)] w fun e w'=>e=.returned (.tuple #[])∧w'.heap[tb]?=some (msgO (cs0.setIfInBounds 21 (.int .u64 n)))∧Oth B tb w w':=by
 have hmo:Tryz.prog.follows .mixedOrders=true:=by kernel_rfl
 have hd:Below w.heap.size w w.drew:=(Below.refl _ _).drew
 have s0:FnAt ob (.func (.func 170) #[] #[]) fb 21 (.int .u64 n) w.drew:=⟨hf,msgO_cell h1 21 _ hx⟩
 have c9:w.drew.cell? ⟨tb,21,none⟩=some y0:=msgO_cell (W:=w.drew) h0 21 y0 hy
 have z9:w.drew.frozen? ⟨tb,21,none⟩=false:=msgO_frozen (W:=w.drew) h0 21
 have hO:Oth B tb w (w.drew.setCell ⟨tb,21,none⟩ (.int .u64 n)):=((Oth.refl B tb w).later (Nat.le_trans hB (Nat.le_of_lt (Array.getElem?_eq_some_iff.1 h0).1)) hd).set hB _ _
 have hS:(w.drew.setCell ⟨tb,21,none⟩ (.int .u64 n)).heap[tb]?=some (msgO (cs0.setIfInBounds 21 (.int .u64 n))):=at_set (W:=w.drew) h0
 go_enter Tryz.func218,Tryz.ntmps218
 go_upto_region 0 with fail
 refine wp_region_T (k:=9) (S:=FnAt ob (.func (.func 170) #[] #[]) fb 21 (.int .u64 n)) hmo ?_
 change wpAnyT _ _ _ _ _ _ _ _ _ (World.drew w)
 generalize World.drew w=W0 at *
 refine zTa 0 (.func (.func 170) #[] #[]) rfl (by rintro w h;have c0:=h.get;have d0:=h.cell;go_simp) s0 ?_
 go_simp
 refine zTp 1 (.pointer (some ⟨tb,0,none⟩)) rfl s0 ?_
 go_simp
 refine zTa 3 (.func (.func 170) #[] #[]) rfl (by rintro w h;have c0:=h.get;have d0:=h.cell;go_simp) s0 ?_
 go_simp
 refine zTp 4 (.pointer (some ⟨fb,0,none⟩)) rfl s0 ?_
 go_simp
 refine zT1 2 rfl (fun K hK=>?_)
 go_simp
 refine (allp7 tb W0).mono ?_
 rintro e _ ⟨rfl,rfl⟩
 go_simp
 refine hK _ _ ⟨.inr s0,?_⟩
 clear hK K
 refine zT1 5 rfl (fun K hK=>?_)
 go_simp
 refine (allp7 fb W0).mono ?_
 rintro e _ ⟨rfl,rfl⟩
 go_simp
 refine hK _ _ ⟨.inr s0,?_⟩
 clear hK K
 refine zTp 6 (.pointer (some ⟨fb,21,none⟩)) rfl s0 ?_
 go_simp
 refine zTa 7 (.int .u64 n) rfl (by rintro w h;have c0:=h.get;have d0:=h.cell;go_simp) s0 ?_
 go_simp
 refine zTp 8 (.pointer (some ⟨tb,21,none⟩)) rfl s0 ?_
 go_simp
 refine wpAnyT_last (by kernel_rfl) (by kernel_rfl) ?_
 refine zA1 9 rfl (fun K hK=>?_)
 go_simp
 go_simp
 refine hK _ _ ?_
 clear hK K
 refine wpAny_done (by kernel_rfl) ?_ _
 refine bodyPost_end (results_none rfl _ _ _) rfl ?_
 exact⟨rfl,hS,hO⟩
set_option maxRecDepth 100000 in
theorem putP7 (B g fb tb ob:Nat)(l:List UInt8)(v:Value)(cs:Array Value)(n:Nat)(w:World)(hw:WrAt B g l 0 v w)(hl:l.length≤100000000)(h1:w.heap[fb]?=some (msgO cs))(hx:cs[21]?=some (.int .u64 (n:Int)))
  (hf:plainAt w 11 (.func (.func 170) #[] #[]) tb ob) :
  Calls Tryz.prog 219 #[.pointer (some ⟨g,0,none⟩),.pointer (some ⟨fb,0,none⟩),.pointer (some ⟨tb,0,none⟩),.pointer (some ⟨ob,0,none⟩)] w fun e w'=>e=.returned (.tuple #[])∧∃v',WrAt B g (l++val 11 (num8 n)) 0 v' w'∧Below B w w'∧KeepW g v v' w w':=by
 have hmo:Tryz.prog.follows .mixedOrders=true:=by kernel_rfl
 have hd:Below w.heap.size w w.drew:=(Below.refl _ _).drew
 have s0:TgAt tb 11 ob (.func (.func 170) #[] #[]) fb 21 (.int .u64 (n:Int)) w.drew:=⟨hf.2,msgO_cell h1 21 _ hx,hf.1⟩
 have hw0:=hw.later hd
 have hlt:=hw.lt
 have hle:=hw.le
 go_enter Tryz.func219,Tryz.ntmps219
 go_upto_region 0 with fail
 refine wp_region_T (k:=7) (S:=TgAt tb 11 ob (.func (.func 170) #[] #[]) fb 21 (.int .u64 (n:Int))) hmo ?_
 change wpAnyT _ _ _ _ _ _ _ _ _ (World.drew w)
 generalize World.drew w=W0 at *
 refine zTp 0 (.pointer (some ⟨g,0,none⟩)) rfl s0 ?_
 go_simp
 refine zTa 1 (.int .u8 11) rfl (by rintro w h;obtain⟨c0,c1⟩:=h.get;have d0:=h.cell;go_simp) s0 ?_
 go_simp
 refine zTa 2 (.func (.func 170) #[] #[]) rfl (by rintro w h;obtain⟨c0,c1⟩:=h.get;have d0:=h.cell;go_simp) s0 ?_
 go_simp
 refine zTp 3 (.pointer (some ⟨fb,0,none⟩)) rfl s0 ?_
 go_simp
 refine zT1 4 rfl (fun K hK=>?_)
 go_simp
 refine (allp7 fb W0).mono ?_
 rintro e _ ⟨rfl,rfl⟩
 go_simp
 refine hK _ _ ⟨.inr s0,?_⟩
 clear hK K
 refine zTp 5 (.pointer (some ⟨fb,21,none⟩)) rfl s0 ?_
 go_simp
 refine zTa 6 (.int .u64 (n:Int)) rfl (by rintro w h;obtain⟨c0,c1⟩:=h.get;have d0:=h.cell;go_simp) s0 ?_
 go_simp
 refine wpAnyT_last (by kernel_rfl) (by kernel_rfl) ?_
 refine zA1 7 rfl (fun K hK=>?_)
 go_simp
 refine (wnumber2 B g l v 11 n W0 hw0 (by decide) hl).mono ?_
 rintro e W1 ⟨rfl,v1,q1,q2,q3⟩
 go_simp
 refine hK _ _ ?_
 clear hK K
 refine wpAny_done (by kernel_rfl) ?_ _
 refine bodyPost_end (results_none rfl _ _ _) rfl ?_
 exact⟨rfl,v1,q1,(hd.mono (by omega)).trans q2,q3.after hd⟩
theorem allp8 (b:Nat)(w:World):Calls Tryz.prog 171 #[.pointer (some ⟨b,0,none⟩)] w fun e w'=>e=.returned (.pointer (some ⟨b,24,none⟩))∧w=w':=by
 go_enter Tryz.func171,Tryz.ntmps171
 go_wp2
 go_ret
 exact⟨rfl,rfl⟩
set_option maxRecDepth 100000 in
theorem keepP8 (B tb fb ob:Nat)(cs0 cs:Array Value)(n:Int)(y0:Value)(w:World)(h0:w.heap[tb]?=some (msgO cs0))(h1:w.heap[fb]?=some (msgO cs))(hx:cs[24]?=some (.int .u64 n))(hy:cs0[24]?=some y0)
  (hf:w.heap[ob]?=some (.cells #[.func (.func 171) #[] #[]] 251)) (hB:B≤tb) :
  Calls Tryz.prog 218 #[.pointer (some ⟨tb,0,none⟩),.pointer (some ⟨fb,0,none⟩),.pointer (some ⟨ob,0,none⟩)] w fun e w'=>e=.returned (.tuple #[])∧w'.heap[tb]?=some (msgO (cs0.setIfInBounds 24 (.int .u64 n)))∧Oth B tb w w':=by
 have hmo:Tryz.prog.follows .mixedOrders=true:=by kernel_rfl
 have hd:Below w.heap.size w w.drew:=(Below.refl _ _).drew
 have s0:FnAt ob (.func (.func 171) #[] #[]) fb 24 (.int .u64 n) w.drew:=⟨hf,msgO_cell h1 24 _ hx⟩
 have c9:w.drew.cell? ⟨tb,24,none⟩=some y0:=msgO_cell (W:=w.drew) h0 24 y0 hy
 have z9:w.drew.frozen? ⟨tb,24,none⟩=false:=msgO_frozen (W:=w.drew) h0 24
 have hO:Oth B tb w (w.drew.setCell ⟨tb,24,none⟩ (.int .u64 n)):=((Oth.refl B tb w).later (Nat.le_trans hB (Nat.le_of_lt (Array.getElem?_eq_some_iff.1 h0).1)) hd).set hB _ _
 have hS:(w.drew.setCell ⟨tb,24,none⟩ (.int .u64 n)).heap[tb]?=some (msgO (cs0.setIfInBounds 24 (.int .u64 n))):=at_set (W:=w.drew) h0
 go_enter Tryz.func218,Tryz.ntmps218
 go_upto_region 0 with fail
 refine wp_region_T (k:=9) (S:=FnAt ob (.func (.func 171) #[] #[]) fb 24 (.int .u64 n)) hmo ?_
 change wpAnyT _ _ _ _ _ _ _ _ _ (World.drew w)
 generalize World.drew w=W0 at *
 refine zTa 0 (.func (.func 171) #[] #[]) rfl (by rintro w h;have c0:=h.get;have d0:=h.cell;go_simp) s0 ?_
 go_simp
 refine zTp 1 (.pointer (some ⟨tb,0,none⟩)) rfl s0 ?_
 go_simp
 refine zTa 3 (.func (.func 171) #[] #[]) rfl (by rintro w h;have c0:=h.get;have d0:=h.cell;go_simp) s0 ?_
 go_simp
 refine zTp 4 (.pointer (some ⟨fb,0,none⟩)) rfl s0 ?_
 go_simp
 refine zT1 2 rfl (fun K hK=>?_)
 go_simp
 refine (allp8 tb W0).mono ?_
 rintro e _ ⟨rfl,rfl⟩
 go_simp
 refine hK _ _ ⟨.inr s0,?_⟩
 clear hK K
 refine zT1 5 rfl (fun K hK=>?_)
 go_simp
 refine (allp8 fb W0).mono ?_
 rintro e _ ⟨rfl,rfl⟩
 go_simp
 refine hK _ _ ⟨.inr s0,?_⟩
 clear hK K
 refine zTp 6 (.pointer (some ⟨fb,24,none⟩)) rfl s0 ?_
 go_simp
 refine zTa 7 (.int .u64 n) rfl (by rintro w h;have c0:=h.get;have d0:=h.cell;go_simp) s0 ?_
 go_simp
 refine zTp 8 (.pointer (some ⟨tb,24,none⟩)) rfl s0 ?_
 go_simp
 refine wpAnyT_last (by kernel_rfl) (by kernel_rfl) ?_
 refine zA1 9 rfl (fun K hK=>?_)
 go_simp
 go_simp
 refine hK _ _ ?_
 clear hK K
 refine wpAny_done (by kernel_rfl) ?_ _
 refine bodyPost_end (results_none rfl _ _ _) rfl ?_
 exact⟨rfl,hS,hO⟩
set_option maxRecDepth 100000 in
theorem putP8 (B g fb tb ob:Nat)(l:List UInt8)(v:Value)(cs:Array Value)(n:Nat)(w:World)(hw:WrAt B g l 0 v w)(hl:l.length≤100000000)(h1:w.heap[fb]?=some (msgO cs))(hx:cs[24]?=some (.int .u64 (n:Int)))
  (hf:plainAt w 14 (.func (.func 171) #[] #[]) tb ob) :
  Calls Tryz.prog 219 #[.pointer (some ⟨g,0,none⟩),.pointer (some ⟨fb,0,none⟩),.pointer (some ⟨tb,0,none⟩),.pointer (some ⟨ob,0,none⟩)] w fun e w'=>e=.returned (.tuple #[])∧∃v',WrAt B g (l++val 14 (num8 n)) 0 v' w'∧Below B w w'∧KeepW g v v' w w':=by
 have hmo:Tryz.prog.follows .mixedOrders=true:=by kernel_rfl
 have hd:Below w.heap.size w w.drew:=(Below.refl _ _).drew
 have s0:TgAt tb 14 ob (.func (.func 171) #[] #[]) fb 24 (.int .u64 (n:Int)) w.drew:=⟨hf.2,msgO_cell h1 24 _ hx,hf.1⟩
 have hw0:=hw.later hd
 have hlt:=hw.lt
 have hle:=hw.le
 go_enter Tryz.func219,Tryz.ntmps219
 go_upto_region 0 with fail
 refine wp_region_T (k:=7) (S:=TgAt tb 14 ob (.func (.func 171) #[] #[]) fb 24 (.int .u64 (n:Int))) hmo ?_
 change wpAnyT _ _ _ _ _ _ _ _ _ (World.drew w)
 generalize World.drew w=W0 at *
 refine zTp 0 (.pointer (some ⟨g,0,none⟩)) rfl s0 ?_
 go_simp
 refine zTa 1 (.int .u8 14) rfl (by rintro w h;obtain⟨c0,c1⟩:=h.get;have d0:=h.cell;go_simp) s0 ?_
 go_simp
 refine zTa 2 (.func (.func 171) #[] #[]) rfl (by rintro w h;obtain⟨c0,c1⟩:=h.get;have d0:=h.cell;go_simp) s0 ?_
 go_simp
 refine zTp 3 (.pointer (some ⟨fb,0,none⟩)) rfl s0 ?_
 go_simp
 refine zT1 4 rfl (fun K hK=>?_)
 go_simp
 refine (allp8 fb W0).mono ?_
 rintro e _ ⟨rfl,rfl⟩
 go_simp
 refine hK _ _ ⟨.inr s0,?_⟩
 clear hK K
 refine zTp 5 (.pointer (some ⟨fb,24,none⟩)) rfl s0 ?_
 go_simp
 refine zTa 6 (.int .u64 (n:Int)) rfl (by rintro w h;obtain⟨c0,c1⟩:=h.get;have d0:=h.cell;go_simp) s0 ?_
 go_simp
 refine wpAnyT_last (by kernel_rfl) (by kernel_rfl) ?_
 refine zA1 7 rfl (fun K hK=>?_)
 go_simp
 refine (wnumber2 B g l v 14 n W0 hw0 (by decide) hl).mono ?_
 rintro e W1 ⟨rfl,v1,q1,q2,q3⟩
 go_simp
 refine hK _ _ ?_
 clear hK K
 refine wpAny_done (by kernel_rfl) ?_ _
 refine bodyPost_end (results_none rfl _ _ _) rfl ?_
 exact⟨rfl,v1,q1,(hd.mono (by omega)).trans q2,q3.after hd⟩
end Go.Proofs.YtfmmandlmbcncaaGreatDoor.Msg
