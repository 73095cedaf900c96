/-
  A part of the proof.
-/
import Derived.Test.YtfmmandlmbcncaaGreatDoorKbaw
import Derived.Test.YtfmmandlmbcncaaGreatDoorKbax
import Derived.Test.YtfmmandlmbcncaaGreatDoorKbal
set_option maxHeartbeats 40000000
namespace Go.Proofs.YtfmmandlmbcncaaGreatDoor.Msg
open Go.RowKit Go.Lib Go.Proofs.YtfmmandlmbcncaaGreatDoor.Mem Go.Proofs.YtfmmandlmbcncaaGreatDoor.Tlv
def GivesEs (B g:Nat)(t:UInt8)(s:RS)(W:World)(e:Ending)(w':World):Prop:=∃ao n cap xs s',e=.returned (.slice ao n cap)∧Rd w' 2 ao n cap (atV xs)∧n≤100000000∧TyX 106 w' ao cap∧RdS B g s' w'∧W.grownBy w' (some g) ∧
 Took (fun ys=>val t (attB ys)) (fun ys=>mayAttrs ys=true∧(attB ys).length≤4194304) (fun ys=>mayAttrs ys=true∧(attB ys).length≤4194304) s xs s'
theorem mayAttrs_len {x:List (ByteArray×ByteArray)}(h:mayAttrs x=true):x.length≤50:=by
 unfold mayAttrs at h
 simp only[Bool.and_eq_true,decide_eq_true_eq] at h
 exact h.2
set_option maxRecDepth 100000 in
theorem te11_any:Reads11 246:=by
 intro q nb ab s i x1 x2 W hr hl hn ha h1 h2 hi
 have hnab:nb≠ab:=by rintro rfl;rw[hn] at ha;cases ha
 have c0:W.cell? ⟨nb,0,none⟩=some (.int .i64 (i:Int)):=by simp[World.cell?,hn,nBox]
 have f0:W.frozen? ⟨nb,0,none⟩=false:=by simp[World.frozen?,hn,nBox]
 obtain⟨j,hj⟩:∃j:Int,j=((i+1:Nat):Int):=⟨_,rfl⟩
 have hw:IntKind.i64.wrap ((i:Int)+1)=j:=(wraps_i64' _ (by omega) (by omega)).trans (by omega)
 have hle:decide (j≤2)=decide (i+1≤2):=by rw[decide_eq_decide];omega
 have f1:(j==1)=decide (i=0):=by rw[Bool.eq_iff_iff];simp;omega
 rw[←hle,←hj]
 clear hj hle
 have hn1:(W.setCell ⟨nb,0,none⟩ (.int .i64 j)).heap[nb]?=some (nBox j):=at_set hn
 have ha1:(W.setCell ⟨nb,0,none⟩ (.int .i64 j)).heap[ab]?=some (atBox (x1,x2)):=at_other ha (Ne.symm hnab)
 have hg1:W.grownBy (W.setCell ⟨nb,0,none⟩ (.int .i64 j)) (some nb):=grown_set _ _ _ _
 have hr1:RdS q q s (W.setCell ⟨nb,0,none⟩ (.int .i64 j)):=hr.grown hg1 hn (fun c fr h=>by cases h) (by omega)
 have hb1:BelX q [nb,ab] W (W.setCell ⟨nb,0,none⟩ (.int .i64 j)):=(BelX.refl _ _ _).set _ _ _ (.inl (by simp))
 have hq:W.heap.size≤(W.setCell ⟨nb,0,none⟩ (.int .i64 j)).heap.size:=hb1.size
 have hqs:q<W.heap.size:=by obtain⟨_,_,h⟩:=hr;exact h.lt
 have d0:(W.setCell ⟨nb,0,none⟩ (.int .i64 j)).cell? ⟨nb,0,none⟩=some (.int .i64 j):=by simp[World.cell?,hn1,nBox]
 generalize hW1:W.setCell ⟨nb,0,none⟩ (.int .i64 j)=W1 at *
 by_cases h0:i=0
 ·rw[if_pos h0,if_pos h0]
  rw[decide_eq_true h0] at f1
  have hc:=rtext_any q q s 1 _ hr1 hl
  clear h0
  go_enter Tryz.func246,Tryz.ntmps246
  go_wp2_with fail
  refine hc.mono ?_
  rintro e W2 ⟨rfl,h3,h4⟩
  have ha2:W2.heap[ab]?=some (atBox (x1,x2)):=(h4.block _ (by omega) (fun e=>by have:=Option.some.inj e;omega)).trans ha1
  have hn2:W2.heap[nb]?=some (nBox j):=(h4.block _ (by omega) (fun e=>by have:=Option.some.inj e;omega)).trans hn1
  have g0:W2.cell? ⟨ab,0,none⟩=some (.string x1):=by simp[World.cell?,ha2,atBox]
  have g1:W2.frozen? ⟨ab,0,none⟩=false:=by simp[World.frozen?,ha2,atBox]
  have hn3:(W2.setCell ⟨ab,0,none⟩ (.string ⟨(s.bytes 1).1.toArray⟩)).heap[nb]?=some (nBox j):=at_other hn2 hnab
  have ha3:(W2.setCell ⟨ab,0,none⟩ (.string ⟨(s.bytes 1).1.toArray⟩)).heap[ab]?=some (atBox (⟨(s.bytes 1).1.toArray⟩,x2)):=at_set ha2
  have hr3:RdS q q (s.bytes 1).2 (W2.setCell ⟨ab,0,none⟩ (.string ⟨(s.bytes 1).1.toArray⟩)):=h3.grown (grown_set _ _ _ _) ha2 (fun c fr h=>by cases h) (by omega)
  have hb3:BelX q [nb,ab] W (W2.setCell ⟨ab,0,none⟩ (.string ⟨(s.bytes 1).1.toArray⟩)):=(hb1.trans ((grown_belX h4 (by omega)).mono (Nat.le_refl _) (fun k hk h=>by rw[List.mem_singleton.1 hk] at h;omega))).set _ _ _ (.inl (by simp))
  have k0:(W2.setCell ⟨ab,0,none⟩ (.string ⟨(s.bytes 1).1.toArray⟩)).cell? ⟨nb,0,none⟩=some (.int .i64 j):=by simp[World.cell?,hn3,nBox]
  clear hW1
  go_wp2_with fail
  go_ret
  exact⟨rfl,hr3,hn3,ha3,hb3⟩
 rw[if_neg h0,if_neg h0]
 rw[decide_eq_false h0] at f1
 have hc:=rtext_any q q s 2 _ hr1 hl
 clear h0
 go_enter Tryz.func246,Tryz.ntmps246
 go_wp2_with fail
 refine hc.mono ?_
 rintro e W2 ⟨rfl,h3,h4⟩
 have ha2:W2.heap[ab]?=some (atBox (x1,x2)):=(h4.block _ (by omega) (fun e=>by have:=Option.some.inj e;omega)).trans ha1
 have hn2:W2.heap[nb]?=some (nBox j):=(h4.block _ (by omega) (fun e=>by have:=Option.some.inj e;omega)).trans hn1
 have g0:W2.cell? ⟨ab,1,none⟩=some (.string x2):=by simp[World.cell?,ha2,atBox]
 have g1:W2.frozen? ⟨ab,1,none⟩=false:=by simp[World.frozen?,ha2,atBox]
 have hn3:(W2.setCell ⟨ab,1,none⟩ (.string ⟨(s.bytes 2).1.toArray⟩)).heap[nb]?=some (nBox j):=at_other hn2 hnab
 have ha3:(W2.setCell ⟨ab,1,none⟩ (.string ⟨(s.bytes 2).1.toArray⟩)).heap[ab]?=some (atBox (x1,⟨(s.bytes 2).1.toArray⟩)):=at_set ha2
 have hr3:RdS q q (s.bytes 2).2 (W2.setCell ⟨ab,1,none⟩ (.string ⟨(s.bytes 2).1.toArray⟩)):=h3.grown (grown_set _ _ _ _) ha2 (fun c fr h=>by cases h) (by omega)
 have hb3:BelX q [nb,ab] W (W2.setCell ⟨ab,1,none⟩ (.string ⟨(s.bytes 2).1.toArray⟩)):=(hb1.trans ((grown_belX h4 (by omega)).mono (Nat.le_refl _) (fun k hk h=>by rw[List.mem_singleton.1 hk] at h;omega))).set _ _ _ (.inl (by simp))
 have k0:(W2.setCell ⟨ab,1,none⟩ (.string ⟨(s.bytes 2).1.toArray⟩)).cell? ⟨nb,0,none⟩=some (.int .i64 j):=by simp[World.cell?,hn3,nBox]
 clear hW1
 go_wp2_with fail
 go_ret
 exact⟨rfl,hr3,hn3,ha3,hb3⟩
set_option maxRecDepth 100000 in
theorem te1_any:ReadsA 245 100000000:=by
 intro q lb s v xs W hr hl hlb hown hxs hlq
 have hqs:q<W.heap.size:=by obtain⟨_,_,h⟩:=hr;exact h.lt
 have hb0:Below W.heap.size W ((W.alloc (atBox (⟨#[]⟩,⟨#[]⟩))).alloc (nBox 0)):=below_two W _ _
 obtain⟨k1,k2⟩:=two_boxes W (atBox (⟨#[]⟩,⟨#[]⟩)) (nBox 0)
 have hz0:((W.alloc (atBox (⟨#[]⟩,⟨#[]⟩))).alloc (nBox 0)).heap.size=W.heap.size+1+1:=by simp
 have hI:=inner_any 246 te11_any (enters_of Tryz.func246 (by kernel_rfl) rfl) q (W.heap.size+1) W.heap.size s _ (hr.later hb0) hl k2 k1 (by omega) (by omega)
 have hcut:Hid (∀W2,BelX (W.heap.size+1+1) [q,W.heap.size+1,W.heap.size] ((W.alloc (atBox (⟨#[]⟩,⟨#[]⟩))).alloc (nBox 0)) W2→BelX q [] W W2∧W2.heap[lb]?=some (lBox v)∧W2.ownsRow q 106 2 v xs.length (atV xs)):=hid fun W2 hX=>by
  have hX2:BelX q [] W W2:=((BelX.of_below hb0 []).mono (by omega) (fun k hk _=>hk)).trans (hX.mono (by omega) (fun k hk hq=>by simp only[List.mem_cons,List.not_mem_nil,or_false] at hk;omega))
  refine⟨hX2,hX2.at_ hlb hlq (by simp),own_kept hown (fun k hk=>?_)⟩
  obtain⟨h1,h2,cur,h3⟩:=own_blk hown hk
  have hkne:k≠q:=by
   rintro rfl
   obtain⟨_,_,h⟩:=hr
   have h4:=h.at_
   rw[h3] at h4
   cases h4
  exact (hX.block k (by omega) (by simp only[List.mem_cons,List.not_mem_nil,or_false];omega)).trans (hb0.block k h2)
 rw[hz0] at hI
 clear hb0 k1 k2 hz0 hown hlb hr
 unfold atBox nBox at hI hcut
 go_enter Tryz.func245,Tryz.ntmps245
 go_wp2_with fail
 refine hI.mono ?_
 rintro e W2 ⟨r,s',i,u,rfl,hr2,hn2,ha2,hX,hle,hrb,hy,hno⟩
 obtain⟨hX2,hlb2,hown2⟩:=hcut.out W2 hX
 obtain⟨c0,c1⟩:=atBox_load (u:=u) ha2
 have c2:W2.cell? ⟨lb,0,none⟩=some v:=by simp[World.cell?,hlb2,lBox]
 have hqz:q≤W2.heap.size:=by have:=hX2.size;omega
 clear hI hcut hX
 have Hy:=hid hy
 have Hno:=hid hno
 have Hrb:=hid hrb
 clear hy hno hrb
 have hnv:v.ownBlock≠some (W.heap.size+1):=fun e=>by
  obtain⟨_,_,cur,h3⟩:=own_blk hown2 e
  rw[h3] at hn2
  cases hn2
 have hns:=(Array.getElem?_eq_some_iff.1 hn2).1
 have hqW:=hX2.size
 have hqv:v.ownBlock≠some q:=fun e=>by
  obtain⟨_,_,cur,h3⟩:=own_blk hown2 e
  obtain⟨_,_,h⟩:=hr2
  have h4:=h.at_
  rw[h3] at h4
  cases h4
 go_upto_region 5 with (at_builtin;refine wpList_lit _ rfl (.tmp 10) (.tmp 12) 32 rfl q 106 (.agg #[.string ⟨#[]⟩,.string ⟨#[]⟩]) 2 32 sliceT_att (by decide) v xs.length (atV xs) rfl hown2 1 [.string u.1,.string u.2] rfl rfl (fun x hx=>by simp at hx;rcases hx with rfl|rfl<;>rfl) hqz (by omega) ?_;intro ao1 cap1 W3 hown3 hg3 hb3 _;have hlb3:W3.heap[lb]?=some (lBox v):=(hb3.block lb hlq).trans hlb2;have c3:W3.cell? ⟨lb,0,none⟩=some v:=(by simp[World.cell?,hlb3,lBox]);have c4:W3.frozen? ⟨lb,0,none⟩=false:=(by simp[World.frozen?,hlb3,lBox]))
 have hn3:W3.heap[W.heap.size+1]?=some (nBox i):=(hg3.block _ (by simp;omega) (Ne.symm hnv)).trans ((Below.heap_alloc W2 _ _ hns).trans hn2)
 have hr3:RdS q q s' W3:=by
  have h1:RdS q q s' (W2.alloc (.cells #[.string u.1,.string u.2] 106)):=hr2.later ((Below.refl _ _).alloc (Nat.le_refl _) _)
  cases hv:v.ownBlock with
  | none=>rw[hv] at hg3;exact h1.later ⟨hg3.os,hg3.tape,hg3.output,hg3.size,fun k hk=>hg3.block k hk (by simp)⟩
  | some k=>
   rw[hv] at hg3
   obtain⟨_,hk2,cur,hk3⟩:=own_blk hown2 hv
   exact h1.grown hg3 ((Below.heap_alloc W2 _ _ hk2).trans hk3) (fun c fr h=>by cases h) (fun e=>hqv (by rw[hv,e]))
 have hl4:(W3.setCell ⟨lb,0,none⟩ (.slice ao1 (xs.length+1) cap1)).heap[lb]?=some (lBox (.slice ao1 (xs.length+1) cap1)):=at_set hlb3
 have hn4:(W3.setCell ⟨lb,0,none⟩ (.slice ao1 (xs.length+1) cap1)).heap[W.heap.size+1]?=some (nBox i):=at_other hn3 (by omega)
 have hr4:RdS q q s' (W3.setCell ⟨lb,0,none⟩ (.slice ao1 (xs.length+1) cap1)):=hr3.grown (grown_set _ _ _ _) hlb3 (fun c fr h=>by cases h) (by omega)
 have hX4:BelX q [lb] W (W3.setCell ⟨lb,0,none⟩ (.slice ao1 (xs.length+1) cap1)):=((hX2.mono (Nat.le_refl _) (fun _ hk _=>absurd hk List.not_mem_nil)).trans (BelX.of_below hb3 _)).set _ _ _ (.inl (by simp))
 have ho4:(W3.setCell ⟨lb,0,none⟩ (.slice ao1 (xs.length+1) cap1)).ownsRow q 106 2 (.slice ao1 (xs.length+1) cap1) (xs++[u]).length (atV (xs++[u])):=by
  rw[List.length_append,List.length_singleton,atV_snoc]
  exact own_kept hown3 (fun k hk=>Below.heap_setCell _ _ _ _ (by have:=(own_blk hown3 hk).1;show k≠lb;omega))
 clear hlb3 c3 c4 hn3 hr3 hown3 hg3 hb3 c0 c1 c2 hn2 ha2 hr2 hown2 hlb2 hX2
 generalize hW4:W3.setCell _ _=W4 at *
 clear hW4
 have d0:W4.cell? ⟨lb,0,none⟩=some (.slice ao1 (xs.length+1) cap1):=by simp[World.cell?,hl4,lBox]
 have d1:W4.cell? ⟨W.heap.size+1,0,none⟩=some (.int .i64 i):=by simp[World.cell?,hn4,nBox]
 have hG:∀b:Bool,(b=true→r=true∧i=2∧xs.length<100000000)→(b=false→¬(r=true∧i=2)∨100000000≤xs.length)→GivesAt q lb 100000000 s xs W (.returned (.bool b)) W4:=by
  intro b hb1 hb2
  refine⟨b,s',u,_,rfl,hr4,hl4,ho4,hX4,hle,fun hb _=>?_,fun hn=>?_⟩
  ·obtain⟨h1,h2,h3⟩:=hb1 hb
   exact⟨h3,Hy.out h1 h2⟩
  cases b with
  | false=>
   rcases hb2 rfl with h | h
   ·exact (Hno.out h).imp id .inr
   exact .inr (.inl h)
  | true=>
   obtain⟨h1,h2,h3⟩:=hb1 rfl
   rcases hn with h | h
   ·cases h
   rw[Hrb.out h1] at h;cases h
 have HG:=hid hG
 clear hG hr4 hl4 ho4 hX4 hn4
 cases r with
 | false=>
  go_wp2
  go_ret
  exact HG.out false (fun h=>by cases h) (fun _=>.inl (fun h=>by cases h.1))
 | true=>
  by_cases hi:i=2
  ·have f0:(i==2)=true:=by rw[hi];rfl
   have Hi:=hid hi
   clear hi
   go_wp2
   go_ret
   exact HG.out true (fun _=>⟨by first | rfl | trivial,Hi.out,by omega⟩) (fun h=>by cases h)
  have f0:(i==2)=false:=by rw[beq_eq_false_iff_ne];exact hi
  go_wp2
  go_ret
  exact HG.out false (fun h=>by cases h) (fun _=>.inl (fun h=>hi h.2))
set_option maxRecDepth 100000 in
theorem entTake_any (B g:Nat)(s:RS)(t:UInt8)(W:World)(ht:0<t.toNat)(hr:RdS B g s W)(hl:s.l.length≤100000000) :
  Calls Tryz.prog 241 #[.pointer (some ⟨g,0,none⟩),.int .u8 (t.toNat:Int)] W (GivesEs B g t s W):=by
 have hgs:g<W.heap.size:=by obtain⟨_,_,h⟩:=hr;exact h.lt
 have hb0:Below W.heap.size W (W.alloc (lBox (.slice none 0 0))):=(Below.refl _ _).alloc (Nat.le_refl _) _
 have k0:(W.alloc (lBox (.slice none 0 0))).heap[W.heap.size]?=some (lBox (.slice none 0 0)):=by show (W.heap.push _)[W.heap.size]?=some _;exact Array.getElem?_push_size
 have hA:=alist_any 245 100000000 te1_any (enters_of Tryz.func245 (by kernel_rfl) rfl) B g W.heap.size s t _ ht (hr.later hb0) hl k0 (by omega)
 have hz:(W.alloc (lBox (.slice none 0 0))).heap.size=W.heap.size+1:=by simp
 have hcut:Hid (∀W2,BelX (W.heap.size+1) [g,W.heap.size] (W.alloc (lBox (.slice none 0 0))) W2→W.grownBy W2 (some g)):=hid fun W2 h=>
  ⟨h.os.trans hb0.os,h.tape.trans hb0.tape,h.output.trans hb0.output,Nat.le_trans hb0.size h.size,fun k h1 h2=>(h.block k (by omega) (by simp only[List.mem_cons,List.not_mem_nil,or_false,not_or];exact⟨fun e=>h2 (by rw[e]),by omega⟩)).trans (hb0.block k h1)⟩
 have HT:=hid ht
 rw[hz] at hA
 clear hb0 k0 hz hr ht
 unfold lBox at hA hcut
 go_enter Tryz.func241,Tryz.ntmps241
 go_wp2_with fail
 refine hA.mono ?_
 rintro e W2 ⟨r,s',v,xs,rfl,h1,h2,h3,h4,h5,h6,h7,h8⟩
 have hg2:=hcut.out W2 h4
 obtain⟨ao,cap,rfl,hrd⟩:=Rd.of_own h3
 have hfr:∀a,ao=some a→W.heap.size≤a.block:=fun a ha=>by have:=own_fresh h3 a ha;omega
 have hty:=TyX.of_own h3
 clear hA hcut h4
 have H7:=hid h7
 have H8:=hid h8
 clear h7 h8
 have hn1:xs.length≤100000000:=by omega
 have hfail:∀W3:World,RdS B g s' W3→W.grownBy W3 (some g)→(s.bad=true∨∀ys rest,mayAttrs ys=true∧(attB ys).length≤4194304→s.l≠val t (attB ys)++rest)→GivesEs B g t s W (.returned (.slice none 0 0)) (W3.setCell ⟨g,1,none⟩ (.bool true)):=fun W3 hR hG hno=>by
  refine⟨none,0,0,[],⟨s'.l,true⟩,rfl,Rd.nil _ _,Nat.zero_le _,fun h=>absurd h (Nat.lt_irrefl 0),?_,grown_trans hG (grown_set _ _ _ _),fun h=>(by cases h),fun _=>hno,h5⟩
  obtain⟨a,c,h⟩:=hR
  exact⟨a,c,h.fail⟩
 have HF:=hid hfail
 clear hfail
 cases r with
 | true=>
  have c0:W2.cell? ⟨W.heap.size,0,none⟩=some (.slice ao xs.length cap):=by simp[World.cell?,h2]
  have hm:=mayAttrs_any ao xs.length cap xs W2 hrd (by omega)
  go_wp2_with fail
  refine hm.mono ?_
  rintro e W3 ⟨rfl,hb3⟩
  have h23:=(hb3.block _ (Array.getElem?_eq_some_iff.1 h2).1).trans h2
  have h13:=h1.later hb3
  have g3:=grown_trans hg2 (grown_any hb3 (some g))
  clear hm c0
  cases hmm:mayAttrs xs with
  | true=>
   have HM:=hid hmm
   clear hmm
   have c0:W3.cell? ⟨W.heap.size,0,none⟩=some (.slice ao xs.length cap):=by simp[World.cell?,h23]
   have hty3:TyX 106 W3 ao cap:=hty.kpr (.inr (.inr rfl)) (KeepR.of_below hb3)
   have hrd3:=hrd.later hb3
   go_wp2
   go_ret
   refine⟨ao,_,cap,xs,s',rfl,hrd3,hn1,hty3,h13,g3,⟨fun _=>?_,fun hb=>?_,h5⟩⟩
   ·obtain⟨_,e2,e3,e4⟩:=H7.out (by first | rfl | trivial)
    exact⟨e2,e3,HM.out,e4⟩
   rw[(H7.out (by first | rfl | trivial)).1] at hb;cases hb
  | false=>
   have HM:=hid hmm
   clear hmm
   have hno:s.bad=true∨∀ys rest,mayAttrs ys=true∧(attB ys).length≤4194304→s.l≠val t (attB ys)++rest:=by
    obtain⟨_,e2,e3,e4⟩:=H7.out (by first | rfl | trivial)
    refine .inr fun ys rest hy e=>?_
    rw[e3] at e
    have:=attB_inj xs ys e4 hy.2 (val_inj HT.out e4 hy.2 e).1
    rw[this] at HM
    have:=HM.out
    rw[hy.1] at this
    cases this
   have HG:=HF.out W3 h13 g3 hno
   go_wp2_with fail
   refine (rfail_any B g s' W3 h13).mono ?_
   rintro e W4 ⟨⟨r,rfl⟩,h9,rfl⟩
   generalize W3.setCell _ _=W4 at *
   go_wp2
   go_ret
   exact HG
 | false=>
  have HG:=HF.out W2 h1 hg2 (((H8.out (by first | rfl | trivial)).2).imp id (fun h ys rest hy=>h ys rest (by have:=mayAttrs_len hy.1;omega) hy.2))
  go_wp2_with fail
  refine (rfail_any B g s' W2 h1).mono ?_
  rintro e W4 ⟨⟨r,rfl⟩,h9,rfl⟩
  generalize W2.setCell _ _=W4 at *
  go_wp2
  go_ret
  exact HG
end Go.Proofs.YtfmmandlmbcncaaGreatDoor.Msg
