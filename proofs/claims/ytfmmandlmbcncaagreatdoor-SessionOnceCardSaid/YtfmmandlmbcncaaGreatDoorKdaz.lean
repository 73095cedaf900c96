/-
  A part of the proof.
-/
import Derived.Test.YtfmmandlmbcncaaGreatDoorKday
set_option maxHeartbeats 40000000
set_option maxRecDepth 100000
namespace Go.Proofs.YtfmmandlmbcncaaGreatDoor.Msg
open Go.RowKit Go.Lib Mem Tlv
def DK (B g:Nat)(t:UInt8)(s:RS)(W:World)(e:Ending)(w':World):Prop:=∃ao n cap xs s',e=.returned (.slice ao n cap)/\Rd w' 2 ao n cap (atV xs)/\n<=100000000/\TyX 106 w' ao cap/\RdS B g s' w'/\W.grownBy w' (some g) /\
 Took (fun ys=>val t (aC ys)) (fun ys=>bH ys=true/\(aC ys).length<=4194304) (fun ys=>bH ys=true/\(aC ys).length<=4194304) s xs s'
theorem ug {x:List (ByteArray×ByteArray)}(h:bH x=true):x.length<=50:=by
 unfold bH at h;simp only[Bool.and_eq_true,decide_eq_true_eq] at h;exact h.2
theorem JY:yu 246:=by
 intro q nb ab s i x1 x2 W hr hl hn ha h1 h2 hi;have hnab:nb≠ab:=by rintro rfl;rw[hn] at ha;cases ha
 have c0:W.cell? ⟨nb,0,none⟩=some (.int .i64 (i:Int)):=by simp[World.cell?,hn,dD]
 have f0:W.frozen? ⟨nb,0,none⟩=false:=by simp[World.frozen?,hn,dD]
 obtain⟨j,hj⟩:∃j:Int,j=((i+1:Nat):Int):=⟨_,rfl⟩
 have hw:IntKind.i64.wrap ((i:Int)+1)=j:=(gB _ (by omega) (by omega)).trans (by omega);have hle:decide (j<=2)=decide (i+1<=2):=by rw[decide_eq_decide];omega
 have f1:(j==1)=decide (i=0):=by rw[Bool.eq_iff_iff];simp;omega
 rw[<-hle,<-hj];clear hj hle;have hn1:(W.setCell ⟨nb,0,none⟩ (.int .i64 j)).heap[nb]?=some (dD j):=at_set hn;have ha1:(W.setCell ⟨nb,0,none⟩ (.int .i64 j)).heap[ab]?=some (bC (x1,x2)):=af ha (Ne.symm hnab);have hg1:W.grownBy (W.setCell ⟨nb,0,none⟩ (.int .i64 j)) (some nb):=ai _ _ _ _;have hr1:RdS q q s (W.setCell ⟨nb,0,none⟩ (.int .i64 j)):=hr.grown hg1 hn (fun c fr h=>by cases h) (by omega);have hb1:BelX q [nb,ab] W (W.setCell ⟨nb,0,none⟩ (.int .i64 j)):=(BelX.refl _ _ _).set _ _ _ (.inl (by simp));have hq:W.heap.size<=(W.setCell ⟨nb,0,none⟩ (.int .i64 j)).heap.size:=hb1.size;have hqs:q<W.heap.size:=by obtain⟨_,_,h⟩:=hr;exact h.lt
 have d0:(W.setCell ⟨nb,0,none⟩ (.int .i64 j)).cell? ⟨nb,0,none⟩=some (.int .i64 j):=by simp[World.cell?,hn1,dD]
 generalize hW1:W.setCell ⟨nb,0,none⟩ (.int .i64 j)=W1 at *;by_cases h0:i=0
 ·rw[if_pos h0,if_pos h0];rw[decide_eq_true h0] at f1;have hc:=jb q q s 1 _ hr1 hl;clear h0;go_in;go_wp2_with fail;refine hc.mono ?_;rintro e W2 ⟨rfl,h3,h4⟩;have ha2:W2.heap[ab]?=some (bC (x1,x2)):=(h4.block _ (by omega) (fun e=>by have:=Option.some.inj e;omega)).trans ha1;have hn2:W2.heap[nb]?=some (dD j):=(h4.block _ (by omega) (fun e=>by have:=Option.some.inj e;omega)).trans hn1;have g0:W2.cell? ⟨ab,0,none⟩=some (.string x1):=by simp[World.cell?,ha2,bC]
  have g1:W2.frozen? ⟨ab,0,none⟩=false:=by simp[World.frozen?,ha2,bC]
  have hn3:(W2.setCell ⟨ab,0,none⟩ (.string ⟨(s.bytes 1).1.toArray⟩)).heap[nb]?=some (dD j):=af hn2 hnab;have ha3:(W2.setCell ⟨ab,0,none⟩ (.string ⟨(s.bytes 1).1.toArray⟩)).heap[ab]?=some (bC (⟨(s.bytes 1).1.toArray⟩,x2)):=at_set ha2;have hr3:RdS q q (s.bytes 1).2 (W2.setCell ⟨ab,0,none⟩ (.string ⟨(s.bytes 1).1.toArray⟩)):=h3.grown (ai _ _ _ _) ha2 (fun c fr h=>by cases h) (by omega);have hb3:BelX q [nb,ab] W (W2.setCell ⟨ab,0,none⟩ (.string ⟨(s.bytes 1).1.toArray⟩)):=(hb1.trans ((iI h4 (by omega)).mono (Nat.le_refl _) (fun k hk h=>by rw[List.mem_singleton.1 hk] at h;omega))).set _ _ _ (.inl (by simp));have k0:(W2.setCell ⟨ab,0,none⟩ (.string ⟨(s.bytes 1).1.toArray⟩)).cell? ⟨nb,0,none⟩=some (.int .i64 j):=by simp[World.cell?,hn3,dD]
  clear hW1;go_wp2_with fail;go_ret;exact⟨rfl,hr3,hn3,ha3,hb3⟩
 rw[if_neg h0,if_neg h0];rw[decide_eq_false h0] at f1;have hc:=jb q q s 2 _ hr1 hl;clear h0;go_in;go_wp2_with fail;refine hc.mono ?_;rintro e W2 ⟨rfl,h3,h4⟩;have ha2:W2.heap[ab]?=some (bC (x1,x2)):=(h4.block _ (by omega) (fun e=>by have:=Option.some.inj e;omega)).trans ha1;have hn2:W2.heap[nb]?=some (dD j):=(h4.block _ (by omega) (fun e=>by have:=Option.some.inj e;omega)).trans hn1;have g0:W2.cell? ⟨ab,1,none⟩=some (.string x2):=by simp[World.cell?,ha2,bC]
 have g1:W2.frozen? ⟨ab,1,none⟩=false:=by simp[World.frozen?,ha2,bC]
 have hn3:(W2.setCell ⟨ab,1,none⟩ (.string ⟨(s.bytes 2).1.toArray⟩)).heap[nb]?=some (dD j):=af hn2 hnab;have ha3:(W2.setCell ⟨ab,1,none⟩ (.string ⟨(s.bytes 2).1.toArray⟩)).heap[ab]?=some (bC (x1,⟨(s.bytes 2).1.toArray⟩)):=at_set ha2;have hr3:RdS q q (s.bytes 2).2 (W2.setCell ⟨ab,1,none⟩ (.string ⟨(s.bytes 2).1.toArray⟩)):=h3.grown (ai _ _ _ _) ha2 (fun c fr h=>by cases h) (by omega);have hb3:BelX q [nb,ab] W (W2.setCell ⟨ab,1,none⟩ (.string ⟨(s.bytes 2).1.toArray⟩)):=(hb1.trans ((iI h4 (by omega)).mono (Nat.le_refl _) (fun k hk h=>by rw[List.mem_singleton.1 hk] at h;omega))).set _ _ _ (.inl (by simp));have k0:(W2.setCell ⟨ab,1,none⟩ (.string ⟨(s.bytes 2).1.toArray⟩)).cell? ⟨nb,0,none⟩=some (.int .i64 j):=by simp[World.cell?,hn3,dD]
 clear hW1;go_wp2_with fail;go_ret;exact⟨rfl,hr3,hn3,ha3,hb3⟩
theorem O4:BK 245 100000000:=by
 intro q lb s v xs W hr hl hlb hown hxs hlq;have hqs:q<W.heap.size:=by obtain⟨_,_,h⟩:=hr;exact h.lt
 have hb0:Below W.heap.size W ((W.alloc (bC (⟨#[]⟩,⟨#[]⟩))).alloc (dD 0)):=bU W _ _;obtain⟨k1,k2⟩:=bY W (bC (⟨#[]⟩,⟨#[]⟩)) (dD 0);have hz0:((W.alloc (bC (⟨#[]⟩,⟨#[]⟩))).alloc (dD 0)).heap.size=W.heap.size+1+1:=by simp
 have hI:=yQ 246 JY (enters_of Tryz.func246 (by kernel_rfl) rfl) q (W.heap.size+1) W.heap.size s _ (hr.later hb0) hl k2 k1 (by omega) (by omega);have hcut:Hid (∀W2,BelX (W.heap.size+1+1) [q,W.heap.size+1,W.heap.size] ((W.alloc (bC (⟨#[]⟩,⟨#[]⟩))).alloc (dD 0)) W2->BelX q [] W W2/\W2.heap[lb]?=some (eH v)/\W2.ownsRow q 106 2 v xs.length (atV xs)):=hid fun W2 hX=>by
  have hX2:BelX q [] W W2:=((BelX.of_below hb0 []).mono (by omega) (fun k hk _=>hk)).trans (hX.mono (by omega) (fun k hk hq=>by simp only[List.mem_cons,List.not_mem_nil,or_false] at hk;omega));refine⟨hX2,hX2.at_ hlb hlq (by simp),dO hown (fun k hk=>?_)⟩;obtain⟨h1,h2,cur,h3⟩:=bz hown hk;have hkne:k≠q:=by
   rintro rfl;obtain⟨_,_,h⟩:=hr;have h4:=h.at_;rw[h3] at h4;cases h4
  exact (hX.block k (by omega) (by simp only[List.mem_cons,List.not_mem_nil,or_false];omega)).trans (hb0.block k h2)
 rw[hz0] at hI;clear hb0 k1 k2 hz0 hown hlb hr;unfold bC dD at hI hcut;go_in;go_wp2_with fail;refine hI.mono ?_;rintro e W2 ⟨r,s',i,u,rfl,hr2,hn2,ha2,hX,hle,hrb,hy,hno⟩;obtain⟨hX2,hlb2,hown2⟩:=hcut.out W2 hX;obtain⟨c0,c1⟩:=lJ (u:=u) ha2;have c2:W2.cell? ⟨lb,0,none⟩=some v:=by simp[World.cell?,hlb2,eH]
 have hqz:q<=W2.heap.size:=by have:=hX2.size;omega
 clear hI hcut hX;have Hy:=hid hy;have Hno:=hid hno;have Hrb:=hid hrb;clear hy hno hrb;have hnv:v.ownBlock≠some (W.heap.size+1):=fun e=>by
  obtain⟨_,_,cur,h3⟩:=bz hown2 e;rw[h3] at hn2;cases hn2
 have hns:=(Array.getElem?_eq_some_iff.1 hn2).1;have hqW:=hX2.size;have hqv:v.ownBlock≠some q:=fun e=>by
  obtain⟨_,_,cur,h3⟩:=bz hown2 e;obtain⟨_,_,h⟩:=hr2;have h4:=h.at_;rw[h3] at h4;cases h4
 go_upto_region 5 with (at_builtin;refine fD _ rfl (.tmp 10) (.tmp 12) 32 rfl q 106 (.agg #[.string ⟨#[]⟩,.string ⟨#[]⟩]) 2 32 mW (by decide) v xs.length (atV xs) rfl hown2 1 [.string u.1,.string u.2] rfl rfl (fun x hx=>by simp at hx;rcases hx with rfl|rfl<;>rfl) hqz (by omega) ?_;intro ao1 cap1 W3 hown3 hg3 hb3 _;have hlb3:W3.heap[lb]?=some (eH v):=(hb3.block lb hlq).trans hlb2;have c3:W3.cell? ⟨lb,0,none⟩=some v:=(by simp[World.cell?,hlb3,eH]);have c4:W3.frozen? ⟨lb,0,none⟩=false:=(by simp[World.frozen?,hlb3,eH]));have hn3:W3.heap[W.heap.size+1]?=some (dD i):=(hg3.block _ (by simp;omega) (Ne.symm hnv)).trans ((Below.heap_alloc W2 _ _ hns).trans hn2);have hr3:RdS q q s' W3:=by
  have h1:RdS q q s' (W2.alloc (.cells #[.string u.1,.string u.2] 106)):=hr2.later ((Below.refl _ _).alloc (Nat.le_refl _) _);cases hv:v.ownBlock with
  | none=>rw[hv] at hg3;exact h1.later ⟨hg3.os,hg3.tape,hg3.output,hg3.size,fun k hk=>hg3.block k hk (by simp)⟩
  | some k=>
   rw[hv] at hg3;obtain⟨_,hk2,cur,hk3⟩:=bz hown2 hv;exact h1.grown hg3 ((Below.heap_alloc W2 _ _ hk2).trans hk3) (fun c fr h=>by cases h) (fun e=>hqv (by rw[hv,e]))
 have hl4:(W3.setCell ⟨lb,0,none⟩ (.slice ao1 (xs.length+1) cap1)).heap[lb]?=some (eH (.slice ao1 (xs.length+1) cap1)):=at_set hlb3;have hn4:(W3.setCell ⟨lb,0,none⟩ (.slice ao1 (xs.length+1) cap1)).heap[W.heap.size+1]?=some (dD i):=af hn3 (by omega);have hr4:RdS q q s' (W3.setCell ⟨lb,0,none⟩ (.slice ao1 (xs.length+1) cap1)):=hr3.grown (ai _ _ _ _) hlb3 (fun c fr h=>by cases h) (by omega);have hX4:BelX q [lb] W (W3.setCell ⟨lb,0,none⟩ (.slice ao1 (xs.length+1) cap1)):=((hX2.mono (Nat.le_refl _) (fun _ hk _=>absurd hk List.not_mem_nil)).trans (BelX.of_below hb3 _)).set _ _ _ (.inl (by simp));have ho4:(W3.setCell ⟨lb,0,none⟩ (.slice ao1 (xs.length+1) cap1)).ownsRow q 106 2 (.slice ao1 (xs.length+1) cap1) (xs++[u]).length (atV (xs++[u])):=by
  rw[List.length_append,List.length_singleton,wz];exact dO hown3 (fun k hk=>Below.heap_setCell _ _ _ _ (by have:=(bz hown3 hk).1;show k≠lb;omega))
 clear hlb3 c3 c4 hn3 hr3 hown3 hg3 hb3 c0 c1 c2 hn2 ha2 hr2 hown2 hlb2 hX2;generalize hW4:W3.setCell _ _=W4 at *;clear hW4;have d0:W4.cell? ⟨lb,0,none⟩=some (.slice ao1 (xs.length+1) cap1):=by simp[World.cell?,hl4,eH]
 have d1:W4.cell? ⟨W.heap.size+1,0,none⟩=some (.int .i64 i):=by simp[World.cell?,hn4,dD]
 have hG:∀b:Bool,(b=true->r=true/\i=2/\xs.length<100000000)->(b=false->¬(r=true/\i=2)\/100000000<=xs.length)->yx q lb 100000000 s xs W (.returned (.bool b)) W4:=by
  intro b hb1 hb2;refine⟨b,s',u,_,rfl,hr4,hl4,ho4,hX4,hle,fun hb _=>?_,fun hn=>?_⟩
  ·obtain⟨h1,h2,h3⟩:=hb1 hb;exact⟨h3,Hy.out h1 h2⟩
  cases b with
  | false=>
   rcases hb2 rfl with h | h
   ·exact (Hno.out h).imp id .inr
   exact .inr (.inl h)
  | true=>
   obtain⟨h1,h2,h3⟩:=hb1 rfl;rcases hn with h | h
   ·cases h
   rw[Hrb.out h1] at h;cases h
 have HG:=hid hG;clear hG hr4 hl4 ho4 hX4 hn4;cases r with
 | false=>
  go_wp2;go_ret;exact HG.out false (fun h=>by cases h) (fun _=>.inl (fun h=>by cases h.1))
 | true=>
  by_cases hi:i=2
  ·have f0:(i==2)=true:=by rw[hi];rfl
   have Hi:=hid hi;clear hi;go_wp2;go_ret;exact HG.out true (fun _=>⟨by first | rfl | trivial,Hi.out,by omega⟩) (fun h=>by cases h)
  have f0:(i==2)=false:=by rw[beq_eq_false_iff_ne];exact hi
  go_wp2;go_ret;exact HG.out false (fun h=>by cases h) (fun _=>.inl (fun h=>hi h.2))
theorem Di (B g:Nat)(s:RS)(t:UInt8)(W:World)(ht:0<t.toNat)(hr:RdS B g s W)(hl:s.l.length<=100000000) :
  Calls Tryz.prog 241 #[.pointer (some ⟨g,0,none⟩),.int .u8 (t.toNat:Int)] W (DK B g t s W):=by
 have hgs:g<W.heap.size:=by obtain⟨_,_,h⟩:=hr;exact h.lt
 have hb0:Below W.heap.size W (W.alloc (eH (.slice none 0 0))):=(Below.refl _ _).alloc (Nat.le_refl _) _;have k0:(W.alloc (eH (.slice none 0 0))).heap[W.heap.size]?=some (eH (.slice none 0 0)):=by show (W.heap.push _)[W.heap.size]?=some _;exact Array.getElem?_push_size
 have hA:=zg 245 100000000 O4 (enters_of Tryz.func245 (by kernel_rfl) rfl) B g W.heap.size s t _ ht (hr.later hb0) hl k0 (by omega);have hz:(W.alloc (eH (.slice none 0 0))).heap.size=W.heap.size+1:=by simp
 have hcut:Hid (∀W2,BelX (W.heap.size+1) [g,W.heap.size] (W.alloc (eH (.slice none 0 0))) W2->W.grownBy W2 (some g)):=hid fun W2 h=>
  ⟨h.os.trans hb0.os,h.tape.trans hb0.tape,h.output.trans hb0.output,Nat.le_trans hb0.size h.size,fun k h1 h2=>(h.block k (by omega) (by simp only[List.mem_cons,List.not_mem_nil,or_false,not_or];exact⟨fun e=>h2 (by rw[e]),by omega⟩)).trans (hb0.block k h1)⟩
 have HT:=hid ht;rw[hz] at hA;clear hb0 k0 hz hr ht;unfold eH at hA hcut;go_in;go_wp2_with fail;refine hA.mono ?_;rintro e W2 ⟨r,s',v,xs,rfl,h1,h2,h3,h4,h5,h6,h7,h8⟩;have hg2:=hcut.out W2 h4;obtain⟨ao,cap,rfl,hrd⟩:=Rd.of_own h3;have hfr:∀a,ao=some a->W.heap.size<=a.block:=fun a ha=>by have:=jF h3 a ha;omega
 have hty:=TyX.of_own h3;clear hA hcut h4;have H7:=hid h7;have H8:=hid h8;clear h7 h8;have hn1:xs.length<=100000000:=by omega
 have hfail:∀W3:World,RdS B g s' W3->W.grownBy W3 (some g)->(s.bad=true\/∀ys rest,bH ys=true/\(aC ys).length<=4194304->s.l≠val t (aC ys)++rest)->DK B g t s W (.returned (.slice none 0 0)) (W3.setCell ⟨g,1,none⟩ (.bool true)):=fun W3 hR hG hno=>by
  refine⟨none,0,0,[],⟨s'.l,true⟩,rfl,Rd.nil _ _,Nat.zero_le _,fun h=>absurd h (Nat.lt_irrefl 0),?_,aV hG (ai _ _ _ _),fun h=>(by cases h),fun _=>hno,h5⟩;obtain⟨a,c,h⟩:=hR;exact⟨a,c,h.fail⟩
 have HF:=hid hfail;clear hfail;cases r with
 | true=>
  have c0:W2.cell? ⟨W.heap.size,0,none⟩=some (.slice ao xs.length cap):=by simp[World.cell?,h2]
  have hm:=nN ao xs.length cap xs W2 hrd (by omega);go_wp2_with fail;refine hm.mono ?_;rintro e W3 ⟨rfl,hb3⟩;have h23:=(hb3.block _ (Array.getElem?_eq_some_iff.1 h2).1).trans h2;have h13:=h1.later hb3;have g3:=aV hg2 (fG hb3 (some g));clear hm c0;cases hmm:bH xs with
  | true=>
   have HM:=hid hmm;clear hmm;have c0:W3.cell? ⟨W.heap.size,0,none⟩=some (.slice ao xs.length cap):=by simp[World.cell?,h23]
   have hty3:TyX 106 W3 ao cap:=hty.kpr (.inr (.inr rfl)) (KeepR.of_below hb3);have hrd3:=hrd.later hb3;go_wp2;go_ret;refine⟨ao,_,cap,xs,s',rfl,hrd3,hn1,hty3,h13,g3,⟨fun _=>?_,fun hb=>?_,h5⟩⟩
   ·obtain⟨_,e2,e3,e4⟩:=H7.out (by first | rfl | trivial);exact⟨e2,e3,HM.out,e4⟩
   rw[(H7.out (by first | rfl | trivial)).1] at hb;cases hb
  | false=>
   have HM:=hid hmm;clear hmm;have hno:s.bad=true\/∀ys rest,bH ys=true/\(aC ys).length<=4194304->s.l≠val t (aC ys)++rest:=by
    obtain⟨_,e2,e3,e4⟩:=H7.out (by first | rfl | trivial);refine .inr fun ys rest hy e=>?_;rw[e3] at e;have:=lK xs ys e4 hy.2 (ak HT.out e4 hy.2 e).1;rw[this] at HM;have:=HM.out;rw[hy.1] at this;cases this
   have HG:=HF.out W3 h13 g3 hno;go_wp2_with fail;refine (kR B g s' W3 h13).mono ?_;rintro e W4 ⟨⟨r,rfl⟩,h9,rfl⟩;generalize W3.setCell _ _=W4 at *;go_wp2;go_ret;exact HG
 | false=>
  have HG:=HF.out W2 h1 hg2 (((H8.out (by first | rfl | trivial)).2).imp id (fun h ys rest hy=>h ys rest (by have:=ug hy.1;omega) hy.2));go_wp2_with fail;refine (kR B g s' W2 h1).mono ?_;rintro e W4 ⟨⟨r,rfl⟩,h9,rfl⟩;generalize W2.setCell _ _=W4 at *;go_wp2;go_ret;exact HG
def qU (b:List UInt8):Prop:=∀v x,au v x=true->eu v x≠b
theorem oM (v:EV)(x:List (ByteArray×ByteArray)):eu v x=val 1 v.name.data.toList++(val 2 (aC x)++[]):=by unfold eu;simp
theorem zU {v v':EV}{x:List (ByteArray×ByteArray)}(h:v.name=v'.name):au v x=au v' x:=by unfold au;rw[h]
theorem MN {v v':EV}{x x':List (ByteArray×ByteArray)}(hm:au v x=true)(hm':au v' x'=true)(h:eu v x=eu v' x'):bJ v x v' x'=true:=by
 have f:=FitE.of hm;have f':=FitE.of hm';have n1:=f.name;have n2:=f'.name;have a1:=f.len;have a2:=f'.len;have z1:v.name.data.toList.length=v.name.size:=fH _;have z2:v'.name.data.toList.length=v'.name.size:=fH _;rw[oM,oM] at h;obtain⟨h1,h⟩:=ak (by decide) (by omega) (by omega) h;obtain⟨h2,-⟩:=ak (by decide) (by omega) (by omega) h;have h3:=lK x x' (by omega) (by omega) h2;unfold bJ;rw[decide_eq_true (kP h1),decide_eq_true h3];rfl
section
variable {b y:List UInt8} {s1 s2:RS} {xs:List (ByteArray×ByteArray)}
 (T1:Took (val 1) (fun z=>z.length<=4194304) (fun z=>z.length<=4194304) ⟨b,false⟩ y s1)
 (T2:Took (fun ys=>val 2 (aC ys)) (fun ys=>bH ys=true/\(aC ys).length<=4194304) (fun ys=>(aC ys).length<=4194304) s1 xs s2)
include T1 T2
theorem rJ {v0:EV}(hv:v0.name=⟨y.toArray⟩)(h:(s2.bad=true\/0<s2.l.length)\/au v0 xs=false):qU b:=by
 intro v x hm e;have f:=FitE.of hm;have n1:=f.name;have a1:=f.len;have z1:v.name.data.toList.length=v.name.size:=fH _;have hma:bH x=true:=by
  unfold au at hm;simp only[Bool.and_eq_true] at hm;exact hm.2
 rw[oM] at e;cases h1:s1.bad with
 | true=>
  rcases T1.no h1 with h | h
  ·cases h
  exact h _ _ (by omega) e.symm
 | false=>
  obtain⟨-,e1,g1⟩:=T1.yes h1;dsimp only at e1;rw[e1] at e;obtain⟨en,e⟩:=ak (by decide) (by omega) g1 e;cases h2:s2.bad with
  | true=>
   rcases T2.no h2 with h | h
   ·rw[h1] at h;cases h
   exact h x [] ⟨hma,by omega⟩ e.symm
  | false=>
   obtain⟨-,e2,g2⟩:=T2.yes h2;rw[e2] at e;obtain⟨ea,e⟩:=ak (by decide) (by omega) g2 e;have hx:=lK x xs (by omega) g2 ea;rcases h with (h | h) | h
   ·rw[h2] at h;cases h
   ·rw[<-e] at h;simp at h
   have hn:v.name=v0.name:=by
    rw[hv];refine kP ?_;rw[en]
   rw[<-hx,<-zU hn,hm] at h;cases h
theorem Af {v0:EV}(hv:v0.name=⟨y.toArray⟩)(h2:s2.bad=false)(hl:s2.l=[]):eu v0 xs=b:=by
 obtain⟨h1,e2,-⟩:=T2.yes h2;obtain⟨-,e1,-⟩:=T1.yes h1;dsimp only at e1;rw[oM,hv,e1,e2,hl]
end
theorem jr {α:Type}{body:α->List UInt8}{may may' good good':α->Prop}{s s':RS}{y:α}(h:Took body may good s y s')(h1:∀z,may' z->may z)(h2:∀z,good z->good' z):Took body may' good' s y s':=
 ⟨fun hb=>by obtain⟨a,b,c⟩:=h.yes hb;exact⟨a,b,h2 _ c⟩,fun hb=>(h.no hb).imp id (fun k z r hz=>k z r (h1 z hz)),h.le⟩
def uP (ok bad:Value)(b:List UInt8)(w:World)(e:Ending)(w':World):Prop:=Below w.heap.size w w' /\
 ((∃v x,e=.returned (.tuple #[EV.val v,ok])/\EAt w' v x/\TyX 106 w' v.ao v.ac/\au v x=true/\eu v x=b)\/(e=.returned (.tuple #[zeroE.val,bad])/\qU b))
theorem yL {W W':World}{b:Nat}{r:EV}(h:W.heap[b]?=some r.box)(hs:W.heap.size<=W'.heap.size)(ho:∀k,k≠b->W'.heap[k]?=W.heap[k]?):KeepR W W':=by
 refine⟨hs,fun k c t fr ht hk=>?_⟩;have hne:k≠b:=fun e=>by
  subst e;rw[h] at hk;cases hk;rcases ht with h | h | h<;>exact absurd h (by decide)
 exact (ho k hne).trans hk
theorem IX (b:List UInt8)(ao:Option Addr)(n cap:Nat)(w:World)(hr:Rd w 1 ao n cap (byV b))(hn:n<=100000000) :
  Calls Tryz.prog 231 #[.slice ao n cap] w (uP (.int .i64 0) (.int .i64 4) b w):=by
 have hbn:b.length=n:=by have:=hr.1;rw[aS] at this;omega
 have hb0:Below w.heap.size w (w.alloc zeroE.box):=(Below.refl _ _).alloc (Nat.le_refl _) _;have k0:(w.alloc zeroE.box).heap[w.heap.size]?=some zeroE.box:=by show (w.heap.push _)[w.heap.size]?=some _;exact Array.getElem?_push_size
 have hz0:(w.alloc zeroE.box).heap.size=w.heap.size+1:=by simp
 have hr0:=hr.later hb0;unfold zeroE EV.box EV.cells at hb0 k0 hz0 hr0;dsimp only at hb0 k0 hz0 hr0;clear hr;go_in;go_upto_region 1 with fail;generalize hg:w.alloc _=W0 at *;have k0f:W0.heap[w.heap.size]?=some zeroE.box:=k0;clear hg k0;go_wp2_with fail;refine (nT ao n cap b W0 hr0 (by omega)).mono ?_;rintro e W1 ⟨g,rfl,hr1,hb1⟩;have hg0:W0.heap.size<=g:=by obtain⟨_,_,h⟩:=hr1;exact h.le
 have T1:=bI ⟨b,false⟩ 1 (by decide);have htx:=jb W0.heap.size g ⟨b,false⟩ 1 W1 hr1 (by dsimp only;omega);generalize RS.bytes ⟨b,false⟩ 1=nm at *;obtain⟨y,s1⟩:=nm;dsimp only at T1 htx;go_wp2_with fail;refine htx.mono ?_;rintro e W2 ⟨rfl,hr2,hg2⟩;have l1:=T1.le;dsimp only at l1;have hb2:Below W0.heap.size W0 W2:=hb1.trans (below_of_grown hg2 hg0 (by obtain⟨_,_,h⟩:=hr1;exact h.lt));go_wp2_with fail;refine (Di W0.heap.size g s1 2 W2 (by decide) hr2 (by omega)).mono ?_;rintro e W3 ⟨a3,n3,c3,xs,s2,rfl,hrd3,hn3,hty3,hr3,hg3,T2'⟩;have T2:=jr T2' (may':=fun ys=>bH ys=true/\(aC ys).length<=4194304) (good':=fun ys=>(aC ys).length<=4194304) (fun _ h=>h) (fun _ h=>h.2);have hb3:Below W0.heap.size W0 W3:=hb2.trans (below_of_grown hg3 hg0 (by obtain⟨_,_,h⟩:=hr2;exact h.lt));clear T2' htx hg2 hg3 hr1 hr2 hb1 hb2;go_upto_region 3 with (refine zNr rfl ?_;go_simp);generalize hg:W3.alloc _=W4;have e4:W3.alloc (EV.box ⟨⟨y.toArray⟩,a3,n3,c3⟩)=W4:=hg;have hb4':Below W3.heap.size W3 W4:=by rw[<-e4];exact (Below.refl _ _).alloc (Nat.le_refl _) _
 have q4:W4.heap[W3.heap.size]?=some (EV.box ⟨⟨y.toArray⟩,a3,n3,c3⟩):=by rw[<-e4];show (W3.heap.push _)[W3.heap.size]?=some _;exact Array.getElem?_push_size
 have hr4:=hr3.later hb4';have hb4:=hb3.trans (hb4'.mono hb3.size);have hE:EAt W4 ⟨⟨y.toArray⟩,a3,n3,c3⟩ xs:=⟨hrd3.later hb4',by dsimp only;omega⟩
 have hT:TyX 106 W4 a3 c3:=hty3.kpr (.inr (.inr rfl)) (KeepR.of_below hb4');clear hg e4 hr3 hb3 hb4' hrd3 hty3;generalize W3.heap.size=ob at *;have hrz:W4.heap[w.heap.size]?=some zeroE.box:=(hb4.block _ (by omega)).trans k0f;have hbel:=hb0.trans (hb4.mono (by omega));go_wp2_with fail;refine (nJ W0.heap.size g s2 W4 hr4).mono ?_;rintro e w9 ⟨rfl,rfl⟩;by_cases he:s2.bad=true\/0<s2.l.length
 ·have e4:s2.ends=4:=if_pos he;have hno:=rJ T1 T2 (v0:=⟨⟨y.toArray⟩,a3,n3,c3⟩) rfl (.inl he);rw[e4];have f1:(W4.setRow w.heap.size zeroE.cells).heap[w.heap.size]?=some (.cells zeroE.cells 124):=aT hrz;have f2:=below_setRow hbel (Nat.le_refl _) zeroE.cells;go_wp2_with (refine zSr rfl hrz ?_;go_simp);exact bodyPost_ret (w:=W4.setRow w.heap.size zeroE.cells) (aI (i:=2) (j:=3) (t:=124) rfl rfl rfl (by kernel_rfl) (by kernel_rfl) f1) rfl ⟨f2,.inr ⟨rfl,hno⟩⟩
 have e4:s2.ends=0:=if_neg he;have hs1:s2.bad=false:=by cases h:s2.bad with
  | true=>exact absurd (.inl h) he
  | false=>rfl
 have hs2:s2.l=[]:=List.eq_nil_of_length_eq_zero (by
  have:¬0<s2.l.length:=fun h=>he (.inr h);omega)
 rw[e4];have hdone:=Af T1 T2 (v0:=⟨⟨y.toArray⟩,a3,n3,c3⟩) rfl hs1 hs2;have HD:=hid hdone;have hme:=nZ ⟨⟨y.toArray⟩,a3,n3,c3⟩ xs W4 hE;have HN:au ⟨⟨y.toArray⟩,a3,n3,c3⟩ xs=false->qU b:=fun h=>rJ T1 T2 (v0:=⟨⟨y.toArray⟩,a3,n3,c3⟩) rfl (.inr h);have HNo:=hid HN;clear hdone he HN T1 T2;unfold EV.val EV.cells at hme;go_wp2_with (refine zLr rfl q4 ?_;go_simp);refine hme.mono ?_;rintro e W5 ⟨rfl,hb5⟩;have hrz5:=(hb5.block _ (Array.getElem?_eq_some_iff.1 hrz).1).trans hrz;have q5:=(hb5.block _ (Array.getElem?_eq_some_iff.1 q4).1).trans q4;have hbel5:=hbel.trans (hb5.mono hbel.size);have hE5:=hE.later hb5;have hT5:TyX 106 W5 a3 c3:=hT.kpr (.inr (.inr rfl)) (KeepR.of_below hb5);clear hme hE hT hrz q4 hbel hb5;cases hm:au ⟨⟨y.toArray⟩,a3,n3,c3⟩ xs with
 | false=>
  have hno:=HNo.out hm;have f1:(W5.setRow w.heap.size zeroE.cells).heap[w.heap.size]?=some (.cells zeroE.cells 124):=aT hrz5;have f2:=below_setRow hbel5 (Nat.le_refl _) zeroE.cells;clear hm;go_wp2_with (refine zSr rfl hrz5 ?_;go_simp);exact bodyPost_ret (w:=W5.setRow w.heap.size zeroE.cells) (aI (i:=2) (j:=3) (t:=124) rfl rfl rfl (by kernel_rfl) (by kernel_rfl) f1) rfl ⟨f2,.inr ⟨rfl,hno⟩⟩
 | true=>
  have HM:=hid hm;have f1:(W5.setRow w.heap.size (EV.cells ⟨⟨y.toArray⟩,a3,n3,c3⟩)).heap[w.heap.size]?=some (.cells (EV.cells ⟨⟨y.toArray⟩,a3,n3,c3⟩) 124):=aT hrz5;have f2:=below_setRow hbel5 (Nat.le_refl _) (EV.cells ⟨⟨y.toArray⟩,a3,n3,c3⟩);have hkr:=yL hrz5 (below_setRow (Below.refl w.heap.size W5) (Nat.le_refl _) (EV.cells ⟨⟨y.toArray⟩,a3,n3,c3⟩)).size (fun k hk=>setRow_other W5 w.heap.size k (EV.cells ⟨⟨y.toArray⟩,a3,n3,c3⟩) hk);have hEF:EAt (W5.setRow w.heap.size (EV.cells ⟨⟨y.toArray⟩,a3,n3,c3⟩)) ⟨⟨y.toArray⟩,a3,n3,c3⟩ xs:=⟨jI (.inr (.inr rfl)) hE5.a hT5 hkr,hE5.la⟩
  have hTF:TyX 106 (W5.setRow w.heap.size (EV.cells ⟨⟨y.toArray⟩,a3,n3,c3⟩)) a3 c3:=hT5.kpr (.inr (.inr rfl)) hkr;clear hm;go_wp2_with (first | (refine zLr rfl q5 ?_;go_simp) | (refine zSr rfl hrz5 ?_;go_simp));exact bodyPost_ret (w:=W5.setRow w.heap.size (EV.cells ⟨⟨y.toArray⟩,a3,n3,c3⟩)) (aI (i:=2) (j:=3) (t:=124) rfl rfl rfl (by kernel_rfl) (by kernel_rfl) f1) rfl ⟨f2,.inl ⟨_,xs,rfl,hEF,hTF,HM.out,HD.out⟩⟩
def dm (l:List EP):List UInt8:=l.flatMap fun p=>val 1 (eu p.1 p.2)
theorem jq (p:EP)(l:List EP):dm (p::l)=val 1 (eu p.1 p.2)++dm l:=rfl
theorem Ee (l:List EP)(p:EP):dm (l++[p])=dm l++val 1 (eu p.1 p.2):=by simp[dm]
def dG (v:QV)(c:QC):List UInt8:=val 1 (az v.code.toNat)++(val 2 [if v.yes then 1 else 0]++(val 3 (dm c.ents)++(val 4 c.cursor++[])))
def aA:QV:=⟨0,false,none,0,0,none,0,0⟩
def jT (k:Int):QV:=⟨k,false,none,0,0,none,0,0⟩
def bf (v:QV)(c:QC):Bool:=
 if v.code=0 then !(decide (1000<v.en)||(c.ents.any fun u=>!au u.1 u.2)||decide (4000<v.cn))&&decide ((dm c.ents).length<=4194304)
 else decide (0<v.code)&&decide (v.code<=14)&&aN v c (jT v.code) ⟨[],[]⟩
theorem qO:∀(l m:List EP),(∀p∈l,au p.1 p.2=true)->(∀p∈m,au p.1 p.2=true)->dm l=dm m->aH l m=true
 | [],[],_,_,_=>rfl
 | [],p::m,_,_,h=>by
  have:=congrArg List.length h;rw[jq,List.length_append,ae] at this;have e0:(dm []).length=0:=rfl;omega
 | p::l,[],_,_,h=>by
  have:=congrArg List.length h;rw[jq,List.length_append,ae] at this;have e0:(dm []).length=0:=rfl;omega
 | p::l,q::m,hl,hm,h=>by
  rw[jq,jq] at h;have l1:=iL (hl p (by simp));have l2:=iL (hm q (by simp));obtain⟨h1,h2⟩:=ak (by decide) (by omega) (by omega) h;unfold aH;rw[MN (hl p (by simp)) (hm q (by simp)) h1,Bool.true_and];exact qO l m (fun x hx=>hl x (by simp[hx])) (fun x hx=>hm x (by simp[hx])) h2
theorem GN (B g rb:Nat)(st:WS)(v:QV)(l:List EP)(k:Nat)(p:EP)(W:World)(hw:WrS B g st W)(hl:st.l.length<=100000000)(hrb:W.heap[rb]?=some v.box)(he:EnAt W v.eo v.en v.ec l)(hp:l[k]?=some p)(hm:au p.1 p.2=true) :
  Calls Tryz.prog 177 #[.pointer (some ⟨g,0,none⟩),.int .i64 (k:Int),.pointer (some ⟨rb,0,none⟩)] W fun e w'=>(∃r,e=.returned r)/\WrS B g (st.put 1 (eu p.1 p.2)) w'/\Below B W w':=by
 have hkn:k<v.en:=by have:=he.len;have:=(List.getElem?_eq_some_iff.1 hp).1;omega
 obtain⟨b1,o1,hao,hl1,hc1⟩:=he.r.some (by have:=he.r.le;omega);obtain⟨v1,v2⟩:=kT l k p hp;have x0:=hc1 (k*2) _ v1;have x1:W.cell? ⟨b1,o1+k*2+1,none⟩=_:=hc1 (k*2+1) _ v2;obtain⟨c0,c1,c2,c3,-⟩:=aj hrb;rw[hao] at c2;have hE:=he.each p (List.mem_of_getElem? hp);have hc:=Ba p.1 p.2 W hE;have hB:=hw.le;unfold EV.val EV.cells at hc;have i0:(0:Int)<=(k:Int):=by omega
 have i1:(k:Int)<(v.en:Int):=by omega
 have HM:=hid hm;clear hm hc1 v1 v2 he hp hkn hao;go_in;go_wp2_with fail;refine hc.mono ?_;rintro e W1 ⟨lx,ax,cx,ex,rfl,hrx,hb1,hfr,hx1,-⟩;obtain⟨rfl,rfl⟩:=hx1 HM.out;have hln:=iL HM.out;have hw1:=hw.later hb1;clear hc x0 x1 c0 c1 c2 c3 hx1;go_wp2_with fail;refine (jO B g st 1 (eu p.1 p.2) ax _ cx W1 hw1 hl (by omega) hrx (fun h0 a ha u hu e=>?_)).mono ?_
 ·have h1:=hfr a ha;obtain⟨u0,hu0⟩:=hw;have hh:=hu0.at_;have h2:=hu.at_;rw[(hb1.block _ (Array.getElem?_eq_some_iff.1 hh).1).trans hh] at h2;cases h2;have:=kW hu0.own a.block e.symm;omega
 rintro e W2 ⟨rfl,hw2,hb2,-⟩;go_wp2_with fail;refine bodyPost_end (results_none rfl _ _ _) rfl ?_;exact⟨⟨_,rfl⟩,hw2,(hb1.mono hB).trans hb2⟩
end Go.Proofs.YtfmmandlmbcncaaGreatDoor.Msg
namespace Go.Proofs.YtfmmandlmbcncaaGreatDoor.Msg
open Go.RowKit Go.Lib Mem Utf Tlv
structure QbAt (w:World)(v:QV)(W:World):Prop where
 o:W.heap[w.heap.size]?=some v.box
 bel:Below w.heap.size w W
theorem QbAt.step {w W W':World}{v:QV}(h:QbAt w v W)(hb:Below W.heap.size W W'):QbAt w v W':=⟨(hb.block _ (Array.getElem?_eq_some_iff.1 h.o).1).trans h.o,h.bel.trans (hb.mono h.bel.size)⟩
theorem QbAt.turn {w W W':World}{v:QV}{B:Nat}(h:QbAt w v W)(hb:Below B W W')(hB:w.heap.size<B):QbAt w v W':=⟨(hb.block _ hB).trans h.o,h.bel.trans (hb.mono (by omega))⟩
def enE (l:List EP)(i:Nat):List UInt8:=val 1 (match l[i]? with | some p=>eu p.1 p.2 | none=>[])
theorem DR (l:List EP):∀n,n<=l.length->bi (enE l) n=dm (l.take n)
 | 0,_=>by simp[bi,dm]
 | n+1,h=>by
  have hn:l[n]?=some l[n]:=List.getElem?_eq_getElem (by omega);rw[dL,DR l n (by omega),List.take_add_one,hn];simp only[Option.toList_some];rw[Ee];simp[enE,hn]
theorem sK (v:QV)(c:QC)(w:World)(h:QAt w v c)(h0:0<=v.code)(h1:v.code<=255)(hn:v.en<=1000)(hall:∀p∈c.ents,au p.1 p.2=true)(hlen:(dm c.ents).length<=4194304)(hcn:v.cn<=4000) :
  Calls Tryz.prog 146 #[v.val] w fun e w'=>∃ao cap,e=.returned (.tuple #[.slice ao (dG v c).length cap,.int .i64 0])/\Rd w' 1 ao (dG v c).length cap (byV (dG v c))/\Below w.heap.size w w'/\∀a,ao=some a->w.heap.size<=a.block:=by
 have hmo:Tryz.prog.follows .mixedOrders=true:=by kernel_rfl
 have lx:=h.e.len;have lc:c.cursor.length=v.cn:=by have:=h.c.1;rw[aS] at this;omega
 obtain⟨cn,hcd⟩:∃n:Nat,v.code=(n:Int):=⟨v.code.toNat,by omega⟩
 have hcw:IntKind.wrap .u64 v.code=(cn:Int):=by rw[hcd,IntKind.wrap_u64];omega
 have hall2:bi (enE c.ents) v.en=dm c.ents:=by rw[DR c.ents v.en (by omega),List.take_of_length_le (by omega)]
 have hres:dG v c=val 1 (az cn)++(val 2 [if v.yes then 1 else 0]++(val 3 (dm c.ents)++(val 4 c.cursor++[]))):=by unfold dG;rw[show v.code.toNat=cn by omega]
 have HR:=hid hres;have HA:=hid hall2;have HL:=hid hlen;have LX:=hid lx;have LC:=hid lc;clear hres hall2 hlen lx lc hcd h0 h1;have hb0:Below w.heap.size w (w.alloc v.box):=(Below.refl _ _).alloc (Nat.le_refl _) _;have k0:(w.alloc v.box).heap[w.heap.size]?=some v.box:=by show (w.heap.push _)[w.heap.size]?=some _;exact Array.getElem?_push_size
 unfold QV.box QV.cells at hb0 k0;unfold QV.val QV.cells;go_in;go_upto_region 1 with fail;generalize hg:w.alloc _=W0 at *;have s0:QbAt w v W0.drew:=(⟨k0,hb0⟩:QbAt w v W0).step (Below.refl _ _).drew;clear hg k0 hb0;refine wp_region_held (S:=QbAt w v) hmo ?_;change wpAnyH _ _ _ _ _ _ _ _ (World.drew W0);generalize World.drew W0=X0 at *;refine zHp 1 (.pointer (some ⟨w.heap.size,0,none⟩)) rfl s0 ?_;go_simp;refine zHa 2 (.int .i64 v.code) rfl (by rintro w2 h2;obtain⟨c0,c1,c2,c3,-⟩:=aj h2.o;go_simp) s0 ?_;go_simp;refine zHa 3 (.int .u64 (cn:Int)) rfl (by rintro w2 h2;obtain⟨c0,c1,c2,c3,-⟩:=aj h2.o;go_simp) s0 ?_;go_simp;refine zHp 5 (.pointer (some ⟨w.heap.size,1,none⟩)) rfl s0 ?_;go_simp;refine zHa 6 (.bool v.yes) rfl (by rintro w2 h2;obtain⟨c0,c1,c2,c3,-⟩:=aj h2.o;go_simp) s0 ?_;go_simp;refine zHp 8 (.pointer (some ⟨w.heap.size,2,none⟩)) rfl s0 ?_;go_simp;refine zHa 9 (.slice v.eo v.en v.ec) rfl (by rintro w2 h2;obtain⟨c0,c1,c2,c3,-⟩:=aj h2.o;go_simp) s0 ?_;go_simp;refine zHa 10 (.int .i64 (v.en:Int)) rfl (by rintro w2 h2;obtain⟨c0,c1,c2,c3,-⟩:=aj h2.o;go_simp) s0 ?_;go_simp;refine zHa 11 (.func (.func 177) #[] #[.pointer (some ⟨w.heap.size,0,none⟩)]) rfl (by rintro w2 h2;obtain⟨c0,c1,c2,c3,-⟩:=aj h2.o;go_simp) s0 ?_;go_simp;refine zHp 13 (.pointer (some ⟨w.heap.size,3,none⟩)) rfl s0 ?_;go_simp;refine zHa 14 (.slice v.co v.cn v.cc) rfl (by rintro w2 h2;obtain⟨c0,c1,c2,c3,-⟩:=aj h2.o;go_simp) s0 ?_;go_simp;refine zH1 0 rfl (fun K hK=>?_);go_simp;have g0:WrS X0.heap.size X0.heap.size ⟨[],0⟩ (X0.alloc (.cells #[.slice none 0 0,.int .i64 0] 177)):=⟨_,by show (X0.heap.push _)[X0.heap.size]?=some _;exact Array.getElem?_push_size,Nat.le_refl _,World.ownsRow_nil _ _ _ _⟩
 have s1:QbAt w v (X0.alloc (.cells #[.slice none 0 0,.int .i64 0] 177)):=s0.step ((Below.refl _ _).alloc (Nat.le_refl _) _);have hlt:w.heap.size<X0.heap.size:=(Array.getElem?_eq_some_iff.1 s0.o).1;refine hK _ _ ⟨s1,?_⟩;clear hK K;refine zH1 4 rfl (fun K hK=>?_);go_simp;refine (oz X0.heap.size X0.heap.size ⟨[],0⟩ 1 cn _ g0 (by decide)).mono ?_;rintro e X2 ⟨rfl,g1,hb2,-⟩;have s2:=s1.turn hb2 hlt;go_simp;refine hK _ _ ⟨s2,?_⟩;clear hK K;refine zH1 7 rfl (fun K hK=>?_);go_simp;refine (Gw X0.heap.size X0.heap.size _ 2 v.yes _ g1 (by simp[WS.put,ae,ah])).mono ?_;rintro e X3 ⟨rfl,g2,hb3,-⟩;have s3:=s2.turn hb3 hlt;go_simp;refine hK _ _ ⟨s3,?_⟩;clear hK K;refine zH1 12 rfl (fun K hK=>?_);go_simp;have hW:=qZ X0.heap.size X0.heap.size _ 3 v.en 177 #[.pointer (some ⟨w.heap.size,0,none⟩)] (enE c.ents) X3 g2 rfl (by omega) (enters_of Tryz.func177 (by kernel_rfl) rfl)
  (fun i hi=>by
   obtain⟨p,hi2⟩:∃p,c.ents[i]?=some p:=⟨_,List.getElem?_eq_getElem (by rw[LX.out];exact hi)⟩
   have hl:=iL (hall p (List.mem_of_getElem? hi2));unfold enE;rw[hi2];exact⟨jm 1 _ (by decide) (by dsimp only;omega),by rw[ae];omega⟩)
  (by rw[HA.out];exact HL.out) (by simp[WS.put,ae,ah])
  (fun i W1 hi hb1 hwr=>by
   obtain⟨p,hi2⟩:∃p,c.ents[i]?=some p:=⟨_,List.getElem?_eq_getElem (by rw[LX.out];exact hi)⟩
   have s4:=s3.step hb1;have hm:=lu (enE c.ents) (Nat.le_of_lt hi);rw[HA.out] at hm;have hL:=HL.out;refine (GN X3.heap.size X3.heap.size w.heap.size _ v c.ents i _ W1 hwr (by dsimp only;omega) s4.o (h.later s4.bel).e hi2 (hall p (List.mem_of_getElem? hi2))).mono ?_;rintro e1 w1 ⟨q1,q2,q3⟩;refine⟨q1,?_,q3⟩;rw[dL];have e5:enE c.ents i=val 1 (eu p.1 p.2):=by unfold enE;rw[hi2]
   rw[e5];simpa [WS.put] using q2)
 rw[HA.out] at hW;refine hW.mono ?_;rintro e X4 ⟨rfl,g3,hb4,-⟩;have s4:=s3.turn hb4 hlt;clear hW;go_simp;refine hK _ _ ⟨s4,?_⟩;clear hK K;refine zH1 15 rfl (fun K hK=>?_);go_simp;refine (jO X0.heap.size X0.heap.size _ 4 c.cursor v.co _ v.cc _ g3 (by have:=HL.out;simp[WS.put,ae,ah];omega) (by omega) (h.later s4.bel).c (fun h0 a ha u hu e=>by have:=h.c.lt h0 a ha;have h9:=bz hu.own e.symm;have:=s0.bel.size;omega)).mono ?_;rintro e X5 ⟨rfl,g4,hb5,-⟩;have s5:=s4.turn hb5 hlt;go_simp;refine hK _ _ ⟨s5,?_⟩;clear hK K;refine zH1 16 rfl (fun K hK=>?_);go_simp;have g5:WrS X0.heap.size X0.heap.size ⟨dG v c,0⟩ X5:=by rw[HR.out];simpa [WS.put] using g4
 obtain⟨y,hy⟩:=g5;have hrl:(dG v c).length<=100000000:=by have:=HL.out;have:=LC.out;rw[HR.out];simp only[List.length_append,ae,ah,List.length_cons,List.length_nil];omega
 refine (pU _ _ _ _ _ hy hrl).mono ?_;rintro e X6 ⟨z,rfl,hz6,hb6⟩;obtain⟨ao6,cap6,rfl,hr6⟩:=Rd.of_own hz6;have s6:=s5.step hb6;go_simp;refine hK _ _ ⟨s6,?_⟩;clear hK K;refine zHa 17 (.slice ao6 (dG v c).length cap6) rfl (by rintro w2 h2;obtain⟨c0,c1,c2,c3,-⟩:=aj h2.o;go_simp) s6 ?_;go_simp;refine zHa 18 (.int .i64 0) rfl (by rintro w2 h2;obtain⟨c0,c1,c2,c3,-⟩:=aj h2.o;go_simp) s6 ?_;go_simp;refine zHp 19 (.slice ao6 (dG v c).length cap6) rfl s6 ?_;go_simp;refine zHp 20 (.int .i64 0) rfl s6 ?_;go_simp;refine wpAnyH_done (by kernel_rfl) ?_ _;go_wp2_with fail;go_ret2;exact⟨ao6,cap6,rfl,hr6,s6.bel,fun a ha=>Nat.le_trans s5.bel.size (jF hz6 a ha)⟩
end Go.Proofs.YtfmmandlmbcncaaGreatDoor.Msg
