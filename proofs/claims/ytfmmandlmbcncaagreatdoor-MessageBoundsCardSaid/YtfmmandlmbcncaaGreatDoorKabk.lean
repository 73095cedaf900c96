/-
  A part of the proof.
-/
import Derived.Laws.CopyOwn
import Derived.Deep.Cut
import Derived.BigQuiet
import Derived.Test.YtfmmandlmbcncaaGreatDoorKabj
import Derived.Test.YtfmmandlmbcncaaGreatDoorKabc
import Derived.Test.YtfmmandlmbcncaaGreatDoorKaab
import Derived.Test.YtfmmandlmbcncaaGreatDoorKaav
import Derived.Test.YtfmmandlmbcncaaGreatDoorKabh
import Derived.Test.YtfmmandlmbcncaaGreatDoorKaaz
import Derived.Test.YtfmmandlmbcncaaGreatDoorKaag
import Derived.Test.YtfmmandlmbcncaaGreatDoorKabf
import Derived.Test.YtfmmandlmbcncaaGreatDoorKaaq
import Derived.Test.YtfmmandlmbcncaaGreatDoorKaat
import Derived.Test.YtfmmandlmbcncaaGreatDoorKaba
set_option maxHeartbeats 40000000
namespace Go.Proofs.YtfmmandlmbcncaaGreatDoor.Msg
open Go.RowKit Go.Lib Go.Proofs.YtfmmandlmbcncaaGreatDoor.Mem Go.Proofs.YtfmmandlmbcncaaGreatDoor.Tlv
structure FitQ (v:QV)(c:QC):Prop where
 c0:0≤v.code
 c14:v.code≤14
 en:v.en≤1000
 all:∀p∈c.ents,mayEntry p.1 p.2=true
 len:(entsB c.ents).length≤4194304
 cn:v.cn≤4000
theorem sameEnts_nil:∀ {l:List EP},sameEnts l []=true→l=[]
 | [],_=>rfl
 | _::_,h=>by simp[sameEnts] at h
theorem FitQ.of {W:World}{v:QV}{c:QC}(h:QAt W v c)(hm:mayRes v c=true):FitQ v c:=by
 have lx:=h.e.len
 have lc:c.cursor.length=v.cn:=by have:=h.c.1;rw[byV_len] at this;omega
 unfold mayRes at hm
 by_cases h0:v.code=0
 ·rw[if_pos h0] at hm
  simp only[Bool.and_eq_true,Bool.not_eq_true',Bool.or_eq_false_iff,decide_eq_false_iff_not,decide_eq_true_eq] at hm
  obtain⟨⟨⟨h1,h2⟩,h3⟩,h4⟩:=hm
  exact⟨by omega,by omega,by omega,fun p hp=>(by
   have:=List.any_eq_false.1 h2 p hp
   simpa using this),h4,by omega⟩
 rw[if_neg h0] at hm
 simp only[Bool.and_eq_true,decide_eq_true_eq] at hm
 obtain⟨⟨h1,h2⟩,h3⟩:=hm
 unfold sameRes at h3
 simp only[Bool.and_eq_true,decide_eq_true_eq] at h3
 obtain⟨-,-,h4,h5⟩:=h3
 have e1:=sameEnts_nil h4
 rw[e1] at lx
 rw[h5] at lc
 have l0:([]:List EP).length=0:=rfl
 have l1:([]:List UInt8).length=0:=rfl
 refine⟨by omega,by omega,by omega,fun p hp=>?_,?_,by omega⟩
 ·rw[e1] at hp;cases hp
 rw[e1];exact Nat.zero_le _
def GivesRB (v:QV)(c:QC)(w:World)(e:Ending)(w':World):Prop:=∃(l:List UInt8) (ax:Option Addr) (cx:Nat) (ex:Int),e=.returned (.tuple #[.slice ax l.length cx,.int .i64 ex])∧Rd w' 1 ax l.length cx (byV l)∧Below w.heap.size w w'∧(∀a,ax=some a→w.heap.size≤a.block)∧(mayRes v c=true→l=resL v c∧ex=0)∧(mayRes v c=false→l=[]∧ex=2)
theorem resL_len {v:QV}{c:QC}:(resL v c).length=29+(entsB c.ents).length+c.cursor.length:=by unfold resL;simp only[List.length_append,val_len,num8_len,List.length_cons,List.length_nil];omega
set_option maxRecDepth 100000 in
theorem resBytesE_any (v:QV)(c:QC)(w:World)(h:QAt w v c)(hs:ShortQ c):Calls Tryz.prog 197 #[v.val] w (GivesRB v c w):=by
 have hb0:Below w.heap.size w (w.alloc v.box):=(Below.refl _ _).alloc (Nat.le_refl _) _
 have k0:(w.alloc v.box).heap[w.heap.size]?=some v.box:=by show (w.heap.push _)[w.heap.size]?=some _;exact Array.getElem?_push_size
 unfold QV.box QV.cells at hb0 k0
 unfold QV.val QV.cells
 go_enter Tryz.func197,Tryz.ntmps197
 go_upto_region 1 with fail
 generalize hg:w.alloc _=W0 at *
 have q0:W0.heap[w.heap.size]?=some v.box:=k0
 have hm0:=mayRes_any v c W0 (h.later hb0) hs
 unfold QV.val QV.cells at hm0
 clear hg k0
 obtain⟨c0,c1,c2,c3,-⟩:=qbox_all q0
 go_wp2_with fail
 refine hm0.mono ?_
 rintro e W1 ⟨rfl,hb1⟩
 have q1:=(hb1.block _ (Array.getElem?_eq_some_iff.1 q0).1).trans q0
 have hbel:=hb0.trans (hb1.mono hb0.size)
 clear c0 c1 c2 c3 hm0
 cases hm:mayRes v c with
 | false=>
  have HM:=hid hm
  clear hm
  go_wp2_with fail
  go_ret2
  exact⟨[],none,0,2,rfl,Rd.nil _ _,hbel,(fun a ha=>by cases ha),fun h=>(by rw[HM.out] at h;cases h),fun _=>⟨rfl,rfl⟩⟩
 | true=>
  have F:=FitQ.of h hm
  have HM:=hid hm
  have hr:=resBytes_any v c W1 (h.later hbel) F.c0 (by have:=F.c14;omega) F.en F.all F.len F.cn
  unfold QV.val QV.cells at hr
  clear hm F
  go_wp2_with (refine wpList_load_row q1 rfl rfl rfl (by kernel_rfl) (by kernel_rfl) ?_;go_simp)
  refine hr.mono ?_
  rintro e W2 ⟨ax,cx,rfl,hrd,hb2,hfr⟩
  go_wp2_with fail
  go_ret2
  exact⟨_,ax,cx,0,rfl,hrd,hbel.trans (hb2.mono hbel.size),fun a ha=>Nat.le_trans hbel.size (hfr a ha),fun _=>⟨rfl,rfl⟩,fun h=>(by rw[HM.out] at h;cases h)⟩
def EntsOk (Y:List UInt8):Prop:=∃l:List EP,Y=entsB l∧(∀p∈l,mayEntry p.1 p.2=true)∧l.length≤1000∧(entsB l).length≤4194304
section
variable {b cur Y:List UInt8} {s1 s2 s3 s4:RS} {n1:Nat} {y2:Bool}
 (T1:Took (fun n:Nat=>val 1 (num8 n)) (fun n=>n≤14) (fun n=>n<18446744073709551616) ⟨b,false⟩ n1 s1)
 (T2:Took (fun y:Bool=>val 2 [if y then 1 else 0]) (fun _=>True) (fun _=>True) s1 y2 s2)
 (T3:Took (val 3) EntsOk (fun z=>z.length≤4194304) s2 Y s3)
 (T4:Took (val 4) (fun z=>z.length≤4194304) (fun z=>z.length≤4194304) s3 cur s4)
include T1 T2 T3 T4
end
end Go.Proofs.YtfmmandlmbcncaaGreatDoor.Msg
namespace Go.Proofs.YtfmmandlmbcncaaGreatDoor.Mem
open Go.RowKit
section
variable {P:Program} (w:World)
theorem wpList_lit3 {ops:Array Oper}{rest:List Oper}{o:Oper}{a:Act}{Q:Exit→Act→World→Prop}(hgd:o.guard=none)(s x:Operand)(t:TypeId)
  (ho:o.op=.call { callee:=.builtin .append,args:=#[s,x],argTypes:=#[t,t] }) (base:Nat) (e:TypeId) (z:Value) (size bytes:Nat) (T:SliceT P t e z size bytes) (hby:bytes≤10000)
  (v:Value) (n:Nat) (xs:List Value) (hs:a.eval s=v) (hown:w.ownsRow base e size v n xs) (m:Nat) (news:List Value) (hx:a.eval x=.slice (some ⟨w.heap.size,0,none⟩) m m) (hl:news.length=m*size) (h1:∀u∈news,u.oneCell'=true)
  (hbase:base≤w.heap.size) (hN:n+m≤10000000000)
  (h:∀ao' cap' w',w'.ownsRow base e size (.slice ao' (n+m) cap') (n+m) (xs++news)→(w.alloc (.cells news.toArray e)).grownBy w' v.ownBlock→Below base w w'→(∀k,(Value.slice ao' (n+m) cap').ownBlock=some k→v.ownBlock=some k∨w.heap.size+1≤k)→wpList P ops Q rest (a.put o.dst (.slice ao' (n+m) cap')) w') :
  wpList P ops Q (o::rest) a (w.alloc (.cells news.toArray e)):=by
 refine wpList_plain hgd fun K hK=>?_
 have hb:(n+m)*bytes≤140737488355328:=by
  have:=Nat.mul_le_mul hN hby
  omega
 obtain⟨ao',cap',w',hrun,r1,r2,r3,r4⟩:=run_app2 (P:=P) (w:=w.alloc (.cells news.toArray e)) base t o.type e z size bytes T v n xs (hown.alloc _) _ m m news (Rd.new w news e (0,0) size m hl (by unfold maxLen;omega)) h1 (by unfold maxLen;omega) hb (by simp;omega)
 unfold Oper.wp execOp
 simp only[ho,resolve,invoke,builtin,Sem.run_bind,Sem.run_pure,Result.andThen_ok,List.map_toArray,List.map_cons,List.map_nil,hs,hx,hrun]
 exact hK _ _ (h ao' cap' w' r1 r2 (((Below.refl base w).alloc hbase _).trans r3) (fun k hk=>(r4 k hk).imp id (fun h=>by simpa using h)))
end
end Go.Proofs.YtfmmandlmbcncaaGreatDoor.Mem
namespace Go.Proofs.YtfmmandlmbcncaaGreatDoor.Msg
open Go.RowKit Go.Lib Go.Proofs.YtfmmandlmbcncaaGreatDoor.Mem Go.Proofs.YtfmmandlmbcncaaGreatDoor.Tlv
open Go.ChangeShapes Go.WideShapes Go.Deep
theorem entsB_le:∀(l:List EP),(∀p∈l,mayEntry p.1 p.2=true)→(entsB l).length≤l.length*101765
 | [],_=>Nat.zero_le _
 | p::l,h=>by
  have h1:=entL_len (h p (by simp))
  have h2:=entsB_le l (fun q hq=>h q (by simp[hq]))
  rw[entsB_cons,List.length_append,val_len,List.length_cons]
  omega
theorem shortQ_of {c:QC}(h:c.ents.length≤40):ShortQ c:=fun hall=>by have:=entsB_le c.ents hall;omega
section
variable {H:Type} {enc:TypeId×Value→H} {W:World}
end
end Go.Proofs.YtfmmandlmbcncaaGreatDoor.Msg
