/-
  A part of the proof.
-/
import Derived.Test.YtfmmandlmbcncaaGreatDoorKbbd
import Derived.Test.YtfmmandlmbcncaaGreatDoorKbay
set_option maxHeartbeats 40000000
namespace Go.Proofs.YtfmmandlmbcncaaGreatDoor.Msg
open Go.RowKit Go.Lib Go.Proofs.YtfmmandlmbcncaaGreatDoor.Mem Go.Proofs.YtfmmandlmbcncaaGreatDoor.Tlv
theorem bareQ_at (W:World)(k:Int):QAt W (bareQ k) ⟨[],[]⟩:=⟨⟨Rd.nil _ _,fun _ hp=>absurd hp List.not_mem_nil⟩,Rd.nil _ _,Nat.zero_le _⟩
def ShortQ (c:QC):Prop:=(∀p∈c.ents,mayEntry p.1 p.2=true)→(entsB c.ents).length≤4194304
theorem mayRes_zero {v:QV}{c:QC}(h:v.code=0)(hl:ShortQ c):mayRes v c=!(decide (1000<v.en)||(c.ents.any fun u=>!mayEntry u.1 u.2)||decide (4000<v.cn)):=by
 unfold mayRes
 rw[if_pos h]
 cases ha:(c.ents.any fun u=>!mayEntry u.1 u.2) with
 | true=>simp
 | false=>
  have hall:∀p∈c.ents,mayEntry p.1 p.2=true:=fun p hp=>by
   have:=List.any_eq_false.1 ha p hp
   simpa using this
  rw[decide_eq_true (hl hall),Bool.and_true]
set_option maxRecDepth 100000 in
theorem mayRes_any (v:QV)(c:QC)(w:World)(h:QAt w v c)(hlen:ShortQ c):Calls Tryz.prog 106 #[v.val] w (GivesB (mayRes v c) w):=by
 have hb0:Below w.heap.size w (w.alloc v.box):=(Below.refl _ _).alloc (Nat.le_refl _) _
 have k0:(w.alloc v.box).heap[w.heap.size]?=some v.box:=by show (w.heap.push _)[w.heap.size]?=some _;exact Array.getElem?_push_size
 unfold QV.box QV.cells at hb0 k0
 unfold QV.val QV.cells
 by_cases hc0:v.code=0
 case neg=>
  have f1:(v.code==0)=false:=by simp[hc0]
  have g1:(v.code != 0)=true:=by simp[hc0]
  have HM:Hid (mayRes v c=(decide (0<v.code)&&decide (v.code≤14)&&sameRes v c (bareQ v.code) ⟨[],[]⟩)):=hid (by unfold mayRes;rw[if_neg hc0])
  clear hc0
  go_enter Tryz.func106,Tryz.ntmps106
  go_upto_region 1 with fail
  generalize hg:w.alloc _=W0 at *
  have q0:W0.heap[w.heap.size]?=some v.box:=k0
  clear hg k0
  obtain⟨c0,c1,c2,c3,-⟩:=qbox_all q0
  by_cases h1:0<v.code
  ·have f2:decide (0<v.code)=true:=decide_eq_true h1
   have H1:=hid h1
   clear h1
   by_cases h2:v.code≤14
   ·have f3:decide (v.code≤14)=true:=decide_eq_true h2
    have H2:=hid h2
    clear h2
    have hs:=sameRes_any v (bareQ v.code) c ⟨[],[]⟩ W0 (h.later hb0) (bareQ_at _ _)
    unfold QV.val QV.cells bareQ at hs
    dsimp only at hs
    go_wp2_with fail
    refine hs.mono ?_
    rintro e W1 ⟨rfl,hb1⟩
    go_wp2_with fail
    go_ret
    exact⟨by rw[HM.out,decide_eq_true H1.out,decide_eq_true H2.out];simp only[Bool.true_and];rfl,hb0.trans (hb1.mono hb0.size)⟩
   have f3:decide (v.code≤14)=false:=decide_eq_false h2
   have H2:=hid h2
   clear h2
   go_wp2_with fail
   go_ret
   exact⟨by rw[HM.out,decide_eq_false (by have:=H2.out;omega:¬v.code≤14)];simp,hb0⟩
  have f2:decide (0<v.code)=false:=decide_eq_false h1
  have H1:=hid h1
  clear h1
  go_wp2_with fail
  go_ret
  exact⟨by rw[HM.out,decide_eq_false (by have:=H1.out;omega:¬0<v.code)];simp,hb0⟩
 have f1:(v.code==0)=true:=by simp[hc0]
 have g1:(v.code != 0)=false:=by simp[hc0]
 have HM:Hid (mayRes v c=!(decide (1000<v.en)||(c.ents.any fun u=>!mayEntry u.1 u.2)||decide (4000<v.cn))):=hid (mayRes_zero hc0 hlen)
 have HC:=hid hc0
 clear hc0
 go_enter Tryz.func106,Tryz.ntmps106
 go_upto_region 1 with fail
 generalize hg:w.alloc _=W0 at *
 have q0:W0.heap[w.heap.size]?=some v.box:=k0
 clear hg k0
 obtain⟨c0,c1,c2,c3,-⟩:=qbox_all q0
 by_cases hn:1000<v.en
 case pos=>
  have f2:decide ((1000:Int)<(v.en:Int))=true:=decide_eq_true (by omega)
  have HN:=hid hn
  clear hn
  go_wp2_with fail
  go_ret
  exact⟨by rw[HM.out,decide_eq_true HN.out];simp,hb0⟩
 have f2:decide ((1000:Int)<(v.en:Int))=false:=decide_eq_false (by omega)
 have HN:=hid hn
 clear hn
 go_wp2_with fail
 refine (contains_ent v.eo v.en v.ec c.ents W0 (h.later hb0).e).mono ?_
 rintro e W1 ⟨rfl,hb1⟩
 have q1:=(hb1.block _ (Array.getElem?_eq_some_iff.1 q0).1).trans q0
 have hbel:=hb0.trans (hb1.mono hb0.size)
 clear c0 c1 c2 c3
 obtain⟨c0,c1,c2,c3,-⟩:=qbox_all q1
 cases ha:(c.ents.any fun u=>!mayEntry u.1 u.2) with
 | true=>
  have HA:=hid ha
  clear ha
  go_wp2_with fail
  go_ret
  exact⟨by rw[HM.out,HA.out];simp,hbel⟩
 | false=>
  have HA:=hid ha
  clear ha
  by_cases hcn:4000<v.cn
  ·have f3:decide ((4000:Int)<(v.cn:Int))=true:=decide_eq_true (by omega)
   have HK:=hid hcn
   clear hcn
   go_wp2_with fail
   go_ret
   exact⟨by rw[HM.out,decide_eq_true HK.out];simp,hbel⟩
  have f3:decide ((4000:Int)<(v.cn:Int))=false:=decide_eq_false (by omega)
  have HK:=hid hcn
  have hrb:=resBytes_any v c W1 (h.later hbel) (by rw[HC.out];decide) (by rw[HC.out];decide) (by have:=HN.out;omega) (fun p hp=>by
   have:=List.any_eq_false.1 HA.out p hp
   simpa using this) (hlen (fun p hp=>by
   have:=List.any_eq_false.1 HA.out p hp
   simpa using this)) (by omega)
  unfold QV.val QV.cells at hrb
  clear hcn
  go_wp2_with (refine wpList_load_row q1 rfl rfl rfl (by kernel_rfl) (by kernel_rfl) ?_;go_simp)
  refine hrb.mono ?_
  rintro e W2 ⟨a2,x2,rfl,-,hb2,-⟩
  go_wp2_with fail
  go_ret
  exact⟨by rw[HM.out,HA.out,decide_eq_false (by have:=HK.out;omega:¬4000<v.cn),decide_eq_false (by have:=HN.out;omega:¬1000<v.en)];rfl,hbel.trans (hb2.mono hbel.size)⟩
structure FitQ (v:QV)(c:QC):Prop where
 c0:0≤v.code
 c14:v.code≤14
 en:v.en≤1000
 all:∀p∈c.ents,mayEntry p.1 p.2=true
 len:(entsB c.ents).length≤4194304
 cn:v.cn≤4000
theorem sameEnts_nil:∀ {l:List EP},sameEnts l []=true→l=[]
 | [],_=>rfl
 | _::_,h=>by simp[sameEnts] at h
theorem FitQ.of {W:World}{v:QV}{c:QC}(h:QAt W v c)(hm:mayRes v c=true):FitQ v c:=by
 have lx:=h.e.len
 have lc:c.cursor.length=v.cn:=by have:=h.c.1;rw[byV_len] at this;omega
 unfold mayRes at hm
 by_cases h0:v.code=0
 ·rw[if_pos h0] at hm
  simp only[Bool.and_eq_true,Bool.not_eq_true',Bool.or_eq_false_iff,decide_eq_false_iff_not,decide_eq_true_eq] at hm
  obtain⟨⟨⟨h1,h2⟩,h3⟩,h4⟩:=hm
  exact⟨by omega,by omega,by omega,fun p hp=>(by
   have:=List.any_eq_false.1 h2 p hp
   simpa using this),h4,by omega⟩
 rw[if_neg h0] at hm
 simp only[Bool.and_eq_true,decide_eq_true_eq] at hm
 obtain⟨⟨h1,h2⟩,h3⟩:=hm
 unfold sameRes at h3
 simp only[Bool.and_eq_true,decide_eq_true_eq] at h3
 obtain⟨-,-,h4,h5⟩:=h3
 have e1:=sameEnts_nil h4
 rw[e1] at lx
 rw[h5] at lc
 have l0:([]:List EP).length=0:=rfl
 have l1:([]:List UInt8).length=0:=rfl
 refine⟨by omega,by omega,by omega,fun p hp=>?_,?_,by omega⟩
 ·rw[e1] at hp;cases hp
 rw[e1];exact Nat.zero_le _
def GivesRB (v:QV)(c:QC)(w:World)(e:Ending)(w':World):Prop:=∃(l:List UInt8) (ax:Option Addr) (cx:Nat) (ex:Int),e=.returned (.tuple #[.slice ax l.length cx,.int .i64 ex])∧Rd w' 1 ax l.length cx (byV l)∧Below w.heap.size w w'∧(∀a,ax=some a→w.heap.size≤a.block)∧(mayRes v c=true→l=resL v c∧ex=0)∧(mayRes v c=false→l=[]∧ex=2)
theorem resL_len {v:QV}{c:QC}:(resL v c).length=29+(entsB c.ents).length+c.cursor.length:=by unfold resL;simp only[List.length_append,val_len,num8_len,List.length_cons,List.length_nil];omega
set_option maxRecDepth 100000 in
theorem resBytesE_any (v:QV)(c:QC)(w:World)(h:QAt w v c)(hs:ShortQ c):Calls Tryz.prog 197 #[v.val] w (GivesRB v c w):=by
 have hb0:Below w.heap.size w (w.alloc v.box):=(Below.refl _ _).alloc (Nat.le_refl _) _
 have k0:(w.alloc v.box).heap[w.heap.size]?=some v.box:=by show (w.heap.push _)[w.heap.size]?=some _;exact Array.getElem?_push_size
 unfold QV.box QV.cells at hb0 k0
 unfold QV.val QV.cells
 go_enter Tryz.func197,Tryz.ntmps197
 go_upto_region 1 with fail
 generalize hg:w.alloc _=W0 at *
 have q0:W0.heap[w.heap.size]?=some v.box:=k0
 have hm0:=mayRes_any v c W0 (h.later hb0) hs
 unfold QV.val QV.cells at hm0
 clear hg k0
 obtain⟨c0,c1,c2,c3,-⟩:=qbox_all q0
 go_wp2_with fail
 refine hm0.mono ?_
 rintro e W1 ⟨rfl,hb1⟩
 have q1:=(hb1.block _ (Array.getElem?_eq_some_iff.1 q0).1).trans q0
 have hbel:=hb0.trans (hb1.mono hb0.size)
 clear c0 c1 c2 c3 hm0
 cases hm:mayRes v c with
 | false=>
  have HM:=hid hm
  clear hm
  go_wp2_with fail
  go_ret2
  exact⟨[],none,0,2,rfl,Rd.nil _ _,hbel,(fun a ha=>by cases ha),fun h=>(by rw[HM.out] at h;cases h),fun _=>⟨rfl,rfl⟩⟩
 | true=>
  have F:=FitQ.of h hm
  have HM:=hid hm
  have hr:=resBytes_any v c W1 (h.later hbel) F.c0 (by have:=F.c14;omega) F.en F.all F.len F.cn
  unfold QV.val QV.cells at hr
  clear hm F
  go_wp2_with (refine wpList_load_row q1 rfl rfl rfl (by kernel_rfl) (by kernel_rfl) ?_;go_simp)
  refine hr.mono ?_
  rintro e W2 ⟨ax,cx,rfl,hrd,hb2,hfr⟩
  go_wp2_with fail
  go_ret2
  exact⟨_,ax,cx,0,rfl,hrd,hbel.trans (hb2.mono hbel.size),fun a ha=>Nat.le_trans hbel.size (hfr a ha),fun _=>⟨rfl,rfl⟩,fun h=>(by rw[HM.out] at h;cases h)⟩
theorem sameEntry_may {v v':EV}{x x':List (ByteArray×ByteArray)}(h:sameEntry v x v' x'=true):mayEntry v x=mayEntry v' x'∧entL v x=entL v' x':=by
 unfold sameEntry at h
 simp only[Bool.and_eq_true,decide_eq_true_eq] at h
 obtain⟨h1,rfl⟩:=h
 unfold mayEntry entL
 rw[h1]
 exact⟨rfl,rfl⟩
theorem sameEnts_may:∀ {l m:List EP},sameEnts l m=true→(l.any fun u=>!mayEntry u.1 u.2)=(m.any fun u=>!mayEntry u.1 u.2)∧entsB l=entsB m
 | [],[],_=>⟨rfl,rfl⟩
 | [],_::_,h=>by simp[sameEnts] at h
 | _::_,[],h=>by simp[sameEnts] at h
 | p::l,q::m,h=>by
  unfold sameEnts at h
  simp only[Bool.and_eq_true] at h
  obtain⟨h1,h2⟩:=h
  obtain⟨a1,a2⟩:=sameEntry_may h1
  obtain⟨b1,b2⟩:=sameEnts_may h2
  rw[List.any_cons,List.any_cons,a1,b1,entsB_cons,entsB_cons,a2,b2]
  exact⟨rfl,rfl⟩
theorem sameEnts_empty {l m:List EP}(h:sameEnts l m=true):sameEnts l []=sameEnts m []:=by
 have:=sameEnts_len h
 cases l with
 | nil=>cases m with
  | nil=>rfl
  | cons q m=>simp at this
 | cons p l=>cases m with
  | nil=>simp at this
  | cons q m=>rfl
theorem mayRes_same {W W':World}{v v':QV}{c c':QC}(h:QAt W v c)(h':QAt W' v' c')(hs:sameRes v c v' c'=true):mayRes v c=mayRes v' c':=by
 have lx:=h.e.len
 have lx':=h'.e.len
 have lc:c.cursor.length=v.cn:=by have:=h.c.1;rw[byV_len] at this;omega
 have lc':c'.cursor.length=v'.cn:=by have:=h'.c.1;rw[byV_len] at this;omega
 unfold sameRes at hs
 simp only[Bool.and_eq_true,decide_eq_true_eq] at hs
 obtain⟨h1,h2,h3,h4⟩:=hs
 obtain⟨a1,a2⟩:=sameEnts_may h3
 have e1:v.en=v'.en:=by have:=sameEnts_len h3;omega
 have e2:v.cn=v'.cn:=by rw[←lc,←lc',h4]
 unfold mayRes sameRes bareQ
 dsimp only
 rw[h1,h2,e1,e2,a1,a2,h4,sameEnts_empty h3]
theorem res_inj {W W':World}{v v':QV}{c c':QC}(h:QAt W v c)(h':QAt W' v' c')(hm:mayRes v c=true)(hm':mayRes v' c'=true)(e:resL v c=resL v' c'):sameRes v c v' c'=true:=by
 have F:=FitQ.of h hm
 have F':=FitQ.of h' hm'
 have lc:c.cursor.length=v.cn:=by have:=h.c.1;rw[byV_len] at this;omega
 have lc':c'.cursor.length=v'.cn:=by have:=h'.c.1;rw[byV_len] at this;omega
 have a0:=F.c0;have a1:=F.c14;have a2:=F.len;have a3:=F.cn
 have b0:=F'.c0;have b1:=F'.c14;have b2:=F'.len;have b3:=F'.cn
 unfold resL at e
 obtain⟨h1,e⟩:=val_inj (by decide) (by rw[num8_len];omega) (by rw[num8_len];omega) e
 obtain⟨h2,e⟩:=val_inj (by decide) (by simp) (by simp) e
 obtain⟨h3,e⟩:=val_inj (by decide) (by omega) (by omega) e
 obtain⟨h4,-⟩:=val_inj (by decide) (by omega) (by omega) e
 have e1:=num8_inj (by omega) (by omega) h1
 have e2:v.yes=v'.yes:=by
  cases hy:v.yes<;>cases hy':v'.yes<;>rw[hy,hy'] at h2<;>first | rfl | (simp at h2)
 have e3:=ents_inj _ _ F.all F'.all h3
 unfold sameRes
 rw[decide_eq_true (show v.code=v'.code by omega),decide_eq_true e2,e3,decide_eq_true h4]
 rfl
def NoRes (b:List UInt8):Prop:=∀W v c,QAt W v c→mayRes v c=true→resL v c≠b
theorem took_map {α β:Type}{body:α→List UInt8}{may good:α→Prop}{body':β→List UInt8}{may' good':β→Prop}{f:α→β}{s s':RS}{y:α}(h:Took body may good s y s')(hb:∀z,body z=body' (f z))(hm:∀Y,may' Y→∃z,may z∧f z=Y)(hg:∀z,good z→good' (f z)):Took body' may' good' s (f y) s':=
 ⟨fun h1=>by obtain⟨a,b,c⟩:=h.yes h1;exact⟨a,by rw[←hb];exact b,hg _ c⟩,fun h1=>(h.no h1).imp id (fun k Y r hY=>by obtain⟨z,hz,rfl⟩:=hm Y hY;rw[←hb];exact k z r hz),h.le⟩
def EntsOk (Y:List UInt8):Prop:=∃l:List EP,Y=entsB l∧(∀p∈l,mayEntry p.1 p.2=true)∧l.length≤1000∧(entsB l).length≤4194304
section
variable {b cur Y:List UInt8} {s1 s2 s3 s4:RS} {n1:Nat} {y2:Bool}
 (T1:Took (fun n:Nat=>val 1 (num8 n)) (fun n=>n≤14) (fun n=>n<18446744073709551616) ⟨b,false⟩ n1 s1)
 (T2:Took (fun y:Bool=>val 2 [if y then 1 else 0]) (fun _=>True) (fun _=>True) s1 y2 s2)
 (T3:Took (val 3) EntsOk (fun z=>z.length≤4194304) s2 Y s3)
 (T4:Took (val 4) (fun z=>z.length≤4194304) (fun z=>z.length≤4194304) s3 cur s4)
include T1 T2 T3 T4
theorem res_none (h:(s4.bad=true∨0<s4.l.length)∨∀W v c,QAt W v c→mayRes v c=true→v.code=(n1:Int)→v.yes=y2→entsB c.ents=Y→c.cursor=cur→False):NoRes b:=by
 intro W v c ho hm e
 have F:=FitQ.of ho hm
 have lx:=ho.e.len
 have lc:c.cursor.length=v.cn:=by have:=ho.c.1;rw[byV_len] at this;omega
 have a0:=F.c0;have a1:=F.c14;have a2:=F.len;have a3:=F.cn
 unfold resL at e
 cases h1:s1.bad with
 | true=>
  rcases T1.no h1 with h | h
  ·cases h
  exact h v.code.toNat _ (by omega) e.symm
 | false=>
  obtain⟨-,e1,g1⟩:=T1.yes h1
  dsimp only at e1
  rw[e1] at e
  obtain⟨k1,e⟩:=val_inj (by decide) (by rw[num8_len];omega) (by rw[num8_len];omega) e
  cases h2:s2.bad with
  | true=>
   rcases T2.no h2 with h | h
   ·rw[h1] at h;cases h
   exact h v.yes _ trivial e.symm
  | false=>
   obtain⟨-,e2,g2⟩:=T2.yes h2
   rw[e2] at e
   obtain⟨k2,e⟩:=val_inj (by decide) (by simp) (by simp) e
   cases h3:s3.bad with
   | true=>
    rcases T3.no h3 with h | h
    ·rw[h2] at h;cases h
    exact h (entsB c.ents) _ ⟨c.ents,rfl,F.all,by have:=F.en;omega,a2⟩ e.symm
   | false=>
    obtain⟨-,e3,g3⟩:=T3.yes h3
    rw[e3] at e
    obtain⟨k3,e⟩:=val_inj (by decide) (by omega) g3 e
    cases h4:s4.bad with
    | true=>
     rcases T4.no h4 with h | h
     ·rw[h3] at h;cases h
     exact h c.cursor [] (by omega) e.symm
    | false=>
     obtain⟨-,e4,g4⟩:=T4.yes h4
     rw[e4] at e
     obtain⟨k4,e⟩:=val_inj (by decide) (by omega) g4 e
     rcases h with (h | h) | h
     ·rw[h4] at h;cases h
     ·rw[←e] at h;simp at h
     have q1:=num8_inj (by omega) (by omega) k1
     have q2:v.yes=y2:=by
      cases hy:v.yes<;>cases hy':y2<;>rw[hy,hy'] at k2<;>first | rfl | (simp at k2)
     exact h W v c ho hm (by omega) q2 k3 k4
theorem res_done (h4:s4.bad=false)(hl:s4.l=[]):b=val 1 (num8 n1)++(val 2 [if y2 then 1 else 0]++(val 3 Y++(val 4 cur++[])))∧n1<18446744073709551616∧Y.length≤4194304∧cur.length≤4194304:=by
 obtain⟨h3,e4,g4⟩:=T4.yes h4
 obtain⟨h2,e3,g3⟩:=T3.yes h3
 obtain⟨h1,e2,-⟩:=T2.yes h2
 obtain⟨-,e1,g1⟩:=T1.yes h1
 dsimp only at e1
 exact⟨by rw[e1,e2,e3,e4,hl],g1,g3,g4⟩
end
def flatE {α:Type}(el:α→List UInt8)(l:List α):List UInt8:=l.flatMap el
theorem flatE_cons {α:Type}(el:α→List UInt8)(z:α)(l:List α):flatE el (z::l)=el z++flatE el l:=rfl
theorem flatE_snoc {α:Type}(el:α→List UInt8)(l:List α)(z:α):flatE el (l++[z])=flatE el l++el z:=by simp[flatE]
theorem flatE_split {α:Type}{el:α→List UInt8}{may:α→Prop}(hinj:∀z z' r r',may z→may z'→el z++r=el z'++r'→r=r')(hpos:∀z,0<(el z).length):∀(l ys:List α) (b:List UInt8),(∀y∈l,may y)→(∀y∈ys,may y)→flatE el ys=flatE el l++b→∃zs,(∀z∈zs,may z)∧ys.length=l.length+zs.length∧b=flatE el zs
 | [],ys,b,_,hy,h=>⟨ys,hy,by simp,h.symm⟩
 | u::l,[],b,_,_,h=>by
  have:=congrArg List.length h
  rw[flatE_cons,List.length_append,List.length_append] at this
  have e0:(flatE el []).length=0:=rfl
  have:=hpos u
  omega
 | u::l,y::ys,b,hl,hy,h=>by
  rw[flatE_cons,flatE_cons,List.append_assoc] at h
  have h2:=hinj _ _ _ _ (hy y (by simp)) (hl u (by simp)) h
  obtain⟨zs,k1,k2,k3⟩:=flatE_split hinj hpos l ys b (fun z hz=>hl z (by simp[hz])) (fun z hz=>hy z (by simp[hz])) h2
  exact⟨zs,k1,by rw[List.length_cons,List.length_cons];omega,k3⟩
theorem flatE_long {α:Type}{el:α→List UInt8}(hpos:∀z,0<(el z).length)(l:List α):l.length≤(flatE el l).length:=by
 induction l with
 | nil=>simp
 | cons u l ih=>rw[flatE_cons,List.length_append,List.length_cons];have:=hpos u;omega
def GivesGl {α:Type}(B g:Nat)(t:UInt8)(s:RS)(xs:List Nat)(el:α→List UInt8)(may:α→Prop)(N:Nat)(St:Nat→List α→World→Prop)(W:World)(e:Ending)(w':World):Prop:=
 (∃r,e=.returned r)∧∃s' q l,RdS B g s' w'∧W.heap.size≤q∧St q l w'∧BelX W.heap.size (g::xs) W w'∧l.length≤20000000 ∧
  Took (fun ys=>val t (flatE el ys)) (fun ys=>(∀y∈ys,may y)∧ys.length≤N∧(flatE el ys).length≤4194304) (fun ys=>(∀y∈ys,may y)∧ys.length≤N∧(flatE el ys).length≤4194304) s l s'
def InvG {α:Type}(B g:Nat)(t:UInt8)(s:RS)(xs:List Nat)(el:α→List UInt8)(may:α→Prop)(N:Nat)(St:Nat→List α→World→Prop)(W:World)(q:Nat)(rest b:List UInt8)(wr:World):Prop:=
 ∃(x:List UInt8) (w1:World) (l:List α),s.take t=(some x,⟨rest,false⟩)∧w1.heap.size=q∧RdS B g ⟨rest,false⟩ w1∧W.grownBy w1 (some g)∧BelX q xs w1 wr∧RdS q q ⟨b,false⟩ wr∧St q l wr∧x=flatE el l++b∧(∀y∈l,may y)∧l.length≤N
def BadG {α:Type}(B g:Nat)(t:UInt8)(s:RS)(xs:List Nat)(el:α→List UInt8)(may:α→Prop)(N:Nat)(St:Nat→List α→World→Prop)(W:World)(rest:List UInt8)(wr:World):Prop:=
 ∃(x:List UInt8) (w1:World) (l:List α),s.take t=(some x,⟨rest,false⟩)∧RdS B g ⟨rest,false⟩ w1∧W.grownBy w1 (some g)∧BelX w1.heap.size xs w1 wr∧St w1.heap.size l wr∧l.length≤20000000∧∀ys,(∀y∈ys,may y)→ys.length≤N→(flatE el ys).length≤4194304→flatE el ys≠x
def StepG {α:Type}(q:Nat)(xs:List Nat)(el:α→List UInt8)(may:α→Prop)(N:Nat)(St:Nat→List α→World→Prop)(l:List α)(b:List UInt8)(wr:World)(e:Ending)(w':World):Prop:=
 ∃r s' y,e=.returned (.bool r)∧RdS q q s' w'∧St q (l++[y]) w'∧BelX q xs wr w'∧s'.l.length≤b.length∧(r=true→s'.bad=false→l.length<N∧b=el y++s'.l∧may y)∧(r=false∨s'.bad=true→N≤l.length∨∀z rest,may z→b≠el z++rest)
theorem glist_any {α:Type}(B g:Nat)(s:RS)(t:UInt8)(f:FuncId)(caps:Array Value)(W:World)(ht:0<t.toNat)(hr:RdS B g s W)(hl:s.l.length≤100000000)
  (hf:∀args w,(callFunc f args).run Tryz.prog w=.ok (.enter f args) w)
  (xs:List Nat) (hxs:∀k∈xs,k≠g∧∃o,W.heap[k]?=some o∧∀c fr,o≠.cells c 5 fr)
  (el:α→List UInt8) (may:α→Prop) (N:Nat) (hinj:∀z z' r r',may z→may z'→el z++r=el z'++r'→r=r') (hpos:∀z,0<(el z).length)
  (St:Nat→List α→World→Prop) (hst:∀q w1,W.grownBy w1 (some g)→St q [] w1)
  (hset:∀q l wx cs v,W.heap.size≤q→St q l wx→wx.heap[g]?=some (.cells cs 237)→St q l (wx.setCell ⟨g,1,none⟩ v))
  (hstep:∀q l b wr,W.heap.size≤q→St q l wr→RdS q q ⟨b,false⟩ wr→b.length≤4194304→l.length≤4194304→l.length≤N→Calls Tryz.prog f (#[.pointer (some ⟨q,0,none⟩)]++caps) wr (StepG q xs el may N St l b wr)) :
  Calls Tryz.prog 207 #[.pointer (some ⟨g,0,none⟩),.int .u8 (t.toNat:Int),.func (.func f) #[] caps] W (GivesGl B g t s xs el may N St W):=by
 have hgs:g<W.heap.size:=by obtain⟨_,_,h⟩:=hr;exact h.lt
 have htc:=take_cases s t ht
 have hlow:∀w1:World,W.grownBy w1 (some g)→∀k∈xs,∃o,w1.heap[k]?=some o∧∀c fr,o≠.cells c 5 fr:=by
  intro w1 h k hk
  obtain⟨h1,o,h2,h3⟩:=hxs k hk
  exact⟨o,(h.block _ (Array.getElem?_eq_some_iff.1 h2).1 (fun e=>h1 (Option.some.inj e))).trans h2,h3⟩
 have hgx:g∉xs:=fun h=>(hxs g h).1 rfl
 have hX:∀(w1 w':World),W.grownBy w1 (some g)→BelX w1.heap.size xs w1 w'→BelX W.heap.size (g::xs) W w':=fun w1 w' h k=>
  ((BelX.of_grown h).mono (Nat.le_refl _) (fun k hk _=>by rw[List.mem_singleton.1 hk];simp)).trans (k.mono h.size (fun k hk _=>List.mem_cons_of_mem _ hk))
 refine (rlist_any B g s t f caps W hr hl hf (InvG B g t s xs el may N St W) (BadG B g t s xs el may N St W) ?bad (fun q rest b w' h=>by obtain⟨x,w1,l,_,_,_,_,_,h,_⟩:=h;exact h) ?init ?step).mono ?post
 case bad=>
  rintro rest w' ⟨x,w1,l,_,k2,k3,k4,_⟩
  exact RdS.belX k2 k4 hgx (hlow w1 k3)
 case init=>
  intro x rest ao cap w1 htk hgr hrg hrd hty
  have hb1:Below w1.heap.size w1 (w1.alloc (.cells #[.slice ao x.length cap,.bool false,.bool true] 237)):=(Below.refl _ _).alloc (Nat.le_refl _) _
  refine⟨x,w1,[],htk,rfl,hrg,hgr,BelX.of_below hb1 _,⟨ao,cap,?_,Nat.le_refl _,hrd.later hb1,hty.later hb1⟩,hst _ _ (grown_trans hgr (grown_any hb1 _)),rfl,fun y hy=>(by cases hy),Nat.zero_le _⟩
  show (w1.heap.push _)[w1.heap.size]?=some _;simp
 case step=>
  rintro q rest b wr hb ⟨x,w1,l,htk,k1,k2,k3,k4,k5,k6,k8,k9,k10⟩
  obtain⟨_,_,_,t4,_⟩:=take_some htk
  have hxl:=t4
  rw[k8,List.length_append] at hxl
  have hlong:=flatE_long hpos l
  have hWq:W.heap.size≤q:=by rw[←k1];exact k3.size
  refine (hstep q l b wr hWq k6 k5 (by omega) (by omega) k10).mono ?_
  rintro e w' ⟨r,s',y,rfl,m1,m2,m4,m5,m6,m7⟩
  have hlen:(l++[y]).length≤20000000:=by rw[List.length_append,List.length_singleton];omega
  refine⟨r,s',rfl,m1,m5,fun hn=>⟨x,w1,l++[y],htk,k2,k3,?_,?_,hlen,fun ys hm hy1 hy2 e=>?_⟩,fun hr hb' hlt=>⟨x,w1,l++[y],htk,k1,k2,k3,k4.trans m4,rds_good m1 hb',m2,?_,?_,?_⟩⟩
  ·rw[k1];exact k4.trans m4
  ·rw[k1];exact m2
  ·rw[k8] at e
   obtain⟨zs,hzm,hzl,hz⟩:=flatE_split hinj hpos l ys b k9 hm e
   match zs,hz with
   | [],hz=>rw[hz] at hb;simp[flatE] at hb
   | z::zs,hz=>
    rw[List.length_cons] at hzl
    by_cases hc:r=false∨s'.bad=true
    ·rcases m7 hc with h | h
     ·omega
     exact h z (flatE el zs) (hzm z (by simp)) hz
    simp only[not_or,Bool.not_eq_false,Bool.not_eq_true] at hc
    obtain⟨_,h3,_⟩:=m6 hc.1 hc.2
    refine hn ⟨hc.1,hc.2,?_⟩
    have:=congrArg List.length h3
    rw[List.length_append] at this
    have:=hpos y
    omega
  ·obtain⟨_,h3,_⟩:=m6 hr hb'
   rw[flatE_snoc,List.append_assoc,←h3]
   exact k8
  ·obtain⟨_,_,h3⟩:=m6 hr hb'
   intro z hz
   rcases List.mem_append.1 hz with hz | hz
   ·exact k9 z hz
   rw[List.mem_singleton] at hz;subst hz;exact h3
  have:=(m6 hr hb').1
  rw[List.length_append,List.length_singleton]
  omega
 case post=>
  rintro e w' (⟨hx,rfl,m1,m2⟩ | ⟨x,rest,hx,⟨rfl,q,x',w1,l,hx',k1,k2,k3,k4,k5,k6,k8,k9,k10⟩ | ⟨rfl,wx,⟨x',w1,l,hx',k2,k3,k4,k6,k8,k9⟩,rfl⟩⟩)
  ·rcases htc with ⟨x,rest,h,_⟩ | ⟨s',h,e1,e2,e3⟩
   ·rw[h] at hx;cases hx
   refine⟨⟨_,rfl⟩,(s.take t).2,W.heap.size,[],m1,Nat.le_refl _,hst _ _ m2,hX w' w' m2 (BelX.refl _ _ _),Nat.zero_le _,⟨fun hb=>?_,fun _=>e3.imp id (fun h ys rest hy=>h _ rest hy.2.2),?_⟩⟩
   ·rw[h] at hb;rw[show s'.bad=true from e1] at hb;cases hb
   rw[h];exact Nat.le_of_eq (congrArg List.length e2)
  ·rw[hx] at hx'
   obtain rfl:=Option.some.inj (congrArg Prod.fst hx')
   obtain⟨t1,_,t3,t4,_⟩:=take_some hx
   rw[List.append_nil] at k8
   have hlong:=flatE_long hpos l
   subst k8
   refine⟨⟨_,rfl⟩,⟨rest,false⟩,q,l,RdS.belX k2 (k1▸k4) hgx (hlow w1 k3),by rw[←k1];exact k3.size,k6,hX w1 w' k3 (k1▸k4),by omega,⟨fun _=>⟨t1,t3,k9,k10,t4⟩,fun h=>(by cases h),?_⟩⟩
   rw[t3];exact val_long _ _ _
  rw[hx] at hx'
  obtain rfl:=Option.some.inj (congrArg Prod.fst hx')
  obtain⟨t1,_,t3,t4,_⟩:=take_some hx
  have hR:=RdS.belX k2 k4 hgx (hlow w1 k3)
  obtain⟨ao,cap,hR⟩:=hR
  refine⟨⟨_,rfl⟩,⟨rest,true⟩,w1.heap.size,l,⟨ao,cap,hR.fail⟩,k3.size,hset _ _ _ _ _ k3.size k6 hR.at_,(hX w1 wx k3 k4).set _ _ _ (.inl (by simp)),k8,⟨fun h=>(by cases h),fun _=>.inr fun ys rest' hy e=>?_,?_⟩⟩
  ·rw[t3] at e
   exact k9 ys hy.1 hy.2.1 hy.2.2 (val_inj ht t4 hy.2.2 e).1.symm
  rw[t3];exact val_long _ _ _
end Go.Proofs.YtfmmandlmbcncaaGreatDoor.Msg
