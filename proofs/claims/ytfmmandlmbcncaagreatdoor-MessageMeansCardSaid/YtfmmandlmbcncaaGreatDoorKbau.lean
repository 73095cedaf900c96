/-
  A part of the proof.
-/
import Derived.Test.YtfmmandlmbcncaaGreatDoorKbat
import Derived.Test.YtfmmandlmbcncaaGreatDoorKbar
set_option maxHeartbeats 40000000
namespace Go.Proofs.YtfmmandlmbcncaaGreatDoor.Msg
open Go.RowKit Go.Lib Go.Proofs.YtfmmandlmbcncaaGreatDoor.Mem Go.Proofs.YtfmmandlmbcncaaGreatDoor.Tlv
def NoOp (b:List UInt8):Prop:=∀W v c,OpAt W v c→mayOp v c=true→opL v c≠b
def tg (l:UInt8):UInt8:=if l=110 then 2 else if l=116 then 3 else if l=97 then 4 else if l=112 then 5 else if l=99 then 6 else 7
def bd (v:OV)(c:OC)(l:UInt8):List UInt8:=
 if l=110 then v.name.data.toList else if l=116 then v.to.data.toList else if l=97 then attB c.attrs else if l=112 then parB c.parts else if l=99 then c.cursor else num8 v.n.toNat
theorem tg_pos (l:UInt8):0<(tg l).toNat:=by
 unfold tg
 repeat' split
 all_goals decide
theorem letV_bd (v:OV)(c:OC)(l:UInt8):letV v c l=val (tg l) (bd v c l):=by
 unfold letV tg bd
 repeat' split
 all_goals rfl
theorem letV_len (v:OV)(c:OC)(l:UInt8):(letV v c l).length=5+(bd v c l).length:=by rw[letV_bd,val_len]
theorem strip {f g:UInt8→List UInt8}{r r':List UInt8}:∀(ls:List UInt8),(∀l∈ls,(f l).length≤4194304∧(g l).length≤4194304) →
  ls.flatMap (fun l=>val (tg l) (f l))++r=ls.flatMap (fun l=>val (tg l) (g l))++r'→(∀l∈ls,f l=g l)∧r=r'
 | [],_,h=>⟨fun _ h=>absurd h List.not_mem_nil,h⟩
 | l::ls,hl,h=>by
  rw[List.flatMap_cons,List.flatMap_cons,List.append_assoc,List.append_assoc] at h
  obtain⟨h1,h2⟩:=val_inj (tg_pos l) (hl l (by simp)).1 (hl l (by simp)).2 h
  obtain⟨h3,h4⟩:=strip ls (fun x hx=>hl x (by simp[hx])) h2
  refine⟨fun x hx=>?_,h4⟩
  rcases List.mem_cons.1 hx with rfl | hx
  ·exact h1
  exact h3 x hx
theorem attB_cons (u:ByteArray×ByteArray)(x:List (ByteArray×ByteArray)):attB (u::x)=val 3 (val 1 u.1.data.toList++val 2 u.2.data.toList)++attB x:=rfl
theorem parB_cons (u:ByteArray)(x:List ByteArray):parB (u::x)=val 1 u.data.toList++parB x:=rfl
theorem ba_data {a b:ByteArray}(h:a.data.toList=b.data.toList):a=b:=by
 cases a;cases b
 simpa using h
theorem attB_inj:∀(x y:List (ByteArray×ByteArray)),(attB x).length≤4194304→(attB y).length≤4194304→attB x=attB y→x=y
 | [],[],_,_,_=>rfl
 | [],u::y,_,_,h=>by
  have:=congrArg List.length h
  rw[attB_cons,List.length_append,val_len] at this
  have e0:(attB []).length=0:=rfl
  omega
 | u::x,[],_,_,h=>by
  have:=congrArg List.length h
  rw[attB_cons,List.length_append,val_len] at this
  have e0:(attB []).length=0:=rfl
  omega
 | u::x,u'::y,hx,hy,h=>by
  rw[attB_cons] at h hx hy
  rw[attB_cons] at h
  rw[List.length_append,val_len] at hx hy
  obtain⟨h1,h2⟩:=val_inj (by decide) (by omega) (by omega) h
  have hx1:=hx
  have hy1:=hy
  rw[List.length_append,val_len,val_len] at hx1 hy1
  obtain⟨h3,h4⟩:=val_inj (t:=1) (by decide) (by omega) (by omega) h1
  have h5:=(val_inj (t:=2) (a:=u.2.data.toList) (b:=u'.2.data.toList) (r:=[]) (r':=[]) (by decide) (by omega) (by omega) (by rw[List.append_nil,List.append_nil];exact h4)).1
  rw[attB_inj x y (by omega) (by omega) h2,show u=u' from Prod.ext (ba_data h3) (ba_data h5)]
theorem parB_inj:∀(x y:List ByteArray),(parB x).length≤4194304→(parB y).length≤4194304→parB x=parB y→x=y
 | [],[],_,_,_=>rfl
 | [],u::y,_,_,h=>by
  have:=congrArg List.length h
  rw[parB_cons,List.length_append,val_len] at this
  have e0:(parB []).length=0:=rfl
  omega
 | u::x,[],_,_,h=>by
  have:=congrArg List.length h
  rw[parB_cons,List.length_append,val_len] at this
  have e0:(parB []).length=0:=rfl
  omega
 | u::x,u'::y,hx,hy,h=>by
  rw[parB_cons] at h hx hy
  rw[parB_cons] at h
  rw[List.length_append,val_len] at hx hy
  obtain⟨h1,h2⟩:=val_inj (by decide) (by omega) (by omega) h
  rw[parB_inj x y (by omega) (by omega) h2,ba_data h1]
theorem num8_inj {n m:Nat}(hn:n<18446744073709551616)(hm:m<18446744073709551616)(h:num8 n=num8 m):n=m:=by
 rw[←numK_num8 n hn,←numK_num8 m hm,h]
def sameF (v:OV)(c:OC)(v':OV)(c':OC)(l:UInt8):Prop:=
 if l=110 then v.name=v'.name else if l=116 then v.to=v'.to else if l=97 then c.attrs=c'.attrs else if l=112 then c.parts=c'.parts else if l=99 then c.cursor=c'.cursor else v.n=v'.n
theorem bd_inj {v v':OV}{c c':OC}{l:UInt8}(h1:(bd v c l).length≤4194304)(h2:(bd v' c' l).length≤4194304)(n0:0≤v.n)(n1:v.n<9223372036854775808)(m0:0≤v'.n)(m1:v'.n<9223372036854775808)(h:bd v c l=bd v' c' l):sameF v c v' c' l:=by
 unfold bd at h h1 h2
 unfold sameF
 split
 ·rename_i e;rw[if_pos e,if_pos e] at h;exact ba_data h
 rename_i e1
 rw[if_neg e1] at h1 h2
 rw[if_neg e1,if_neg e1] at h
 split
 ·rename_i e;rw[if_pos e,if_pos e] at h;exact ba_data h
 rename_i e2
 rw[if_neg e2] at h1 h2
 rw[if_neg e2,if_neg e2] at h
 split
 ·rename_i e;rw[if_pos e,if_pos e] at h;rw[if_pos e] at h1 h2;exact attB_inj _ _ h1 h2 h
 rename_i e3
 rw[if_neg e3] at h1 h2
 rw[if_neg e3,if_neg e3] at h
 split
 ·rename_i e;rw[if_pos e,if_pos e] at h;rw[if_pos e] at h1 h2;exact parB_inj _ _ h1 h2 h
 rename_i e4
 rw[if_neg e4,if_neg e4] at h
 split
 ·rename_i e;rw[if_pos e,if_pos e] at h;exact h
 rename_i e5
 rw[if_neg e5,if_neg e5] at h
 have:=num8_inj (by omega) (by omega) h
 omega
structure OnlyL (ls:List UInt8)(v:OV)(c:OC):Prop where
 name:110∉ls→v.name=⟨#[]⟩
 to_:116∉ls→v.to=⟨#[]⟩
 attrs:97∉ls→c.attrs=[]
 parts:112∉ls→c.parts=[]
 cursor:99∉ls→c.cursor=[]
 n:107∉ls→v.n=0
theorem OnlyL.of_may {v:OV}{c:OC}(h:mayOp v c=true):OnlyL (fieldsOf v.k) v c:=by
 unfold mayOp mayOpA at h
 simp only[Bool.and_eq_true,decide_eq_true_eq,Bool.not_eq_true'] at h
 obtain⟨⟨⟨⟨⟨⟨h1,h2⟩,h3⟩,h4⟩,h5⟩,h6⟩,h7⟩:=h
 unfold sameOp at h2
 simp only[decide_eq_true_eq] at h2
 obtain⟨-,e2,e3,e4,e5,e6,e7⟩:=h2
 refine⟨fun h=>?_,fun h=>?_,fun h=>?_,fun h=>?_,fun h=>?_,fun h=>?_⟩
 ·rw[e2];unfold keepL;exact if_neg h
 ·rw[e3];unfold keepL;exact if_neg h
 ·rw[e4];unfold keepC;exact if_neg h
 ·rw[e5];unfold keepC;exact if_neg h
 ·rw[e6];unfold keepC;exact if_neg h
 rw[e7];unfold keepL;exact if_neg h
theorem only_same {v v':OV}{c c':OC}{ls:List UInt8}(hk:v.k=v'.k)(h:OnlyL ls v c)(h':OnlyL ls v' c')(hs:∀l∈ls,sameF v c v' c' l):sameOp v c v' c'=true:=by
 refine same_yes ⟨hk,?_,?_,?_,?_,?_,?_⟩
 ·by_cases hm:110∈ls
  ·exact hs _ hm
  rw[h.name hm,h'.name hm]
 ·by_cases hm:116∈ls
  ·exact hs _ hm
  rw[h.to_ hm,h'.to_ hm]
 ·by_cases hm:97∈ls
  ·exact hs _ hm
  rw[h.attrs hm,h'.attrs hm]
 ·by_cases hm:112∈ls
  ·exact hs _ hm
  rw[h.parts hm,h'.parts hm]
 ·by_cases hm:99∈ls
  ·exact hs _ hm
  rw[h.cursor hm,h'.cursor hm]
 by_cases hm:107∈ls
 ·exact hs _ hm
 rw[h.n hm,h'.n hm]
theorem may_k {v:OV}{c:OC}(h:mayOp v c=true):1≤v.k∧v.k≤8:=by
 unfold mayOp mayOpA at h
 simp only[Bool.and_eq_true,decide_eq_true_eq,Bool.not_eq_true'] at h
 have h1:=h.1.1.1.1.1.1
 rcases fields_kinds v.k with hf | ⟨hk,hf⟩ | ⟨hk,hf⟩ | ⟨hk,hf⟩ | ⟨hk,hf⟩ | ⟨hk,hf⟩ | ⟨hk,hf⟩ | ⟨hk,hf⟩ | ⟨hk,hf⟩
 ·exact absurd hf h1
 all_goals omega
theorem may_bd {W:World}{v:OV}{c:OC}(ho:OpAt W v c)(h:mayOp v c=true):(∀l,(bd v c l).length≤200000)∧0≤v.n∧v.n≤1000:=by
 obtain⟨h1,h2,h3⟩:=may_parts W ho h
 exact⟨fun l=>by have:=h3 l;rw[letV_len] at this;omega,h1.n0,h1.n1⟩
theorem opTo_eq (v:OV)(c:OC)(ls:List UInt8):opTo v c ls=val 1 (num8 v.k.toNat)++ls.flatMap (fun l=>val (tg l) (bd v c l)):=by
 unfold opTo
 rw[show letV v c=fun l=>val (tg l) (bd v c l) from funext (letV_bd v c)]
theorem front {W:World}{v v':OV}{c c':OC}{ls more r:List UInt8}(hk0:0≤v.k)(hk1:v.k<9223372036854775808)(hg:∀l∈ls,(bd v c l).length≤4194304)(ho:OpAt W v' c')(hm:mayOp v' c'=true)(hf:fieldsOf v.k=ls++more)
  (h:opL v' c'=opTo v c ls++r):v.k=v'.k∧(∀l∈ls,bd v c l=bd v' c' l)∧r=more.flatMap (fun l=>val (tg l) (bd v' c' l)):=by
 obtain⟨hb,hn0,hn1⟩:=may_bd ho hm
 have hk:=may_k hm
 unfold opL at h
 rw[opTo_eq,opTo_eq,List.append_assoc] at h
 obtain⟨h1,h2⟩:=val_inj (by decide) (by rw[num8_len];omega) (by rw[num8_len];omega) h
 have h3:=num8_inj (by omega) (by omega) h1
 have h4:v.k=v'.k:=by omega
 rw[←h4,hf,List.flatMap_append] at h2
 obtain⟨h5,h6⟩:=strip (f:=bd v' c') (g:=bd v c) ls (fun l hl=>⟨by have:=hb l;omega,hg l hl⟩) h2
 exact⟨h4,fun l hl=>(h5 l hl).symm,h6.symm⟩
structure Part (b:List UInt8)(v:OV)(c:OC)(ls:List UInt8)(s:RS):Prop where
 k0:0≤v.k
 k1:v.k<9223372036854775808
 only:OnlyL ls v c
 n0:0≤v.n
 n1:v.n<9223372036854775808
 good:∀l∈ls,s.bad=false→(bd v c l).length≤4194304
 yes:s.bad=false→b=opTo v c ls++s.l
 no:s.bad=true→NoOp b
 le:s.l.length≤b.length
theorem Part.step {b:List UInt8}{v v':OV}{c c':OC}{ls more:List UInt8}{s s':RS}{x:UInt8}(h:Part b v c ls s)(hk:v'.k=v.k)(hf:fieldsOf v.k=ls++x::more)(heq:∀l∈ls,bd v' c' l=bd v c l)(honly:OnlyL (ls++[x]) v' c')
  (n0:0≤v'.n) (n1:v'.n<9223372036854775808) (hle:s'.l.length≤s.l.length)
  (hyes:s'.bad=false→s.bad=false∧s.l=letV v' c' x++s'.l∧(bd v' c' x).length≤4194304)
  (hno:s'.bad=true→s.bad=true∨∀W v2 c2 rest,OpAt W v2 c2→mayOp v2 c2=true→s.l≠letV v2 c2 x++rest):Part b v' c' (ls++[x]) s' where
 k0:=by rw[hk];exact h.k0
 k1:=by rw[hk];exact h.k1
 only:=honly
 n0:=n0
 n1:=n1
 good:=fun l hl hb=>by
  obtain⟨h1,h2,h3⟩:=hyes hb
  rcases List.mem_append.1 hl with hl | hl
  ·rw[heq l hl];exact h.good l hl h1
  rw[List.mem_singleton.1 hl];exact h3
 yes:=fun hb=>by
  obtain⟨h1,h2,h3⟩:=hyes hb
  rw[h.yes h1,h2,opTo_eq,opTo_eq,hk,List.flatMap_append,List.flatMap_cons,List.flatMap_nil,List.append_nil,letV_bd]
  rw[show ls.flatMap (fun l=>val (tg l) (bd v' c' l))=ls.flatMap (fun l=>val (tg l) (bd v c l)) from by
   rw[List.flatMap_def,List.flatMap_def]
   congr 1
   exact List.map_congr_left (fun l hl=>by rw[heq l hl])]
  simp only[List.append_assoc]
 no:=fun hb=>by
  rcases hno hb with h1 | h1
  ·exact h.no h1
  intro W v2 c2 ho hm e
  cases hs:s.bad with
  | true=>exact h.no hs W v2 c2 ho hm e
  | false=>
   have h2:=h.yes hs
   obtain⟨_,_,h5⟩:=front h.k0 h.k1 (fun l hl=>h.good l hl hs) ho hm hf (e.trans h2)
   refine h1 W v2 c2 (more.flatMap (fun l=>val (tg l) (bd v2 c2 l))) ho hm ?_
   rw[h5,List.flatMap_cons,letV_bd]
 le:=Nat.le_trans hle h.le
theorem Part.done {b:List UInt8}{v:OV}{c:OC}{s:RS}(h:Part b v c (fieldsOf v.k) s)(hb:s.bad=false)(hl:s.l=[]):opL v c=b:=by
 have:=h.yes hb
 rw[hl,List.append_nil] at this
 exact this.symm
theorem Part.left {b:List UInt8}{v:OV}{c:OC}{s:RS}(h:Part b v c (fieldsOf v.k) s)(hl:s.bad=true∨0<s.l.length):NoOp b:=by
 cases hb:s.bad with
 | true=>exact h.no hb
 | false=>
  intro W v2 c2 ho hm e
  have h2:=h.yes hb
  obtain⟨_,_,h5⟩:=front (more:=[]) h.k0 h.k1 (fun l hl=>h.good l hl hb) ho hm (by simp) (e.trans h2)
  rcases hl with hl | hl
  ·rw[hb] at hl;cases hl
  rw[h5] at hl;simp at hl
theorem mayOp_congr {W W':World}{v v':OV}{c c':OC}(ho:OpAt W v c)(ho':OpAt W' v' c')(h:sameOp v c v' c'=true):mayOp v c=mayOp v' c':=by
 have la:c.attrs.length=v.an:=by have:=ho.a.1;rw[atV_len] at this;omega
 have lb:c.parts.length=v.bn:=by have:=ho.b.1;rw[txV_len] at this;omega
 have lc:c.cursor.length=v.cn:=by have:=ho.c.1;rw[byV_len] at this;omega
 have la':c'.attrs.length=v'.an:=by have:=ho'.a.1;rw[atV_len] at this;omega
 have lb':c'.parts.length=v'.bn:=by have:=ho'.b.1;rw[txV_len] at this;omega
 have lc':c'.cursor.length=v'.cn:=by have:=ho'.c.1;rw[byV_len] at this;omega
 unfold sameOp at h
 simp only[decide_eq_true_eq] at h
 obtain⟨e1,e2,e3,e4,e5,e6,e7⟩:=h
 unfold mayOp mayOpA restOp sameOp keepL keepC
 rw[←la,←lb,←lc,←la',←lb',←lc']
 simp only[e1,e2,e3,e4,e5,e6,e7]
theorem Part.notMay {W:World}{b:List UInt8}{v:OV}{c:OC}{s:RS}(h:Part b v c (fieldsOf v.k) s)(hb:s.bad=false)(hl:s.l=[])(ho:OpAt W v c)(hm:mayOp v c=false):NoOp b:=by
 intro W2 v2 c2 ho2 hm2 e
 have h2:=h.yes hb
 rw[hl] at h2
 obtain⟨h3,h4,_⟩:=front (more:=[]) h.k0 h.k1 (fun l hl=>h.good l hl hb) ho2 hm2 (by simp) (e.trans h2)
 obtain⟨hbd,m0,m1⟩:=may_bd ho2 hm2
 have hs:sameOp v c v2 c2=true:=by
  refine only_same h3 h.only (by rw[h3];exact OnlyL.of_may hm2) (fun l hl=>?_)
  exact bd_inj (h.good l hl hb) (by have:=hbd l;omega) h.n0 h.n1 m0 (by omega) (h4 l hl)
 rw[mayOp_congr ho ho2 hs,hm2] at hm
 cases hm
theorem op_inj {W W':World}{v v':OV}{c c':OC}(ho:OpAt W v c)(ho':OpAt W' v' c')(hm:mayOp v c=true)(hm':mayOp v' c'=true)(h:opL v c=opL v' c'):sameOp v c v' c'=true:=by
 have hk:=may_k hm
 obtain⟨hbd,n0,n1⟩:=may_bd ho hm
 obtain⟨hbd',m0,m1⟩:=may_bd ho' hm'
 obtain⟨h3,h4,_⟩:=front (v:=v) (c:=c) (ls:=fieldsOf v.k) (more:=[]) (r:=[]) (by omega) (by omega) (fun l _=>by have:=hbd l;omega) ho' hm' (by simp) (by rw[←h];unfold opL;simp)
 refine only_same h3 (OnlyL.of_may hm) (by rw[h3];exact OnlyL.of_may hm') (fun l hl=>?_)
 exact bd_inj (by have:=hbd l;omega) (by have:=hbd' l;omega) n0 (by omega) m0 (by omega) (h4 l hl)
theorem fields_split {k:Int}{j:Nat}{x:UInt8}(h:(fieldsOf k)[j]?=some x):fieldsOf k=(fieldsOf k).take j++x::(fieldsOf k).drop (j+1)∧(fieldsOf k).take (j+1)=(fieldsOf k).take j++[x]∧x∉(fieldsOf k).take j:=by
 have hj:j<(fieldsOf k).length:=(List.getElem?_eq_some_iff.1 h).1
 have hx:(fieldsOf k)[j]=x:=(List.getElem?_eq_some_iff.1 h).2
 refine⟨?_,?_,?_⟩
 ·rw[←hx,←List.drop_eq_getElem_cons hj,List.take_append_drop]
 ·rw[List.take_succ_eq_append_getElem hj,hx]
 rcases fields_kinds k with hf | ⟨_,hf⟩ | ⟨_,hf⟩ | ⟨_,hf⟩ | ⟨_,hf⟩ | ⟨_,hf⟩ | ⟨_,hf⟩ | ⟨_,hf⟩ | ⟨_,hf⟩
 all_goals
  rw[hf] at h ⊢
  rcases j with _ | _ | _ | j<;>simp at h<;>subst h<;>decide
end Go.Proofs.YtfmmandlmbcncaaGreatDoor.Msg
