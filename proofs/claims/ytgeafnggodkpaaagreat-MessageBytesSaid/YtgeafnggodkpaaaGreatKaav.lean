/-
  A part of the proof.
-/
import Derived.Laws.CopyOwn
import Derived.Test.YtgeafnggodkpaaaGreatKaau
import Derived.Test.YtgeafnggodkpaaaGreatKaas
import Derived.Test.YtgeafnggodkpaaaGreatKaaf
import Derived.Test.YtgeafnggodkpaaaGreatKaal
import Derived.Test.YtgeafnggodkpaaaGreatKaab
import Derived.Test.YtgeafnggodkpaaaGreatKaao
set_option maxHeartbeats 40000000
namespace Go.Proofs.YtgeafnggodkpaaaGreat.Msg
open Go.RowKit Go.Lib Go.Proofs.YtgeafnggodkpaaaGreat.Mem Go.Proofs.YtgeafnggodkpaaaGreat.Tlv
def NoOp (b:List UInt8):Prop:=∀W v c,OpAt W v c→mayOp v c=true→opL v c≠b
def tg (l:UInt8):UInt8:=if l=110 then 2 else if l=116 then 3 else if l=97 then 4 else if l=112 then 5 else if l=99 then 6 else 7
def bd (v:OV)(c:OC)(l:UInt8):List UInt8:=
 if l=110 then v.name.data.toList else if l=116 then v.to.data.toList else if l=97 then attB c.attrs else if l=112 then parB c.parts else if l=99 then c.cursor else num8 v.n.toNat
theorem tg_pos (l:UInt8):0<(tg l).toNat:=by
 unfold tg
 repeat' split
 all_goals decide
theorem letV_bd (v:OV)(c:OC)(l:UInt8):letV v c l=val (tg l) (bd v c l):=by
 unfold letV tg bd
 repeat' split
 all_goals rfl
theorem letV_len (v:OV)(c:OC)(l:UInt8):(letV v c l).length=5+(bd v c l).length:=by rw[letV_bd,val_len]
theorem strip {f g:UInt8→List UInt8}{r r':List UInt8}:∀(ls:List UInt8),(∀l∈ls,(f l).length≤4194304∧(g l).length≤4194304) →
  ls.flatMap (fun l=>val (tg l) (f l))++r=ls.flatMap (fun l=>val (tg l) (g l))++r'→(∀l∈ls,f l=g l)∧r=r'
 | [],_,h=>⟨fun _ h=>absurd h List.not_mem_nil,h⟩
 | l::ls,hl,h=>by
  rw[List.flatMap_cons,List.flatMap_cons,List.append_assoc,List.append_assoc] at h
  obtain⟨h1,h2⟩:=val_inj (tg_pos l) (hl l (by simp)).1 (hl l (by simp)).2 h
  obtain⟨h3,h4⟩:=strip ls (fun x hx=>hl x (by simp[hx])) h2
  refine⟨fun x hx=>?_,h4⟩
  rcases List.mem_cons.1 hx with rfl | hx
  ·exact h1
  exact h3 x hx
theorem attB_cons (u:ByteArray×ByteArray)(x:List (ByteArray×ByteArray)):attB (u::x)=val 3 (val 1 u.1.data.toList++val 2 u.2.data.toList)++attB x:=rfl
theorem parB_cons (u:ByteArray)(x:List ByteArray):parB (u::x)=val 1 u.data.toList++parB x:=rfl
theorem ba_data {a b:ByteArray}(h:a.data.toList=b.data.toList):a=b:=by
 cases a;cases b
 simpa using h
theorem attB_inj:∀(x y:List (ByteArray×ByteArray)),(attB x).length≤4194304→(attB y).length≤4194304→attB x=attB y→x=y
 | [],[],_,_,_=>rfl
 | [],u::y,_,_,h=>by
  have:=congrArg List.length h
  rw[attB_cons,List.length_append,val_len] at this
  have e0:(attB []).length=0:=rfl
  omega
 | u::x,[],_,_,h=>by
  have:=congrArg List.length h
  rw[attB_cons,List.length_append,val_len] at this
  have e0:(attB []).length=0:=rfl
  omega
 | u::x,u'::y,hx,hy,h=>by
  rw[attB_cons] at h hx hy
  rw[attB_cons] at h
  rw[List.length_append,val_len] at hx hy
  obtain⟨h1,h2⟩:=val_inj (by decide) (by omega) (by omega) h
  have hx1:=hx
  have hy1:=hy
  rw[List.length_append,val_len,val_len] at hx1 hy1
  obtain⟨h3,h4⟩:=val_inj (t:=1) (by decide) (by omega) (by omega) h1
  have h5:=(val_inj (t:=2) (a:=u.2.data.toList) (b:=u'.2.data.toList) (r:=[]) (r':=[]) (by decide) (by omega) (by omega) (by rw[List.append_nil,List.append_nil];exact h4)).1
  rw[attB_inj x y (by omega) (by omega) h2,show u=u' from Prod.ext (ba_data h3) (ba_data h5)]
theorem parB_inj:∀(x y:List ByteArray),(parB x).length≤4194304→(parB y).length≤4194304→parB x=parB y→x=y
 | [],[],_,_,_=>rfl
 | [],u::y,_,_,h=>by
  have:=congrArg List.length h
  rw[parB_cons,List.length_append,val_len] at this
  have e0:(parB []).length=0:=rfl
  omega
 | u::x,[],_,_,h=>by
  have:=congrArg List.length h
  rw[parB_cons,List.length_append,val_len] at this
  have e0:(parB []).length=0:=rfl
  omega
 | u::x,u'::y,hx,hy,h=>by
  rw[parB_cons] at h hx hy
  rw[parB_cons] at h
  rw[List.length_append,val_len] at hx hy
  obtain⟨h1,h2⟩:=val_inj (by decide) (by omega) (by omega) h
  rw[parB_inj x y (by omega) (by omega) h2,ba_data h1]
theorem num8_inj {n m:Nat}(hn:n<18446744073709551616)(hm:m<18446744073709551616)(h:num8 n=num8 m):n=m:=by
 rw[←numK_num8 n hn,←numK_num8 m hm,h]
def sameF (v:OV)(c:OC)(v':OV)(c':OC)(l:UInt8):Prop:=
 if l=110 then v.name=v'.name else if l=116 then v.to=v'.to else if l=97 then c.attrs=c'.attrs else if l=112 then c.parts=c'.parts else if l=99 then c.cursor=c'.cursor else v.n=v'.n
theorem bd_inj {v v':OV}{c c':OC}{l:UInt8}(h1:(bd v c l).length≤4194304)(h2:(bd v' c' l).length≤4194304)(n0:0≤v.n)(n1:v.n<9223372036854775808)(m0:0≤v'.n)(m1:v'.n<9223372036854775808)(h:bd v c l=bd v' c' l):sameF v c v' c' l:=by
 unfold bd at h h1 h2
 unfold sameF
 split
 ·rename_i e;rw[if_pos e,if_pos e] at h;exact ba_data h
 rename_i e1
 rw[if_neg e1] at h1 h2
 rw[if_neg e1,if_neg e1] at h
 split
 ·rename_i e;rw[if_pos e,if_pos e] at h;exact ba_data h
 rename_i e2
 rw[if_neg e2] at h1 h2
 rw[if_neg e2,if_neg e2] at h
 split
 ·rename_i e;rw[if_pos e,if_pos e] at h;rw[if_pos e] at h1 h2;exact attB_inj _ _ h1 h2 h
 rename_i e3
 rw[if_neg e3] at h1 h2
 rw[if_neg e3,if_neg e3] at h
 split
 ·rename_i e;rw[if_pos e,if_pos e] at h;rw[if_pos e] at h1 h2;exact parB_inj _ _ h1 h2 h
 rename_i e4
 rw[if_neg e4,if_neg e4] at h
 split
 ·rename_i e;rw[if_pos e,if_pos e] at h;exact h
 rename_i e5
 rw[if_neg e5,if_neg e5] at h
 have:=num8_inj (by omega) (by omega) h
 omega
structure OnlyL (ls:List UInt8)(v:OV)(c:OC):Prop where
 name:110∉ls→v.name=⟨#[]⟩
 to_:116∉ls→v.to=⟨#[]⟩
 attrs:97∉ls→c.attrs=[]
 parts:112∉ls→c.parts=[]
 cursor:99∉ls→c.cursor=[]
 n:107∉ls→v.n=0
theorem OnlyL.of_may {v:OV}{c:OC}(h:mayOp v c=true):OnlyL (fieldsOf v.k) v c:=by
 unfold mayOp mayOpA at h
 simp only[Bool.and_eq_true,decide_eq_true_eq,Bool.not_eq_true'] at h
 obtain⟨⟨⟨⟨⟨⟨h1,h2⟩,h3⟩,h4⟩,h5⟩,h6⟩,h7⟩:=h
 unfold sameOp at h2
 simp only[decide_eq_true_eq] at h2
 obtain⟨-,e2,e3,e4,e5,e6,e7⟩:=h2
 refine⟨fun h=>?_,fun h=>?_,fun h=>?_,fun h=>?_,fun h=>?_,fun h=>?_⟩
 ·rw[e2];unfold keepL;exact if_neg h
 ·rw[e3];unfold keepL;exact if_neg h
 ·rw[e4];unfold keepC;exact if_neg h
 ·rw[e5];unfold keepC;exact if_neg h
 ·rw[e6];unfold keepC;exact if_neg h
 rw[e7];unfold keepL;exact if_neg h
theorem only_same {v v':OV}{c c':OC}{ls:List UInt8}(hk:v.k=v'.k)(h:OnlyL ls v c)(h':OnlyL ls v' c')(hs:∀l∈ls,sameF v c v' c' l):sameOp v c v' c'=true:=by
 refine same_yes ⟨hk,?_,?_,?_,?_,?_,?_⟩
 ·by_cases hm:110∈ls
  ·exact hs _ hm
  rw[h.name hm,h'.name hm]
 ·by_cases hm:116∈ls
  ·exact hs _ hm
  rw[h.to_ hm,h'.to_ hm]
 ·by_cases hm:97∈ls
  ·exact hs _ hm
  rw[h.attrs hm,h'.attrs hm]
 ·by_cases hm:112∈ls
  ·exact hs _ hm
  rw[h.parts hm,h'.parts hm]
 ·by_cases hm:99∈ls
  ·exact hs _ hm
  rw[h.cursor hm,h'.cursor hm]
 by_cases hm:107∈ls
 ·exact hs _ hm
 rw[h.n hm,h'.n hm]
theorem may_k {v:OV}{c:OC}(h:mayOp v c=true):1≤v.k∧v.k≤8:=by
 unfold mayOp mayOpA at h
 simp only[Bool.and_eq_true,decide_eq_true_eq,Bool.not_eq_true'] at h
 have h1:=h.1.1.1.1.1.1
 rcases fields_kinds v.k with hf | ⟨hk,hf⟩ | ⟨hk,hf⟩ | ⟨hk,hf⟩ | ⟨hk,hf⟩ | ⟨hk,hf⟩ | ⟨hk,hf⟩ | ⟨hk,hf⟩ | ⟨hk,hf⟩
 ·exact absurd hf h1
 all_goals omega
theorem may_bd {W:World}{v:OV}{c:OC}(ho:OpAt W v c)(h:mayOp v c=true):(∀l,(bd v c l).length≤200000)∧0≤v.n∧v.n≤1000:=by
 obtain⟨h1,h2,h3⟩:=may_parts W ho h
 exact⟨fun l=>by have:=h3 l;rw[letV_len] at this;omega,h1.n0,h1.n1⟩
theorem opTo_eq (v:OV)(c:OC)(ls:List UInt8):opTo v c ls=val 1 (num8 v.k.toNat)++ls.flatMap (fun l=>val (tg l) (bd v c l)):=by
 unfold opTo
 rw[show letV v c=fun l=>val (tg l) (bd v c l) from funext (letV_bd v c)]
theorem front {W:World}{v v':OV}{c c':OC}{ls more r:List UInt8}(hk0:0≤v.k)(hk1:v.k<9223372036854775808)(hg:∀l∈ls,(bd v c l).length≤4194304)(ho:OpAt W v' c')(hm:mayOp v' c'=true)(hf:fieldsOf v.k=ls++more)
  (h:opL v' c'=opTo v c ls++r):v.k=v'.k∧(∀l∈ls,bd v c l=bd v' c' l)∧r=more.flatMap (fun l=>val (tg l) (bd v' c' l)):=by
 obtain⟨hb,hn0,hn1⟩:=may_bd ho hm
 have hk:=may_k hm
 unfold opL at h
 rw[opTo_eq,opTo_eq,List.append_assoc] at h
 obtain⟨h1,h2⟩:=val_inj (by decide) (by rw[num8_len];omega) (by rw[num8_len];omega) h
 have h3:=num8_inj (by omega) (by omega) h1
 have h4:v.k=v'.k:=by omega
 rw[←h4,hf,List.flatMap_append] at h2
 obtain⟨h5,h6⟩:=strip (f:=bd v' c') (g:=bd v c) ls (fun l hl=>⟨by have:=hb l;omega,hg l hl⟩) h2
 exact⟨h4,fun l hl=>(h5 l hl).symm,h6.symm⟩
structure Part (b:List UInt8)(v:OV)(c:OC)(ls:List UInt8)(s:RS):Prop where
 k0:0≤v.k
 k1:v.k<9223372036854775808
 only:OnlyL ls v c
 n0:0≤v.n
 n1:v.n<9223372036854775808
 good:∀l∈ls,s.bad=false→(bd v c l).length≤4194304
 yes:s.bad=false→b=opTo v c ls++s.l
 no:s.bad=true→NoOp b
 le:s.l.length≤b.length
theorem Part.start {b:List UInt8}{n:Nat}{s:RS}(h:Took (fun n:Nat=>val 1 (num8 n)) (fun n=>n<18446744073709551616) (fun n=>n<18446744073709551616) ⟨b,false⟩ n s)(hn:n≤255) :
  Part b ⟨(n:Int),⟨#[]⟩,⟨#[]⟩,none,0,0,none,0,0,none,0,0,0⟩ ⟨[],[],[]⟩ [] s where
 k0:=by dsimp only;omega
 k1:=by dsimp only;omega
 only:=⟨fun _=>rfl,fun _=>rfl,fun _=>rfl,fun _=>rfl,fun _=>rfl,fun _=>rfl⟩
 n0:=by dsimp only;omega
 n1:=by dsimp only;omega
 good:=fun l hl=>absurd hl List.not_mem_nil
 yes:=fun hb=>by
  have:=(h.yes hb).2.1
  rw[opTo_eq]
  simpa using this
 no:=fun hb=>by
  rcases h.no hb with h | h
  ·cases h
  intro W v c ho hm e
  have hk:=may_k hm
  refine h v.k.toNat ((fieldsOf v.k).flatMap (letV v c)) (by omega) ?_
  rw[←e]
  rfl
 le:=h.le
theorem Part.noKind {b:List UInt8}{n:Nat}{s:RS}(h:Took (fun n:Nat=>val 1 (num8 n)) (fun n=>n<18446744073709551616) (fun n=>n<18446744073709551616) ⟨b,false⟩ n s)(hn:8<n∨n<1):NoOp b:=by
 intro W v c ho hm e
 have hk:=may_k hm
 cases hb:s.bad with
 | false=>
  obtain⟨_,h1,h2⟩:=h.yes hb
  dsimp only at h1
  rw[←e] at h1
  unfold opL opTo at h1
  obtain⟨h3,_⟩:=val_inj (by decide) (by rw[num8_len];omega) (by rw[num8_len];omega) h1
  have:=num8_inj (by omega) h2 h3
  omega
 | true=>
  rcases h.no hb with h | h
  ·cases h
  refine h v.k.toNat ((fieldsOf v.k).flatMap (letV v c)) (by omega) ?_
  rw[←e]
  rfl
theorem Part.step {b:List UInt8}{v v':OV}{c c':OC}{ls more:List UInt8}{s s':RS}{x:UInt8}(h:Part b v c ls s)(hk:v'.k=v.k)(hf:fieldsOf v.k=ls++x::more)(heq:∀l∈ls,bd v' c' l=bd v c l)(honly:OnlyL (ls++[x]) v' c')
  (n0:0≤v'.n) (n1:v'.n<9223372036854775808) (hle:s'.l.length≤s.l.length)
  (hyes:s'.bad=false→s.bad=false∧s.l=letV v' c' x++s'.l∧(bd v' c' x).length≤4194304)
  (hno:s'.bad=true→s.bad=true∨∀W v2 c2 rest,OpAt W v2 c2→mayOp v2 c2=true→s.l≠letV v2 c2 x++rest):Part b v' c' (ls++[x]) s' where
 k0:=by rw[hk];exact h.k0
 k1:=by rw[hk];exact h.k1
 only:=honly
 n0:=n0
 n1:=n1
 good:=fun l hl hb=>by
  obtain⟨h1,h2,h3⟩:=hyes hb
  rcases List.mem_append.1 hl with hl | hl
  ·rw[heq l hl];exact h.good l hl h1
  rw[List.mem_singleton.1 hl];exact h3
 yes:=fun hb=>by
  obtain⟨h1,h2,h3⟩:=hyes hb
  rw[h.yes h1,h2,opTo_eq,opTo_eq,hk,List.flatMap_append,List.flatMap_cons,List.flatMap_nil,List.append_nil,letV_bd]
  rw[show ls.flatMap (fun l=>val (tg l) (bd v' c' l))=ls.flatMap (fun l=>val (tg l) (bd v c l)) from by
   rw[List.flatMap_def,List.flatMap_def]
   congr 1
   exact List.map_congr_left (fun l hl=>by rw[heq l hl])]
  simp only[List.append_assoc]
 no:=fun hb=>by
  rcases hno hb with h1 | h1
  ·exact h.no h1
  intro W v2 c2 ho hm e
  cases hs:s.bad with
  | true=>exact h.no hs W v2 c2 ho hm e
  | false=>
   have h2:=h.yes hs
   obtain⟨_,_,h5⟩:=front h.k0 h.k1 (fun l hl=>h.good l hl hs) ho hm hf (e.trans h2)
   refine h1 W v2 c2 (more.flatMap (fun l=>val (tg l) (bd v2 c2 l))) ho hm ?_
   rw[h5,List.flatMap_cons,letV_bd]
 le:=Nat.le_trans hle h.le
theorem Part.done {b:List UInt8}{v:OV}{c:OC}{s:RS}(h:Part b v c (fieldsOf v.k) s)(hb:s.bad=false)(hl:s.l=[]):opL v c=b:=by
 have:=h.yes hb
 rw[hl,List.append_nil] at this
 exact this.symm
theorem Part.left {b:List UInt8}{v:OV}{c:OC}{s:RS}(h:Part b v c (fieldsOf v.k) s)(hl:s.bad=true∨0<s.l.length):NoOp b:=by
 cases hb:s.bad with
 | true=>exact h.no hb
 | false=>
  intro W v2 c2 ho hm e
  have h2:=h.yes hb
  obtain⟨_,_,h5⟩:=front (more:=[]) h.k0 h.k1 (fun l hl=>h.good l hl hb) ho hm (by simp) (e.trans h2)
  rcases hl with hl | hl
  ·rw[hb] at hl;cases hl
  rw[h5] at hl;simp at hl
theorem mayOp_congr {W W':World}{v v':OV}{c c':OC}(ho:OpAt W v c)(ho':OpAt W' v' c')(h:sameOp v c v' c'=true):mayOp v c=mayOp v' c':=by
 have la:c.attrs.length=v.an:=by have:=ho.a.1;rw[atV_len] at this;omega
 have lb:c.parts.length=v.bn:=by have:=ho.b.1;rw[txV_len] at this;omega
 have lc:c.cursor.length=v.cn:=by have:=ho.c.1;rw[byV_len] at this;omega
 have la':c'.attrs.length=v'.an:=by have:=ho'.a.1;rw[atV_len] at this;omega
 have lb':c'.parts.length=v'.bn:=by have:=ho'.b.1;rw[txV_len] at this;omega
 have lc':c'.cursor.length=v'.cn:=by have:=ho'.c.1;rw[byV_len] at this;omega
 unfold sameOp at h
 simp only[decide_eq_true_eq] at h
 obtain⟨e1,e2,e3,e4,e5,e6,e7⟩:=h
 unfold mayOp mayOpA restOp sameOp keepL keepC
 rw[←la,←lb,←lc,←la',←lb',←lc']
 simp only[e1,e2,e3,e4,e5,e6,e7]
theorem Part.notMay {W:World}{b:List UInt8}{v:OV}{c:OC}{s:RS}(h:Part b v c (fieldsOf v.k) s)(hb:s.bad=false)(hl:s.l=[])(ho:OpAt W v c)(hm:mayOp v c=false):NoOp b:=by
 intro W2 v2 c2 ho2 hm2 e
 have h2:=h.yes hb
 rw[hl] at h2
 obtain⟨h3,h4,_⟩:=front (more:=[]) h.k0 h.k1 (fun l hl=>h.good l hl hb) ho2 hm2 (by simp) (e.trans h2)
 obtain⟨hbd,m0,m1⟩:=may_bd ho2 hm2
 have hs:sameOp v c v2 c2=true:=by
  refine only_same h3 h.only (by rw[h3];exact OnlyL.of_may hm2) (fun l hl=>?_)
  exact bd_inj (h.good l hl hb) (by have:=hbd l;omega) h.n0 h.n1 m0 (by omega) (h4 l hl)
 rw[mayOp_congr ho ho2 hs,hm2] at hm
 cases hm
theorem op_inj {W W':World}{v v':OV}{c c':OC}(ho:OpAt W v c)(ho':OpAt W' v' c')(hm:mayOp v c=true)(hm':mayOp v' c'=true)(h:opL v c=opL v' c'):sameOp v c v' c'=true:=by
 have hk:=may_k hm
 obtain⟨hbd,n0,n1⟩:=may_bd ho hm
 obtain⟨hbd',m0,m1⟩:=may_bd ho' hm'
 obtain⟨h3,h4,_⟩:=front (v:=v) (c:=c) (ls:=fieldsOf v.k) (more:=[]) (r:=[]) (by omega) (by omega) (fun l _=>by have:=hbd l;omega) ho' hm' (by simp) (by rw[←h];unfold opL;simp)
 refine only_same h3 (OnlyL.of_may hm) (by rw[h3];exact OnlyL.of_may hm') (fun l hl=>?_)
 exact bd_inj (by have:=hbd l;omega) (by have:=hbd' l;omega) n0 (by omega) m0 (by omega) (h4 l hl)
end Go.Proofs.YtgeafnggodkpaaaGreat.Msg
namespace Go.Proofs.YtgeafnggodkpaaaGreat.Tlv
open Go.RowKit Go.Proofs.YtgeafnggodkpaaaGreat.Mem
structure BelX (M:Nat)(xs:List Nat)(w w':World):Prop where
 os:w'.os=w.os
 tape:w'.tape=w.tape
 output:w'.output=w.output
 size:w.heap.size≤w'.heap.size
 block:∀k,k<M→k∉xs→w'.heap[k]?=w.heap[k]?
theorem BelX.refl (M:Nat)(xs:List Nat)(w:World):BelX M xs w w:=⟨rfl,rfl,rfl,Nat.le_refl _,fun _ _ _=>rfl⟩
theorem BelX.trans {M:Nat}{xs:List Nat}{a b c:World}(h:BelX M xs a b)(k:BelX M xs b c):BelX M xs a c:=
 ⟨k.os.trans h.os,k.tape.trans h.tape,k.output.trans h.output,Nat.le_trans h.size k.size,fun j h1 h2=>(k.block j h1 h2).trans (h.block j h1 h2)⟩
theorem BelX.of_below {M:Nat}{a b:World}(h:Below M a b)(xs:List Nat):BelX M xs a b:=⟨h.os,h.tape,h.output,h.size,fun k h1 _=>h.block k h1⟩
theorem BelX.of_grown {g:Nat}{a b:World}(h:a.grownBy b (some g)):BelX a.heap.size [g] a b:=⟨h.os,h.tape,h.output,h.size,fun k h1 h2=>h.block k h1 (fun e=>h2 (by simp[Option.some.inj e]))⟩
theorem BelX.mono {M M':Nat}{xs ys:List Nat}{a b:World}(h:BelX M xs a b)(hM:M'≤M)(hxs:∀k∈xs,k<M'→k∈ys):BelX M' ys a b:=
 ⟨h.os,h.tape,h.output,h.size,fun k h1 h2=>h.block k (Nat.lt_of_lt_of_le h1 hM) (fun e=>h2 (hxs k e h1))⟩
theorem BelX.set {M:Nat}{xs:List Nat}{a b:World}(h:BelX M xs a b)(k i:Nat)(v:Value)(hk:k∈xs∨M≤k):BelX M xs a (b.setCell ⟨k,i,none⟩ v):=by
 have hs:=Below.heap_setCell b ⟨k,i,none⟩ v
 have hb:Below k b (b.setCell ⟨k,i,none⟩ v):=(Below.refl k b).setCell (p:=⟨k,i,none⟩) (Nat.le_refl _) v
 refine⟨hb.os.trans h.os,hb.tape.trans h.tape,hb.output.trans h.output,Nat.le_trans h.size hb.size,fun j h1 h2=>(hs j ?_).trans (h.block j h1 h2)⟩
 intro e
 have e:j=k:=e
 subst e
 rcases hk with hk | hk
 ·exact h2 hk
 omega
theorem BelX.at_ {M k:Nat}{xs:List Nat}{a b:World}(h:BelX M xs a b){o:Obj}(hk:a.heap[k]?=some o)(h1:k<M)(h2:k∉xs):b.heap[k]?=some o:=(h.block k h1 h2).trans hk
def RS.numM (s:RS)(t:UInt8)(most:Nat):Nat×RS:=if most<(s.num t).1 then (0,⟨(s.num t).2.l,true⟩) else s.num t
theorem numM_le (s:RS)(t:UInt8)(most:Nat):(s.numM t most).1≤most:=by
 unfold RS.numM
 split
 ·exact Nat.zero_le _
 rename_i h;omega
theorem took_numM (s:RS)(t:UInt8)(most:Nat)(ht:0<t.toNat)(hm:most<18446744073709551616):Took (fun n:Nat=>val t (num8 n)) (fun n=>n≤most) (fun n=>n≤most) s (s.numM t most).1 (s.numM t most).2:=by
 have h:=took_num s t ht
 unfold RS.numM
 split
 ·rename_i hlt
  refine⟨fun e=>(by cases e),fun _=>?_,h.le⟩
  cases hb:(s.num t).2.bad with
  | true=>exact (h.no hb).imp id (fun h z r hz=>h z r (by omega))
  | false=>
   obtain⟨h1,h2,h3⟩:=h.yes hb
   refine .inr fun z r hz e=>?_
   rw[h2] at e
   have:=(val_inj ht (by rw[num8_len];omega) (by rw[num8_len];omega) e).1
   have h4:(s.num t).1=z:=by rw[←numK_num8 _ h3,←numK_num8 z (by omega),this]
   omega
 rename_i hlt
 exact⟨fun e=>⟨(h.yes e).1,(h.yes e).2.1,by omega⟩,fun e=>(h.no e).imp id (fun h z r hz=>h z r (by omega)),h.le⟩
end Go.Proofs.YtgeafnggodkpaaaGreat.Tlv
namespace Go.Proofs.YtgeafnggodkpaaaGreat.Msg
open Go.RowKit Go.Lib Go.Proofs.YtgeafnggodkpaaaGreat.Mem Go.Proofs.YtgeafnggodkpaaaGreat.Tlv
def atBy (u:ByteArray×ByteArray):List UInt8:=val 1 u.1.data.toList++val 2 u.2.data.toList
def NoAt (x:List UInt8):Prop:=∀u:ByteArray×ByteArray,(atBy u).length≤4194304→atBy u≠x
theorem atBy_len (u:ByteArray×ByteArray):(atBy u).length=10+u.1.data.toList.length+u.2.data.toList.length:=by unfold atBy;rw[List.length_append,val_len,val_len];omega
theorem atV_snoc (xs:List (ByteArray×ByteArray))(u:ByteArray×ByteArray):atV (xs++[u])=atV xs++[.string u.1,.string u.2]:=by simp[atV]
theorem atBox_load {W:World}{b:Nat}{u:ByteArray×ByteArray}(h:W.heap[b]?=some (atBox u)):W.cell? ⟨b,0,none⟩=some (.string u.1)∧W.cell? ⟨b,1,none⟩=some (.string u.2):=by
 unfold atBox at h
 simp[World.cell?,h]
theorem own_kept {W W':World}{B size n:Nat}{e:TypeId}{v:Value}{xs:List Value}(h:W.ownsRow B e size v n xs)(hk:∀k,v.ownBlock=some k→W'.heap[k]?=W.heap[k]?):W'.ownsRow B e size v n xs:=by
 obtain⟨h1,h2 | ⟨g,cap,cur,h3,h4,h5,h6⟩⟩:=h
 ·exact⟨h1,.inl h2⟩
 exact⟨h1,.inr ⟨g,cap,cur,h3,h4,(hk g (by rw[h3];rfl)).trans h5,h6⟩⟩
theorem own_blk {W:World}{B size n:Nat}{e:TypeId}{v:Value}{xs:List Value}(h:W.ownsRow B e size v n xs){k:Nat}(hk:v.ownBlock=some k):B≤k∧k<W.heap.size∧∃cur,W.heap[k]?=some (.cells cur e (0,0)):=by
 rcases h.2 with ⟨rfl,_⟩ | ⟨g,cap,cur,rfl,hg,hc,_⟩
 ·cases hk
 have:g=k:=by simpa [Value.ownBlock] using hk
 subst this
 exact⟨hg,(Array.getElem?_eq_some_iff.1 hc).1,cur,hc⟩
def TyX (t:TypeId)(W:World)(ao:Option Addr)(cap:Nat):Prop:=0<cap→∀a,ao=some a→∃c fr,W.heap[a.block]?=some (.cells c t fr)
theorem TyX.of_own {t:TypeId}{W:World}{B n size:Nat}{ao:Option Addr}{cap:Nat}{xs:List Value}(h:W.ownsRow B t size (.slice ao n cap) n xs):TyX t W ao cap:=fun _ a ha=>by
 subst ha
 rcases h.2 with ⟨h,_⟩ | ⟨g,c,cur,h,_,hc,_⟩
 ·cases h
 cases h;exact⟨cur,_,hc⟩
def OV.parts (v:OV)(a:Option Addr)(n k:Nat):OV:=⟨v.k,v.name,v.to,v.ao,v.an,v.ac,a,n,k,v.co,v.cn,v.cc,v.n⟩
theorem txV_snoc (l:List ByteArray)(y:ByteArray):txV (l++[y])=txV l++[.string y]:=by simp[txV]
def InO (ob:Nat)(v:OV)(W:World):Prop:=W.heap[ob]?=some v.box
theorem InO.step {ob:Nat}{v:OV}{W W':World}(h:InO ob v W)(hb:Below W.heap.size W W'):InO ob v W':=(hb.block _ (Array.getElem?_eq_some_iff.1 h).1).trans h
theorem InO.grown {ob:Nat}{v:OV}{W W':World}{row:Option Nat}(h:InO ob v W)(hg:W.grownBy W' row)(hne:some ob≠row):InO ob v W':=(hg.block _ (Array.getElem?_eq_some_iff.1 h).1 hne).trans h
structure KeepR (W W':World):Prop where
 size:W.heap.size≤W'.heap.size
 rows:∀(k:Nat) (c:Array Value) (t:TypeId) (fr:Nat×Nat),(t=5∨t=9∨t=53)→W.heap[k]?=some (Obj.cells c t fr)→W'.heap[k]?=some (Obj.cells c t fr)
theorem KeepR.trans {a b c:World}(h:KeepR a b)(h':KeepR b c):KeepR a c:=⟨Nat.le_trans h.size h'.size,fun k x t fr ht hk=>h'.rows k x t fr ht (h.rows k x t fr ht hk)⟩
theorem KeepR.of_below {a b:World}(h:Below a.heap.size a b):KeepR a b:=⟨h.size,fun k _ _ _ _ hk=>(h.block k (Array.getElem?_eq_some_iff.1 hk).1).trans hk⟩
theorem KeepR.of_belX {a b:World}{xs:List Nat}(h:BelX a.heap.size xs a b)(hx:∀k∈xs,∃o,a.heap[k]?=some o∧∀(c:Array Value) (t:TypeId) (fr:Nat×Nat),(t=5∨t=9∨t=53)→o≠.cells c t fr):KeepR a b:=by
 refine⟨h.size,fun k c t fr ht hk=>h.at_ hk (Array.getElem?_eq_some_iff.1 hk).1 (fun hm=>?_)⟩
 obtain⟨o,h1,h2⟩:=hx k hm
 rw[hk] at h1
 exact h2 c t fr ht (Option.some.inj h1).symm
theorem rd_kpr {a b:World}{size:Nat}{ao:Option Addr}{n cap:Nat}{xs:List Value}{t:TypeId}(ht:t=5∨t=9∨t=53)(h:Rd a size ao n cap xs)(hy:TyX t a ao cap)(hk:KeepR a b):Rd b size ao n cap xs:=by
 obtain⟨h1,h2,h3,h4,h5⟩:=h
 refine⟨h1,h2,h3,h4,fun h0 x hx=>?_⟩
 obtain⟨s1,l,c⟩:=h5 h0 x hx
 obtain⟨c',fr,h6⟩:=hy h0 x hx
 exact⟨s1,Nat.lt_of_lt_of_le l hk.size,fun j u hu=>(World.cell?_of_block (a:=⟨x.block,x.off+j,none⟩) ((hk.rows _ _ _ _ ht h6).trans h6.symm)).trans (c j u hu)⟩
theorem TyX.kpr {a b:World}{ao:Option Addr}{cap:Nat}{t:TypeId}(ht:t=5∨t=9∨t=53)(hy:TyX t a ao cap)(hk:KeepR a b):TyX t b ao cap:=fun h0 x hx=>by
 obtain⟨c',fr,h6⟩:=hy h0 x hx
 exact⟨c',fr,hk.rows _ _ _ _ ht h6⟩
theorem Part.next {α:Type}{body:α→List UInt8}{may good:α→Prop}{b:List UInt8}{v v':OV}{c c':OC}{ls more:List UInt8}{s s':RS}{x:UInt8}{y:α}(h:Part b v c ls s)(T:Took body may good s y s')(hk:v'.k=v.k)(hf:fieldsOf v.k=ls++x::more)(heq:∀l∈ls,bd v' c' l=bd v c l)(honly:OnlyL (ls++[x]) v' c')
  (n0:0≤v'.n) (n1:v'.n<9223372036854775808) (hy:letV v' c' x=body y) (hgood:good y→(bd v' c' x).length≤4194304) (hmay:∀W v2 c2,OpAt W v2 c2→mayOp v2 c2=true→∃z,may z∧letV v2 c2 x=body z):Part b v' c' (ls++[x]) s':=by
 refine h.step hk hf heq honly n0 n1 T.le (fun hb=>?_) (fun hb=>?_)
 ·obtain⟨h1,h2,h3⟩:=T.yes hb
  exact⟨h1,by rw[hy];exact h2,hgood h3⟩
 refine (T.no hb).imp id (fun hn W v2 c2 rest ho hm e=>?_)
 obtain⟨z,hz,hl⟩:=hmay W v2 c2 ho hm
 rw[hl] at e
 exact hn z rest hz e
theorem ls_letters {k:Int}{ls more:List UInt8}(hf:fieldsOf k=ls++more):∀l∈ls,l=110∨l=116∨l=97∨l=112∨l=99∨l=107:=by
 intro l hl
 have hm:l∈fieldsOf k:=by rw[hf];exact List.mem_append_left _ hl
 obtain⟨j,hj⟩:=List.getElem?_of_mem hm
 exact letters k j l hj
theorem bd_len (W:World){v:OV}{c:OC}(ho:OpAt W v c)(hm:mayOp v c=true)(l:UInt8):(bd v c l).length≤4194304:=by have:=(may_bd ho hm).1 l;omega
theorem OnlyL.more {ls:List UInt8}{v:OV}{c:OC}{x:UInt8}(h:OnlyL ls v c):OnlyL (ls++[x]) v c where
 name:=fun hn=>h.name (fun hm=>hn (List.mem_append_left _ hm))
 to_:=fun hn=>h.to_ (fun hm=>hn (List.mem_append_left _ hm))
 attrs:=fun hn=>h.attrs (fun hm=>hn (List.mem_append_left _ hm))
 parts:=fun hn=>h.parts (fun hm=>hn (List.mem_append_left _ hm))
 cursor:=fun hn=>h.cursor (fun hm=>hn (List.mem_append_left _ hm))
 n:=fun hn=>h.n (fun hm=>hn (List.mem_append_left _ hm))
def OV.setName (v:OV)(x:ByteArray):OV:=⟨v.k,x,v.to,v.ao,v.an,v.ac,v.bo,v.bn,v.bc,v.co,v.cn,v.cc,v.n⟩
def OV.setTo (v:OV)(x:ByteArray):OV:=⟨v.k,v.name,x,v.ao,v.an,v.ac,v.bo,v.bn,v.bc,v.co,v.cn,v.cc,v.n⟩
def OV.setAttrs (v:OV)(a:Option Addr)(n k:Nat):OV:=⟨v.k,v.name,v.to,a,n,k,v.bo,v.bn,v.bc,v.co,v.cn,v.cc,v.n⟩
def OV.setCur (v:OV)(a:Option Addr)(n k:Nat):OV:=⟨v.k,v.name,v.to,v.ao,v.an,v.ac,v.bo,v.bn,v.bc,a,n,k,v.n⟩
def OV.setN (v:OV)(n:Int):OV:=⟨v.k,v.name,v.to,v.ao,v.an,v.ac,v.bo,v.bn,v.bc,v.co,v.cn,v.cc,n⟩
section
variable {b:List UInt8} {v:OV} {c:OC} {ls more:List UInt8} {s s':RS}
theorem Part.name {y:List UInt8}(h:Part b v c ls s)(T:Took (val 2) (fun z=>z.length≤4194304) (fun z=>z.length≤4194304) s y s')(hf:fieldsOf v.k=ls++110::more)(hx:110∉ls):Part b (v.setName ⟨y.toArray⟩) c (ls++[110]) s':=by
 refine h.next T rfl hf (fun l hl=>?_) ⟨fun hn=>absurd (by simp) hn,h.only.more.to_,h.only.more.attrs,h.only.more.parts,h.only.more.cursor,h.only.more.n⟩ h.n0 h.n1 rfl (fun hg=>hg) (fun W v2 c2 ho hm=>⟨_,bd_len W ho hm 110,rfl⟩)
 have hne:¬l=110:=fun e=>hx (e▸hl)
 simp only[bd,if_neg hne,OV.setName]
theorem Part.to_ {y:List UInt8}(h:Part b v c ls s)(T:Took (val 3) (fun z=>z.length≤4194304) (fun z=>z.length≤4194304) s y s')(hf:fieldsOf v.k=ls++116::more)(hx:116∉ls):Part b (v.setTo ⟨y.toArray⟩) c (ls++[116]) s':=by
 refine h.next T rfl hf (fun l hl=>?_) ⟨h.only.more.name,fun hn=>absurd (by simp) hn,h.only.more.attrs,h.only.more.parts,h.only.more.cursor,h.only.more.n⟩ h.n0 h.n1 rfl (fun hg=>hg) (fun W v2 c2 ho hm=>⟨_,bd_len W ho hm 116,rfl⟩)
 have hne:¬l=116:=fun e=>hx (e▸hl)
 simp only[bd,if_neg hne,OV.setTo]
theorem Part.attrs {y:List (ByteArray×ByteArray)}{a:Option Addr}{n k:Nat}(h:Part b v c ls s)(T:Took (fun ys=>val 4 (attB ys)) (fun ys=>ys.length≤50∧(attB ys).length≤4194304) (fun ys=>(attB ys).length≤4194304) s y s')(hf:fieldsOf v.k=ls++97::more)(hx:97∉ls):Part b (v.setAttrs a n k) ⟨y,c.parts,c.cursor⟩ (ls++[97]) s':=by
 refine h.next T rfl hf (fun l hl=>?_) ⟨h.only.more.name,h.only.more.to_,fun hn=>absurd (by simp) hn,h.only.more.parts,h.only.more.cursor,h.only.more.n⟩ h.n0 h.n1 rfl (fun hg=>hg) (fun W v2 c2 ho hm=>⟨c2.attrs,⟨?_,bd_len W ho hm 97⟩,rfl⟩)
 ·have hne:¬l=97:=fun e=>hx (e▸hl)
  simp only[bd,if_neg hne,OV.setAttrs]
 obtain⟨_,h2,_⟩:=may_parts W ho hm
 have:=ho.a.1
 rw[atV_len] at this
 have:=h2.an
 omega
theorem Part.parts {y:List ByteArray}{a:Option Addr}{n k:Nat}(h:Part b v c ls s)(T:Took (fun ys=>val 5 (parB ys)) (fun ys=>ys.length≤8∧(parB ys).length≤4194304) (fun ys=>(parB ys).length≤4194304) s y s')(hf:fieldsOf v.k=ls++112::more)(hx:112∉ls):Part b (v.parts a n k) ⟨c.attrs,y,c.cursor⟩ (ls++[112]) s':=by
 refine h.next T rfl hf (fun l hl=>?_) ⟨h.only.more.name,h.only.more.to_,h.only.more.attrs,fun hn=>absurd (by simp) hn,h.only.more.cursor,h.only.more.n⟩ h.n0 h.n1 rfl (fun hg=>hg) (fun W v2 c2 ho hm=>⟨c2.parts,⟨?_,bd_len W ho hm 112⟩,rfl⟩)
 ·have hne:¬l=112:=fun e=>hx (e▸hl)
  simp only[bd,if_neg hne,OV.parts]
 obtain⟨_,h2,_⟩:=may_parts W ho hm
 have:=ho.b.1
 rw[txV_len] at this
 have:=h2.bn
 omega
theorem Part.cur {y:List UInt8}{a:Option Addr}{n k:Nat}(h:Part b v c ls s)(T:Took (val 6) (fun z=>z.length≤4194304) (fun z=>z.length≤4194304) s y s')(hf:fieldsOf v.k=ls++99::more)(hx:99∉ls):Part b (v.setCur a n k) ⟨c.attrs,c.parts,y⟩ (ls++[99]) s':=by
 refine h.next T rfl hf (fun l hl=>?_) ⟨h.only.more.name,h.only.more.to_,h.only.more.attrs,h.only.more.parts,fun hn=>absurd (by simp) hn,h.only.more.n⟩ h.n0 h.n1 rfl (fun hg=>hg) (fun W v2 c2 ho hm=>⟨_,bd_len W ho hm 99,rfl⟩)
 have hne:¬l=99:=fun e=>hx (e▸hl)
 simp only[bd,if_neg hne,OV.setCur]
theorem Part.num {y:Nat}(h:Part b v c ls s)(T:Took (fun n:Nat=>val 7 (num8 n)) (fun n=>n≤1000) (fun n=>n≤1000) s y s')(hy:y≤1000)(hf:fieldsOf v.k=ls++107::more)(hx:107∉ls):Part b (v.setN (y:Int)) c (ls++[107]) s':=by
 refine h.next T rfl hf (fun l hl=>?_) ⟨h.only.more.name,h.only.more.to_,h.only.more.attrs,h.only.more.parts,h.only.more.cursor,fun hn=>absurd (by simp) hn⟩ (by show 0≤(y:Int);omega) (by show (y:Int)<_;omega) rfl (fun _=>by show (num8 _).length≤_;rw[num8_len];omega) (fun W v2 c2 ho hm=>⟨v2.n.toNat,?_,rfl⟩)
 ·have hne:¬l=107:=fun e=>hx (e▸hl)
  rcases ls_letters hf l hl with rfl|rfl|rfl|rfl|rfl|rfl
  all_goals first | rfl | exact absurd rfl hne
 have:=(may_bd ho hm).2
 omega
end
theorem bytes_le (s:RS)(t:UInt8):(s.bytes t).1.length≤4194304:=by
 unfold RS.bytes
 cases h:s.take t with
 | mk ox s'=>
  cases ox with
  | none=>simp
  | some x=>exact (take_some h).2.2.2.1
theorem kpr_box {ob i:Nat}{v:OV}{w1:World}{x:Value}(hb:InO ob v w1):KeepR w1 (w1.setCell ⟨ob,i,none⟩ x):=by
 refine KeepR.of_belX (xs:=[ob]) ((BelX.refl _ _ _).set _ _ _ (.inl (by simp))) (fun k hk=>?_)
 rw[List.mem_singleton.1 hk]
 refine⟨_,hb,fun c t fr ht e=>?_⟩
 cases e
 rcases ht with h | h | h<;>exact absurd h (by decide)
def GivesOp (T:World→OV→Prop)(ok bad:Value)(b:List UInt8)(w:World)(e:Ending)(w':World):Prop:=Below w.heap.size w w' ∧
 ((∃v c,e=.returned (.tuple #[v.val,ok])∧OpAt w' v c∧T w' v∧mayOp v c=true∧opL v c=b)∨(e=.returned (.tuple #[zeroV.val,bad])∧NoOp b))
def OV.cells (v:OV):Array Value:=#[.int .i64 v.k,.string v.name,.string v.to,.slice v.ao v.an v.ac,.slice v.bo v.bn v.bc,.slice v.co v.cn v.cc,.int .i64 v.n]
theorem parts_nil {v:OV}(h1:v.bo=none)(h2:v.bn=0)(h3:v.bc=0):v=v.parts none 0 0:=by
 cases v
 dsimp only at h1 h2 h3
 subst h1 h2 h3
 rfl
end Go.Proofs.YtgeafnggodkpaaaGreat.Msg
