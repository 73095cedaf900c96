/-
  A part of the proof.
-/
import Derived.Test.YtfmmandlmbcncaaGreatDoorKbbq
import Derived.Test.YtfmmandlmbcncaaGreatDoorKbbl
import Derived.Test.YtfmmandlmbcncaaGreatDoorKbbr
import Derived.Test.YtfmmandlmbcncaaGreatDoorKbbp
set_option maxHeartbeats 40000000
namespace Go.Proofs.YtfmmandlmbcncaaGreatDoor.Msg
open Go.RowKit Go.Lib Go.Proofs.YtfmmandlmbcncaaGreatDoor.Mem Go.Proofs.YtfmmandlmbcncaaGreatDoor.Tlv
def GivesWr (what:ByteArray)(why:Int)(w:World)(e:Ending)(w':World):Prop:=∃p:Nat,e=.returned (.tuple #[(bareM 0).val,.iface 82 (.pointer (some ⟨p,0,none⟩))])∧Below w.heap.size w w'∧w.heap.size≤p∧w'.heap[p]?=some (.cells #[.string what,.int .i64 why] 87)
set_option maxRecDepth 100000 in
theorem wrong_any (what:ByteArray)(why:Int)(w:World):Calls Tryz.prog 109 #[.string what,.int .i64 why] w (GivesWr what why w):=by
 have hb0:Below w.heap.size w (w.alloc (bareM 0).box):=(Below.refl _ _).alloc (Nat.le_refl _) _
 have k0:(w.alloc (bareM 0).box).heap[w.heap.size]?=some (bareM 0).box:=at_new _ _
 unfold bareM zeroR zeroQ zeroV MV.box MV.cells at hb0 k0
 dsimp only at hb0 k0
 go_enter Tryz.func109,Tryz.ntmps109
 go_upto_region 1 with fail
 generalize hg:w.alloc _=W0 at *
 have k0f:W0.heap[w.heap.size]?=some (bareM 0).box:=k0
 clear hg k0
 have hz0:=hid (Array.getElem?_eq_some_iff.1 k0f).1
 have hb1:Below W0.heap.size W0 (W0.alloc (.cells #[.string what,.int .i64 why] 87)):=(Below.refl _ _).alloc (Nat.le_refl _) _
 have q1:(W0.alloc (.cells #[.string what,.int .i64 why] 87)).heap[W0.heap.size]?=some (.cells #[.string what,.int .i64 why] 87):=at_new _ _
 have k1:=mbox_step k0f hb1
 have bel:=hb0.trans (hb1.mono hb0.size)
 have hne:W0.heap.size≠w.heap.size:=by have:=hz0.out;omega
 have f1:((W0.alloc (.cells #[.string what,.int .i64 why] 87)).setRow w.heap.size (bareM 0).cells).heap[w.heap.size]?=some (.cells (bareM 0).cells 59):=setRow_at' k1
 have f2:=below_setRow bel (Nat.le_refl _) (bareM 0).cells
 have f3:=(setRow_other (W0.alloc (.cells #[.string what,.int .i64 why] 87)) w.heap.size W0.heap.size (bareM 0).cells hne).trans q1
 have hle:w.heap.size≤W0.heap.size:=hb0.size
 go_wp2_with (refine wpList_store_row k1 rfl rfl rfl rfl (by kernel_rfl) rfl (by kernel_rfl) ?_;go_simp)
 exact bodyPost_ret (w:=(W0.alloc (.cells #[.string what,.int .i64 why] 87)).setRow w.heap.size (bareM 0).cells) (results_row2 (i:=4) (j:=5) (t:=59) rfl rfl rfl (by kernel_rfl) (by kernel_rfl) f1) rfl ⟨_,rfl,f2,hle,f3⟩
theorem ReadM.nextP {s s' s2:RS}{kk:Int}{wh:Bool}{j:Nat}{x:Int}{o m:MV}{c d:MC}(ho:o.k=kk)(R:ReadM s kk (lettersOf kk wh) j (decide (kk≠10∨2≤j)) o c s')(hj:wh=true→2≤j)(hz:∀x∈allX,x∉(lettersOf kk wh).take j→agree x o c (bareM kk) bareC=true)(hns:NilS ((lettersOf kk wh).take j) o)
  (hx:(lettersOf kk wh)[j]?=some x) (h2:StepX x s' (setF x o m) (setC x c d) s2) :
  (setF x o m).k=kk∧ReadM s kk (lettersOf kk wh) (j+1) (decide (kk≠10∨2≤j)) (setF x o m) (setC x c d) s2∧(∀y∈allX,y∉(lettersOf kk wh).take (j+1)→agree y (setF x o m) (setC x c d) (bareM kk) bareC=true)∧NilS ((lettersOf kk wh).take (j+1)) (setF x o m):=by
 have hxa:=allX_of x (List.mem_of_getElem? hx)
 have hnd:=letters_nodup kk wh
 refine⟨(setF_k x o m).trans ho,R.step ?_ hx h2 (fun y hy=>?_),fun y hy hn=>?_,?_⟩
 ·by_cases h10:kk≠10∨2≤j
  ·exact .inl (decide_eq_true h10)
  have e10:kk=10:=by
   by_cases e:kk=10
   ·exact e
   exact absurd (.inl e) h10
  have hj2:j<2:=by
   by_cases e:j<2
   ·exact e
   exact absurd (.inr (by omega)) h10
  refine .inr ⟨e10,hj2,?_⟩
  cases wh with
  | false=>rw[e10]
  | true=>have:=hj rfl;omega
 ·have hya:=allX_of y (List.mem_of_mem_take hy)
  have hne:y≠x:=fun e=>take_nin hnd hx (e▸hy)
  exact⟨fieldL_other y x o m c d hya hxa hne,mayG_other y x o m c d hxa hne⟩
 ·rw[List.take_add_one,hx,List.mem_append] at hn
  have hne:y≠x:=fun e=>hn (.inr (by simp[e]))
  exact agree_trans (agree_other y x o m c d hy hxa hne) (hz y hy (fun hm=>hn (.inl hm)))
 rw[List.take_add_one,hx]
 exact hns.set hxa
def NoKind (b:List UInt8):Prop:=∀(n:Nat) (r:List UInt8),1≤n→n≤12→b≠val 1 (num8 n)++r
def HasKind (b:List UInt8):Prop:=∃(n:Nat) (r:List UInt8),1≤n∧n≤12∧b=val 1 (num8 n)++r
def NoMsg (b:List UInt8):Prop:=∀(W:World) (m:MV) (d:MC),MayM W m d→msgL m d≠b
theorem NoKind.msg {b:List UInt8}(h:NoKind b):NoMsg b:=fun W m d hM e=>by
 have hk:=hM.k
 unfold msgL at e
 exact h m.k.toNat _ (by omega) (by omega) e.symm
theorem letters_ne {k:Int}(wh:Bool)(h:1≤k∧k≤12):lettersOf k wh≠[]:=by
 rcases (by omega:k=1∨k=2∨k=3∨k=4∨k=5∨k=6∨k=7∨k=8∨k=9∨k=10∨k=11∨k=12) with rfl|rfl|rfl|rfl|rfl|rfl|rfl|rfl|rfl|rfl|rfl|rfl<;>cases wh<;>decide
theorem fieldsM_ne {k:Int}(h:1≤k∧k≤12):fieldsM k false≠[]:=by
 rcases (by omega:k=1∨k=2∨k=3∨k=4∨k=5∨k=6∨k=7∨k=8∨k=9∨k=10∨k=11∨k=12) with rfl|rfl|rfl|rfl|rfl|rfl|rfl|rfl|rfl|rfl|rfl|rfl<;>decide
theorem fieldsM_no {k:Int}(h:¬(1≤k∧k≤12)):fieldsM k false=[]:=by
 unfold fieldsM mapM
 have e:∀j:Int,1≤j∧j≤12→k≠j:=fun j hj e=>h (e▸hj)
 simp only[e 1 (by decide),e 2 (by decide),e 3 (by decide),e 4 (by decide),e 5 (by decide),e 6 (by decide),e 7 (by decide),e 8 (by decide),e 9 (by decide),e 10 (by decide),e 11 (by decide),e 12 (by decide),if_false,or_self,false_and,List.append_nil]
theorem no_w {n:Int}(h:1≤n∧n≤12)(h10:n≠10):(119:Int)∉lettersOf n false:=by
 rcases (by omega:n=1∨n=2∨n=3∨n=4∨n=5∨n=6∨n=7∨n=8∨n=9∨n=11∨n=12) with rfl|rfl|rfl|rfl|rfl|rfl|rfl|rfl|rfl|rfl|rfl<;>decide
theorem ten_let {wh:Bool}{j:Nat}{x:Int}(hx:(lettersOf 10 wh)[j]?=some x)(hj:j≠1):x≠102:=by
 cases wh
 ·match j,hx with
  | 0,h=>cases h;decide
  | 1,h=>exact absurd rfl hj
  | 2,h=>cases h;decide
  | 3,h=>cases h;decide
  | 4,h=>cases h;decide
  | j+5,h=>cases h
 match j,hx with
 | 0,h=>cases h;decide
 | 1,h=>exact absurd rfl hj
 | 2,h=>cases h;decide
 | 3,h=>cases h;decide
 | 4,h=>cases h;decide
 | 5,h=>cases h;decide
 | 6,h=>cases h;decide
 | 7,h=>cases h;decide
 | 8,h=>cases h;decide
 | j+9,h=>cases h
theorem kind_no {b:List UInt8}{n:Nat}{s1:RS}(T:Took (fun n:Nat=>val 1 (num8 n)) (fun n=>n≤255) (fun n=>n≤255) ⟨b,false⟩ n s1)(h:s1.bad=true∨¬(1≤n∧n≤12)):NoKind b:=fun k r h1 h2 e=>by
 cases hb:s1.bad with
 | true=>
  rcases T.no hb with h | h
  ·cases h
  exact h k r (by omega) e
 | false=>
  obtain⟨-,e2,g⟩:=T.yes hb
  have e3:=num8_inj (by omega) (by omega) (val_inj (t:=1) (by decide) (by rw[num8_len];omega) (by rw[num8_len];omega) (e2.symm.trans e)).1
  rcases h with h | h
  ·rw[hb] at h;cases h
  omega
theorem kind_has {b:List UInt8}{n:Nat}{s1:RS}(T:Took (fun n:Nat=>val 1 (num8 n)) (fun n=>n≤255) (fun n=>n≤255) ⟨b,false⟩ n s1)(hb:s1.bad=false)(h:1≤n∧n≤12):HasKind b:=by
 obtain⟨-,e2,g⟩:=T.yes hb
 exact⟨n,_,h.1,h.2,e2⟩
theorem may_read {W:World}{b:List UInt8}{o:MV}{c:MC}(hb:b.length≤8388608)(hk:1≤o.k∧o.k≤12)(h:MAt W o c)(hg:∀x∈lettersOf o.k o.wh,MayG x o c)(hfr:0≤o.fr∧o.fr<7)(hc:o.ln≤4096∧o.hn≤7)(hz:∀x∈allX,x∉lettersOf o.k o.wh→agree x o c (bareM o.k) bareC=true)(e:b=msgL o c):mayMsg o c=true∧FitsM o c:=by
 have hsn:o.sn≤4194304:=by
  have h1:=h.sn.1
  rw[byV_len] at h1
  by_cases hm:(115:Int)∈lettersOf o.k o.wh
  ·have:=(hg 115 hm).sn rfl;omega
  have h2:c.snap=[]:=of_decide_eq_true (hz 115 (by decide) hm)
  rw[h2] at h1
  simp at h1
  omega
 have hlg:(logB c.log).length≤4194304:=by
  by_cases hm:(108:Int)∈lettersOf o.k o.wh
  ·exact ((hg 108 hm).log rfl).2
  have h2:sameLog c.log []=true:=hz 108 (by decide) hm
  rw[List.eq_nil_of_length_eq_zero (sameLog_len h2)]
  decide
 have hrs:mayRes o.rs c.rs=true→(resL o.rs c.rs).length≤4194304:=fun _=>by
  by_cases hm:(114:Int)∈lettersOf o.k o.wh
  ·exact ((hg 114 hm).rs rfl).2
  have h2:sameRes o.rs c.rs zeroQ ⟨[],[]⟩=true:=hz 114 (by decide) hm
  have h3:=sameRes_key.1 h2
  unfold keyQ at h3
  simp only[Prod.mk.injEq] at h3
  obtain⟨-,-,h4,h5⟩:=h3
  have h6:c.rs.ents=[]:=by
   have:=congrArg List.length h4
   simp[keyEs] at this
   exact this
  have h7:(resL o.rs c.rs).length=29:=by
   rw[resL_len,h6,show c.rs.cursor=[] from h5];rfl
  omega
 refine⟨?_,⟨?_,hrs,fun _=>hlg⟩⟩
 ·unfold mayMsg
  rw[Bool.and_eq_true,←e]
  refine⟨(well_iff h hsn).2 ⟨letters_ne _ hk,fun x hx=>?_,kept_same (fun x hx=>allX_of x hx) hz⟩,decide_eq_true hb⟩
  have G:=hg x hx
  unfold mayFb
  by_cases e102:x=102
  ·rw[if_pos e102,decide_eq_true hfr.1,decide_eq_true hfr.2];rfl
  rw[if_neg e102]
  by_cases e113:x=113
  ·rw[if_pos e113];exact G.rq e113
  rw[if_neg e113]
  by_cases e114:x=114
  ·rw[if_pos e114];exact (G.rs e114).1
  rw[if_neg e114]
  by_cases e108:x=108
  ·rw[if_pos e108,decide_eq_true hc.1,List.any_eq_false.2 (fun p hp=>by simp[(G.log e108).1 p hp])];rfl
  rw[if_neg e108]
  by_cases e101:x=101
  ·rw[if_pos e101];exact decide_eq_true hc.2
  rw[if_neg e101]
 by_cases hm:(114:Int)∈lettersOf o.k o.wh
 ·have h1:=((hg 114 hm).rs rfl).2
  rw[resL_len] at h1
  exact fun _=>by omega
 have h2:sameRes o.rs c.rs zeroQ ⟨[],[]⟩=true:=hz 114 (by decide) hm
 have h3:=sameRes_key.1 h2
 unfold keyQ at h3
 simp only[Prod.mk.injEq] at h3
 have h6:c.rs.ents=[]:=by
  have:=congrArg List.length h3.2.2.1
  simp[keyEs] at this
  exact this
 exact fun _=>by rw[h6];exact Nat.zero_le _
theorem read_fin {W:World}{b:List UInt8}{s':RS}{wh:Bool}{o:MV}{c:MC}(hb:b.length≤8388608)(hk:1≤o.k∧o.k≤12)(R:ReadM ⟨b,false⟩ o.k (lettersOf o.k wh) (lettersOf o.k wh).length true o c s')(hw:wh=true→o.k=10)(h:MAt W o c)(hu:U64M o c)(hfr:0≤o.fr∧o.fr<7)(hc:s'.bad=false→o.ln≤4096∧o.hn≤7)
  (hz:∀x∈allX,x∉lettersOf o.k wh→agree x o c (bareM o.k) bareC=true) :
  (s'.bad=false→s'.l=[]→wh=o.wh→mayMsg o c=true∧FitsM o c∧msgL o c=b)∧((s'.bad=true∨s'.l≠[]∨wh≠o.wh)→NoMsg b):=by
 have hfr0:(102:Int)∉lettersOf o.k wh→o.fr=0:=fun h=>of_decide_eq_true (hz 102 (by decide) h)
 have T:=R.done (W':=W) (whole:=wh) rfl (fun hne=>by
  have hw0:wh=false:=by
   cases hw2:wh with
   | false=>rfl
   | true=>exact absurd (hw hw2) hne
  exact⟨hw0,of_decide_eq_true (hz 119 (by decide) (by rw[hw0];exact no_w hk hne))⟩) hfr0 h hu (by omega)
 have e7:decide (7≤o.fr)=false:=decide_eq_false (by omega)
 have eo:({ o with fr:=o.fr % 7 }:MV)=o:=by rw[show o.fr % 7=o.fr by omega]
 rw[e7,eo] at T
 constructor
 ·intro h1 h2 h3
  have hbad:(s'.bad||(false||(wh != o.wh)))=false:=by rw[h1,h3];simp
  obtain⟨-,e,g,-⟩:=T.yes hbad
  dsimp only at e
  rw[h2,List.append_nil] at e
  obtain⟨m1,m2⟩:=may_read (W:=W) hb hk h g hfr (hc h1) (by rw[←h3];exact hz) e
  exact⟨m1,m2,e.symm⟩
 intro hno W0 m d hM e
 obtain⟨h1,h2⟩:=T.go rfl W0 m d [] hM (by rw[List.append_nil];exact e.symm)
 dsimp only at h1 h2
 rw[Bool.or_eq_false_iff,Bool.or_eq_false_iff] at h1
 rcases hno with h3 | h3 | h3
 ·rw[h1.1] at h3;cases h3
 ·exact h3 h2
 have h4:(wh != o.wh)=false:=h1.2.2
 exact h3 (by simpa using h4)
def kindS:ByteArray:=⟨#[107,105,110,100]⟩
def fieldsS:ByteArray:=⟨#[102,105,101,108,100,115]⟩
def GivesRead (b:List UInt8)(w:World)(e:Ending)(w':World):Prop:=
 (∃(m:MV) (c:MC),e=.returned (.tuple #[m.val,.nilIface])∧Below w.heap.size w w'∧MAt w' m c∧U64M m c∧MTyP w' m c∧FitsM m c∧mayMsg m c=true∧msgL m c=b) ∨
 (∃what:ByteArray,GivesWr what 4 w e w'∧((what=kindS∧NoKind b)∨(what=fieldsS∧HasKind b∧NoMsg b)))
theorem fields_rdr {W:World}{B g b n cap:Nat}{s:RS}{L:List FV}(h:Rd W 4 (some ⟨b,0,none⟩) n cap (fV L))(hL:0<L.length)(hr:RdS B g s W):b≠g:=fun e=>by
 subst e
 have hn:=h.1
 rw[fV_len] at hn
 have hle:=h.le
 obtain⟨b1,o1,e1,hlt,hc⟩:=h.some (by omega)
 obtain⟨rfl,rfl⟩:b=b1∧0=o1:=by simpa using e1
 obtain⟨f,hf⟩:∃f,L[0]?=some f:=⟨_,List.getElem?_eq_getElem hL⟩
 have h1:=fV_at L 0 f hf 0 (by decide)
 have h2:=hc 0 (.int .i32 f.l) (by simpa [FV.cells] using h1)
 obtain⟨_,_,hr⟩:=hr
 have hat:=hr.at_
 simp[World.cell?,hat] at h2
theorem plainAt_belX {W W':World}{g ob:Nat}{t:Int}{fo:Value}{ta tb:Nat}{cg co:Array Value}(h:plainAt W t fo ta tb)(hg:W.heap[g]?=some (.cells cg 237))(ho:W.heap[ob]?=some (.cells co 59))(hX:BelX W.heap.size [g,ob] W W'):plainAt W' t fo ta tb:=by
 have h1:ta∉[g,ob]:=fun hm=>by
  simp only[List.mem_cons,List.not_mem_nil,or_false] at hm
  have h1:=h.1
  rcases hm with e | e
  ·rw[e,hg] at h1;cases h1
  rw[e,ho] at h1;cases h1
 have h2:tb∉[g,ob]:=fun hm=>by
  simp only[List.mem_cons,List.not_mem_nil,or_false] at hm
  have h1:=h.2
  rcases hm with e | e
  ·rw[e,hg] at h1;cases h1
  rw[e,ho] at h1;cases h1
 exact⟨hX.at_ h.1 (Array.getElem?_eq_some_iff.1 h.1).1 h1,hX.at_ h.2 (Array.getElem?_eq_some_iff.1 h.2).1 h2⟩
theorem AllAt.belX {W W':World}{g ob:Nat}{cg co:Array Value}{t0 t1 t2 t3 t4 t5 t6 t7:Nat}(h:AllAt t0 t1 t2 t3 t4 t5 t6 t7 W)(hg:W.heap[g]?=some (.cells cg 237))(ho:W.heap[ob]?=some (.cells co 59))(hX:BelX W.heap.size [g,ob] W W'):AllAt t0 t1 t2 t3 t4 t5 t6 t7 W':=
 ⟨plainAt_belX h.a0 hg ho hX,plainAt_belX h.a1 hg ho hX,plainAt_belX h.a2 hg ho hX,plainAt_belX h.a3 hg ho hX,plainAt_belX h.a4 hg ho hX,plainAt_belX h.a5 hg ho hX,plainAt_belX h.a6 hg ho hX,plainAt_belX h.a7 hg ho hX⟩
structure FlsAt (k:Int)(wh:Bool)(v:Value)(n:Nat)(W:World):Prop where
 ex:∃b cap t0 t1 t2 t3 t4 t5 t6 t7:Nat,v=.slice (some ⟨b,0,none⟩) n cap∧n=(ofL k wh t0 t1 t2 t3 t4 t5 t6 t7).length∧Rd W 4 (some ⟨b,0,none⟩) n cap (fV (ofL k wh t0 t1 t2 t3 t4 t5 t6 t7))∧AllAt t0 t1 t2 t3 t4 t5 t6 t7 W
theorem FlsAt.len {k:Int}{wh:Bool}{v:Value}{n:Nat}{W:World}(h:FlsAt k wh v n W):n=(lettersOf k wh).length:=by
 obtain⟨b,cap,t0,t1,t2,t3,t4,t5,t6,t7,-,h2,-,-⟩:=h.ex
 rw[h2,←ofL_letters k wh t0 t1 t2 t3 t4 t5 t6 t7,List.length_map]
structure RdI (B g ob rb:Nat)(b:List UInt8)(w:World)(kk:Int)(wh:Bool)(v:Value)(n j:Nat)(W:World):Prop where
 k:1≤kk∧kk≤12
 hw:wh=true→kk=10
 fl:FlsAt kk wh v n W
 rz:W.heap[rb]?=some (bareM 0).box
 nr:rb≠g∧rb≠ob
 ex:∃(o:MV) (c:MC) (s':RS),RdM B g ob w o c s' W∧o.k=kk∧ReadM ⟨b,false⟩ kk (lettersOf kk wh) j (decide (kk≠10∨2≤j)) o c s'∧(wh=true→2≤j)∧(∀x∈allX,x∉(lettersOf kk wh).take j→agree x o c (bareM kk) bareC=true)∧NilS ((lettersOf kk wh).take j) o
theorem reqL_key {r r':RV}{c c':OC}(h:keyR r c=keyR r' c'):reqL r (opL r.op c)=reqL r' (opL r'.op c'):=by
 unfold keyR at h
 simp only[Prod.mk.injEq] at h
 obtain⟨h1,h2,h3,h4,h5,h6,h7,h8,h9⟩:=h
 have hl:∀l,letV r.op c l=letV r'.op c' l:=fun l=>by unfold letV;rw[h4,h5,h6,h7,h8,h9]
 unfold reqL opL opTo
 rw[h1,h2,h3,show letV r.op c=letV r'.op c' from funext hl]
theorem entsB_key:∀ {l l':List EP},keyEs l=keyEs l'→entsB l=entsB l'
 | [],[],_=>rfl
 | [],_::_,h=>by simp[keyEs] at h
 | _::_,[],h=>by simp[keyEs] at h
 | p::l,q::m,h=>by
  simp only[keyEs,List.map_cons,List.cons.injEq,Prod.mk.injEq] at h
  obtain⟨⟨h1,h2⟩,h3⟩:=h
  rw[entsB_cons,entsB_cons,entsB_key (l:=l) (l':=m) h3]
  unfold entL
  rw[h1,h2]
theorem resL_key {v v':QV}{c c':QC}(h:keyQ v c=keyQ v' c'):resL v c=resL v' c':=by
 unfold keyQ at h
 simp only[Prod.mk.injEq] at h
 obtain⟨h1,h2,h3,h4⟩:=h
 unfold resL
 rw[h1,h2,entsB_key h3,h4]
theorem logB_key:∀ {l l':List RP},keyL l=keyL l'→logB l=logB l'
 | [],[],_=>rfl
 | [],_::_,h=>by simp[keyL] at h
 | _::_,[],h=>by simp[keyL] at h
 | p::l,q::m,h=>by
  simp only[keyL,List.map_cons,List.cons.injEq] at h
  rw[logB_cons,logB_cons,logB_key (l:=l) (l':=m) h.2,reqL_key h.1]
theorem fieldL_agree {x:Int}{m m':MV}{c c':MC}(hx:x∈allX)(h:agree x m c m' c'=true):fieldL x m c=fieldL x m' c':=by
 simp only[allX,List.mem_cons,List.not_mem_nil,or_false] at hx
 rcases hx with rfl|rfl|rfl|rfl|rfl|rfl|rfl|rfl|rfl|rfl|rfl|rfl|rfl|rfl|rfl
 ·show val 2 (num8 m.vi.toNat)=val 2 (num8 m'.vi.toNat);rw[show m.vi=m'.vi from of_decide_eq_true h]
 ·show val 3 (num8 m.no.toNat)=val 3 (num8 m'.no.toNat);rw[show m.no=m'.no from of_decide_eq_true h]
 ·show val 4 (num8 m.fr.toNat)=val 4 (num8 m'.fr.toNat);rw[show m.fr=m'.fr from of_decide_eq_true h]
 ·show val 5 (num8 m.cl.toNat)=val 5 (num8 m'.cl.toNat);rw[show m.cl=m'.cl from of_decide_eq_true h]
 ·show val 6 (num8 m.nu.toNat)=val 6 (num8 m'.nu.toNat);rw[show m.nu=m'.nu from of_decide_eq_true h]
 ·show val 7 (reqL m.rq (opL m.rq.op c.rq))=val 7 (reqL m'.rq (opL m'.rq.op c'.rq));rw[reqL_key (sameReq_key.1 h)]
 ·show val 8 (resL m.rs c.rs)=val 8 (resL m'.rs c'.rs);rw[resL_key (sameRes_key.1 h)]
 ·show val 9 (num8 m.at_.toNat)=val 9 (num8 m'.at_.toNat);rw[show m.at_=m'.at_ from of_decide_eq_true h]
 ·show val 10 (num8 m.cm.toNat)=val 10 (num8 m'.cm.toNat);rw[show m.cm=m'.cm from of_decide_eq_true h]
 ·show val 11 (num8 m.bs.toNat)=val 11 (num8 m'.bs.toNat);rw[show m.bs=m'.bs from of_decide_eq_true h]
 ·show val 12 c.snap=val 12 c'.snap;rw[show c.snap=c'.snap from of_decide_eq_true h]
 ·show val 13 (logB c.log)=val 13 (logB c'.log);rw[logB_key (sameLog_key.1 h)]
 ·show val 14 (num8 m.nc.toNat)=val 14 (num8 m'.nc.toNat);rw[show m.nc=m'.nc from of_decide_eq_true h]
 ·show val 15 [if m.wh then 1 else 0]=val 15 [if m'.wh then 1 else 0];rw[show m.wh=m'.wh from of_decide_eq_true h]
 show val 16 (seenB c.seen)=val 16 (seenB c'.seen);rw[show c.seen=c'.seen from of_decide_eq_true h]
theorem msgL_same {m m':MV}{c c':MC}(h:sameMsg m c m' c'=true):msgL m c=msgL m' c':=by
 obtain⟨hk,ha⟩:=same_iff.1 h
 have hw:m.wh=m'.wh:=of_decide_eq_true (ha 119 (by decide))
 unfold msgL fieldsL
 rw[hk,hw,List.flatMap_def,List.flatMap_def]
 congr 2
 exact List.map_congr_left (fun x hx=>fieldL_agree (allX_of x hx) (ha x (allX_of x hx)))
theorem may_all {W:World}{m:MV}{c:MC}(h:MAt W m c)(hu:U64M m c)(hf:FitsM m c)(hm:mayMsg m c=true):MayM W m c∧m.sn≤4194304∧∀x∈allX,x∉lettersOf m.k m.wh→agree x m c (bareM m.k) bareC=true:=by
 unfold mayMsg at hm
 rw[Bool.and_eq_true] at hm
 have hs:=(WellP.of hm.1).sn
 obtain⟨h1,h2,h3⟩:=(well_iff h hs).1 hm.1
 refine⟨mayM_of h hu hf hs h1 h2,hs,fun x hx hn=>?_⟩
 exact agree_trans ((same_iff.1 h3).2 x hx) ((kept_in m c _ (fun x hx=>allX_of x hx) x hx (bareM m.k) bareC).2 hn)
theorem same_msgL {W W':World}{m m':MV}{c c':MC}(h:MAt W m c)(h':MAt W' m' c')(hu:U64M m c)(hu':U64M m' c')(hf:FitsM m c)(hf':FitsM m' c')(hm:mayMsg m c=true)(hm':mayMsg m' c'=true)(e:msgL m c=msgL m' c'):sameMsg m c m' c'=true:=by
 obtain⟨M,-,z⟩:=may_all h hu hf hm
 obtain⟨M',-,z'⟩:=may_all h' hu' hf' hm'
 obtain⟨k1,k2,k3,-⟩:=msg_inj (r:=[]) (r':=[]) h h' hu hu' M.k M'.k (fun x hx=>(M.may x hx).g h) (fun x hx=>(M'.may x hx).g h') (by rw[e])
 refine same_iff.2 ⟨k1,fun x hx=>?_⟩
 by_cases hn:x∈lettersOf m.k m.wh
 ·exact k3 x hn
 have a:=z x hx hn
 have b:=z' x hx (by rw[←k2];exact hn)
 rw[←k1] at b
 exact agree_trans a (agree_symm b)
theorem bytes_same {W W':World}{m m':MV}{c c':MC}(h:MAt W m c)(h':MAt W' m' c')(hu:U64M m c)(hu':U64M m' c')(hf:FitsM m c)(hf':FitsM m' c')(hm:mayMsg m c=true)(hm':mayMsg m' c'=true):(msgL m c==msgL m' c')=sameMsg m c m' c':=by
 cases hs:sameMsg m c m' c' with
 | true=>rw[msgL_same hs];simp
 | false=>
  refine beq_eq_false_iff_ne.2 (fun e=>?_)
  rw[same_msgL h h' hu hu' hf hf' hm hm' e] at hs
  cases hs
theorem not_none {W:World}{m:MV}{c:MC}(h:MAt W m c)(hu:U64M m c)(hf:FitsM m c)(hm:mayMsg m c=true):¬NoMsg (msgL m c):=fun hn=>hn W m c (may_all h hu hf hm).1 rfl
end Go.Proofs.YtfmmandlmbcncaaGreatDoor.Msg
