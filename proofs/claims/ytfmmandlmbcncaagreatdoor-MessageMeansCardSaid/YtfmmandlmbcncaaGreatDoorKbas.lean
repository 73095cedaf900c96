/-
  A part of the proof.
-/
import Derived.Deep.Slices
import Derived.Deep.Fields
import Derived.Deep.Strs
import Derived.ChangeSame
import Derived.ChangeArms
import Derived.Test.YtfmmandlmbcncaaGreatDoorKbaq
import Derived.Test.YtfmmandlmbcncaaGreatDoorKbar
set_option maxHeartbeats 40000000
namespace Go.Proofs.YtfmmandlmbcncaaGreatDoor.Msg
open Go.RowKit Go.Lib Go.Proofs.YtfmmandlmbcncaaGreatDoor.Mem Go.Proofs.YtfmmandlmbcncaaGreatDoor.Tlv
open Go.ChangeShapes Go.WideShapes Go.Deep
abbrev RP:=RV×OC
structure FitP (p:RP):Prop where
 c0:0≤p.1.cl
 c1:p.1.cl<18446744073709551616
 n0:0≤p.1.nu
 n1:p.1.nu<18446744073709551616
structure OpRd (W:World)(v:OV)(c:OC):Prop where
 a:Rd W 2 v.ao v.an v.ac (atV c.attrs)
 b:Rd W 1 v.bo v.bn v.bc (txV c.parts)
 c:Rd W 1 v.co v.cn v.cc (byV c.cursor)
theorem OpRd.later {W W':World}{v:OV}{c:OC}(h:OpRd W v c)(hb:Below W.heap.size W W'):OpRd W' v c:=⟨h.a.later hb,h.b.later hb,h.c.later hb⟩
section
variable {H:Type} {enc:TypeId×Value→H} {P:Program} {W:World}
theorem rd_ints {t e:TypeId}{k:IntKind}{fuel:Nat}{v:Value}{x:DataW H×List MemPlace}(ht:P.underlying t=some (.slice e))(he:P.underlying e=some (.int k))(hc:P.cellsOf e=1)
  (h:DataW.trod enc P W 0 (fun _=>true) true fuel t [v]=some x):∃ao n cap,∃zs:List Int,v=.slice ao n cap∧Rd W 1 ao n cap (zs.map (Value.int k))∧∀z∈zs,(Lit.int k z).wf=true:=by
 have hsl:∃ao n cap,v=.slice ao n cap:=by
  rcases ChangeShapes.open_ints ht he hc h with ⟨hcs,_⟩ | ⟨a,l,c,zs,hcs,_⟩
  ·exact⟨_,_,_,List.head_eq_of_cons_eq hcs⟩
  exact⟨_,_,_,List.head_eq_of_cons_eq hcs⟩
 obtain⟨ao,n,cap,rfl⟩:=hsl
 obtain⟨zs,h1,h2⟩:=open_rd (d:=x.1) (ps:=x.2) ht he hc ⟨fuel,h⟩
 exact⟨ao,n,cap,zs,rfl,h1,h2⟩
theorem rd_strs {t e:TypeId}{fuel:Nat}{v:Value}{x:DataW H×List MemPlace}(ht:P.underlying t=some (.slice e))(he:P.underlying e=some .string)(hc:P.cellsOf e=1)
  (h:DataW.trod enc P W 0 (fun _=>true) true fuel t [v]=some x):∃ao cap l,v=.slice ao l.length cap∧Rd W 1 ao l.length cap (txV l)∧∀s∈l,s.size≤maxLen:=by
 rcases Deep.open_strs ht he hc h with ⟨hcs,_⟩ | ⟨a,len,cap,m,S,hcs,_,hl,hm,hmm,_,hx⟩
 ·obtain rfl:=List.head_eq_of_cons_eq hcs
  exact⟨none,0,[],rfl,Rd.nil _ _,fun _ h=>by cases h⟩
 obtain rfl:=List.head_eq_of_cons_eq hcs
 simp only[if_true] at hmm
 refine⟨some a,cap,(List.range len).map S,by simp,?_,?_⟩
 ·simp only[List.length_map,List.length_range]
  refine⟨by simp[txV],hl,hm,(fun h=>by cases h),fun h0 a' ha=>?_⟩
  cases ha
  have hc0:=(hx 0 (by omega)).1
  have hs:a.spot=none:=by simpa [Addr.add] using World.cell?_spot hc0
  obtain⟨b,off,sp⟩:=a
  dsimp only at hs;subst hs
  refine⟨rfl,World.block_lt_of_cell? W _ hc0,fun j u hu=>?_⟩
  have hj:j<len:=by
   rcases Nat.lt_or_ge j len with h | h
   ·exact h
   rw[List.getElem?_eq_none (by simp[txV];omega)] at hu;cases hu
  have:=(hx j (by omega)).1
  rw[Addr.add_lit] at this
  rw[this]
  simpa [txV,List.getElem?_map,List.getElem?_range hj] using hu
 intro s hs
 obtain⟨i,hi,rfl⟩:=List.mem_map.1 hs
 exact (hx i (by have:=List.mem_range.1 hi;omega)).2
def Leaves (enc:TypeId×Value→H)(P:Program)(W:World)(ts:List TypeId)(cs:List Value):Prop:=
 cs.length=ts.length∧∀(j:Nat) (τ:TypeId),ts[j]?=some τ→∃(v:Value) (n:Nat) (y:DataW H×List MemPlace),cs[j]?=some v∧DataW.trod enc P W 0 (fun _=>true) true n τ [v]=some y
theorem take_one {cs:List Value}{o:Nat}(h:o<cs.length):(cs.drop o).take 1=[cs[o]'h]:=by
 rw[List.drop_eq_getElem_cons h]
 rfl
theorem leaves_one {t:TypeId}{fs:Array Field}{ts:List TypeId}(hts:(fs.map (·.type)).toList=ts){fuel:Nat}{cs:List Value}{x:DataW H×List MemPlace}(ht:P.underlying t=some (.struct fs))(hone:oneCellFields P fs=true)(hC:P.cellsOf t=fs.size)(h:DataW.trod enc P W 0 (fun _=>true) true fuel t cs=some x) :
  Leaves enc P W ts cs:=by
 subst hts
 obtain⟨ys,n',hn',hy,hlen,hyl,hf⟩:=DataW.trod_struct ht h
 refine⟨by rw[hlen,hC];simp,fun j τ hτ=>?_⟩
 have hj:j<fs.size:=by have:=(List.getElem?_eq_some_iff.1 hτ).1;simpa using this
 have hfj:fs[j]?=some fs[j]:=Array.getElem?_eq_getElem hj
 obtain⟨ho,hk⟩:=hone_of hone j _ hfj
 have h1:=hf j _ hfj
 rw[ho,hk,take_one (by rw[hlen,hC];exact hj)] at h1
 have ht':fs[j].type=τ:=by
  rw[Array.getElem?_toList,Array.getElem?_map,hfj] at hτ
  exact Option.some.inj hτ
 rw[ht'] at h1
 have hys:ys[j]?=some (ys[j]'(by omega)):=List.getElem?_eq_getElem (by omega)
 exact⟨_,n',_,List.getElem?_eq_getElem (by rw[hlen,hC];exact hj),h1.trans hys⟩
theorem leaves_two {t:TypeId}{f0 f1 f2:Field}{T2:List TypeId}{fuel:Nat}{cs:List Value}{x:DataW H×List MemPlace}(ht:P.underlying t=some (.struct #[f0,f1,f2]))(o0:f0.offset=0)(c0:P.cellsOf f0.type=1)(o1:f1.offset=1)(c1:P.cellsOf f1.type=1)(o2:f2.offset=2)(c2:P.cellsOf f2.type=T2.length)(hC:P.cellsOf t=2+T2.length)
  (hL:∀(fuel:Nat) (cs:List Value) (x:DataW H×List MemPlace),DataW.trod enc P W 0 (fun _=>true) true fuel f2.type cs=some x→Leaves enc P W T2 cs) (h:DataW.trod enc P W 0 (fun _=>true) true fuel t cs=some x):Leaves enc P W (f0.type::f1.type::T2) cs:=by
 obtain⟨ys,n',hn',hy,hlen,hyl,hf⟩:=DataW.trod_struct ht h
 have hyl':ys.length=3:=hyl
 have h0:=hf 0 f0 rfl
 have h1:=hf 1 f1 rfl
 have h2:=hf 2 f2 rfl
 rw[o0,c0,take_one (by omega)] at h0
 rw[o1,c1,take_one (by omega)] at h1
 rw[o2,c2] at h2
 have e0:ys[0]?=some (ys[0]'(by omega)):=List.getElem?_eq_getElem (by omega)
 have e1:ys[1]?=some (ys[1]'(by omega)):=List.getElem?_eq_getElem (by omega)
 have e2:ys[2]?=some (ys[2]'(by omega)):=List.getElem?_eq_getElem (by omega)
 obtain⟨hl2,hl⟩:=hL _ _ _ (h2.trans e2)
 refine⟨by rw[hlen,hC];simp;omega,fun j τ hτ=>?_⟩
 match j,hτ with
 | 0,hτ=>cases Option.some.inj hτ;exact⟨_,n',_,List.getElem?_eq_getElem (by omega),h0.trans e0⟩
 | 1,hτ=>cases Option.some.inj hτ;exact⟨_,n',_,List.getElem?_eq_getElem (by omega),h1.trans e1⟩
 | j+2,hτ=>
  obtain⟨v,n,y,hv,hy⟩:=hl j τ hτ
  refine⟨v,n,y,?_,hy⟩
  rw[List.getElem?_take] at hv
  split at hv
  ·rw[List.getElem?_drop] at hv
   rw[Nat.add_comm j 2]
   exact hv
  cases hv
theorem flat_len {α:Type}(en:α→List Value)(K:Nat)(hK:∀y,(en y).length=K)(l:List α):(l.flatMap en).length=l.length*K:=by
 induction l with
 | nil=>simp
 | cons a l ih=>simp[List.flatMap_cons,hK,ih,Nat.add_mul,Nat.add_comm]
theorem flat_at {α:Type}(en:α→List Value)(K:Nat)(hK:∀y,(en y).length=K)(l:List α)(k:Nat)(y:α)(h:l[k]?=some y)(j:Nat)(hj:j<K):(l.flatMap en)[k*K+j]?=(en y)[j]?:=by
 induction l generalizing k with
 | nil=>simp at h
 | cons z xs ih=>
  cases k with
  | zero=>
   rw[List.getElem?_cons_zero,Option.some.injEq] at h
   subst h
   rw[List.flatMap_cons,Nat.zero_mul,Nat.zero_add,List.getElem?_append_left (by rw[hK];exact hj)]
  | succ k=>
   rw[List.getElem?_cons_succ] at h
   rw[List.flatMap_cons,List.getElem?_append_right (by rw[hK,Nat.add_mul];omega),hK,←ih k h]
   congr 1
   rw[Nat.add_mul]
   omega
theorem open_rows {α:Type}(en:α→List Value)(good:α→Prop)(K:Nat)(hK:∀y,(en y).length=K)(h0K:0<K){t e:TypeId}{ts:List TypeId}(ht:P.underlying t=some (.slice e))(hC:P.cellsOf e=K)
  (hL:∀(fuel:Nat) (cs:List Value) (x:DataW H×List MemPlace),DataW.trod enc P W 0 (fun _=>true) true fuel e cs=some x→Leaves enc P W ts cs)
  (hd:∀cs,Leaves enc P W ts cs→∃y,good y∧en y=cs)
  {fuel:Nat} {v:Value} {x:DataW H×List MemPlace} (h:DataW.trod enc P W 0 (fun _=>true) true fuel t [v]=some x):∃(ao:Option Addr) (n cap:Nat) (ys:List α),v=.slice ao n cap∧ys.length=n∧(∀y∈ys,good y)∧Rd W K ao n cap (ys.flatMap en):=by
 rcases open_slice ht h with h0 | ⟨a,len,cap,m,n,D,Pl,hcs,hb,hl,hm,hmm,hx,hi⟩
 ·obtain rfl:=List.head_eq_of_cons_eq h0.1
  exact⟨none,0,0,[],rfl,rfl,(fun _ h=>by cases h),Rd.nil _ _⟩
 obtain rfl:=List.head_eq_of_cons_eq hcs
 simp only[if_true] at hmm
 subst hmm
 have row:∀i,i<m→∃y,good y∧∀j u,(en y)[j]?=some u→W.cell? (a.add (i*K+j))=some u:=by
  intro i him
  obtain⟨cs',hc,ht'⟩:=hi i him
  rw[hC] at hc
  obtain⟨y,hy,rfl⟩:=hd cs' (hL _ _ _ ht')
  obtain⟨_,hcl,hat⟩:=World.cells?_some hc
  refine⟨y,hy,fun j u hu=>?_⟩
  have hj:j<K:=by have:=(List.getElem?_eq_some_iff.1 hu).1;rw[hK] at this;exact this
  rw[←Go.Deep.add_add,hat j hj,hu]
 have each:∀k,k≤m→∃ys:List α,ys.length=k∧(∀y∈ys,good y)∧∀i j u y,ys[i]?=some y→(en y)[j]?=some u→W.cell? (a.add (i*K+j))=some u:=by
  intro k
  induction k with
  | zero=>exact fun _=>⟨[],rfl,(fun _ h=>by cases h),fun i j u y h=>by simp at h⟩
  | succ k ih=>
   intro hk
   obtain⟨ys,h1,h2,h3⟩:=ih (by omega)
   obtain⟨y,hy,hc⟩:=row k (by omega)
   refine⟨ys++[y],by simp[h1],?_,?_⟩
   ·intro q hq
    rcases List.mem_append.1 hq with hq | hq
    ·exact h2 q hq
    rw[List.mem_singleton] at hq;subst hq;exact hy
   intro i j u q hq hu
   by_cases him:i<k
   ·rw[List.getElem?_append_left (by omega)] at hq
    exact h3 i j u q hq hu
   have him2:i<k+1:=by have:=(List.getElem?_eq_some_iff.1 hq).1;simpa [h1] using this
   obtain rfl:i=k:=by omega
   rw[List.getElem?_append_right (by omega),h1,Nat.sub_self,List.getElem?_cons_zero,Option.some.injEq] at hq
   subst hq
   exact hc j u hu
 obtain⟨ys,h1,h2,h3⟩:=each len (by omega)
 refine⟨some a,len,m,ys,rfl,h1,h2,⟨by rw[flat_len en K hK,h1],by omega,hm,(fun h=>by cases h),fun h0 a' ha=>?_⟩⟩
 cases ha
 obtain⟨y0,_,hc0⟩:=row 0 h0
 have hu0:(en y0)[0]?=some ((en y0)[0]'(by rw[hK];exact h0K)):=List.getElem?_eq_getElem (by rw[hK];exact h0K)
 have hcc:=hc0 0 _ hu0
 have hs:a.spot=none:=by simpa [Addr.add] using World.cell?_spot hcc
 obtain⟨b,off,sp⟩:=a
 dsimp only at hs;subst hs
 rw[Addr.add_lit] at hcc
 refine⟨rfl,(show b<W.heap.size from World.block_lt_of_cell? W ⟨b,off+(0*K+0),none⟩ hcc),fun q u hu=>?_⟩
 have hq:q<ys.length*K:=by have:=(List.getElem?_eq_some_iff.1 hu).1;rwa [flat_len en K hK] at this
 have hdiv:q / K<ys.length:=(Nat.div_lt_iff_lt_mul h0K).2 hq
 have hp:ys[q / K]?=some ys[q / K]:=List.getElem?_eq_getElem hdiv
 have hj:q % K<K:=Nat.mod_lt _ h0K
 have hqq:q / K*K+q % K=q:=by rw[Nat.mul_comm];exact Nat.div_add_mod q K
 have h4:=flat_at en K hK ys (q / K) _ hp (q % K) hj
 rw[hqq,hu] at h4
 have h5:=h3 (q / K) (q % K) u _ hp h4.symm
 rw[hqq,Addr.add_lit] at h5
 exact h5
end
section
variable {H:Type} {enc:TypeId×Value→H} {W:World}
theorem wf_u8 {z:Int}(h:(Lit.int .u8 z).wf=true):0≤z∧z<256:=by
 simp only[Lit.wf,Bool.and_eq_true,decide_eq_true_eq] at h
 exact⟨h.1,Int.lt_of_le_sub_one h.2⟩
theorem wf_u64 {z:Int}(h:(Lit.int .u64 z).wf=true):0≤z∧z<18446744073709551616:=by
 simp only[Lit.wf,Bool.and_eq_true,decide_eq_true_eq] at h
 exact⟨h.1,Int.lt_of_le_sub_one h.2⟩
theorem bytes_of (zs:List Int)(h:∀z∈zs,0≤z∧z<256):∃b:List UInt8,zs.map (Value.int .u8)=byV b:=by
 induction zs with
 | nil=>exact⟨[],rfl⟩
 | cons z zs ih=>
  obtain⟨b,hb⟩:=ih (fun y hy=>h y (List.mem_cons_of_mem _ hy))
  obtain⟨h1,h2⟩:=h z List.mem_cons_self
  refine⟨UInt8.ofNat z.toNat::b,?_⟩
  show Value.int .u8 z::zs.map (Value.int .u8)=.int .u8 ((UInt8.ofNat z.toNat).toNat:Int)::byV b
  rw[hb,UInt8.toNat_ofNat',Nat.mod_eq_of_lt (by omega),Int.toNat_of_nonneg h1]
theorem attr_leaves (fuel:Nat)(cs:List Value)(x:DataW H×List MemPlace)(h:DataW.trod enc Tryz.prog W 0 (fun _=>true) true fuel 106 cs=some x):Leaves enc Tryz.prog W [9,9] cs:=
 leaves_one (by kernel_rfl) Tryz.underlying106 (by kernel_rfl) (by kernel_rfl) h
def attE (u:ByteArray×ByteArray):List Value:=[.string u.1,.string u.2]
theorem attr_dec (cs:List Value)(h:Leaves enc Tryz.prog W [9,9] cs):∃u:ByteArray×ByteArray,True∧attE u=cs:=by
 obtain⟨v0,n0,y0,c0,d0⟩:=h.2 0 _ rfl
 obtain⟨v1,n1,y1,c1,d1⟩:=h.2 1 _ rfl
 obtain⟨s0,e0,-,-⟩:=DataW.trod_string Tryz.underlying9 d0
 obtain⟨s1,e1,-,-⟩:=DataW.trod_string Tryz.underlying9 d1
 obtain rfl:=List.head_eq_of_cons_eq e0
 obtain rfl:=List.head_eq_of_cons_eq e1
 refine⟨(s0,s1),trivial,?_⟩
 have hl:cs.length=2:=h.1
 refine List.ext_getElem? (fun j=>?_)
 match j with
 | 0=>exact c0.symm
 | 1=>exact c1.symm
 | j+2=>rw[List.getElem?_eq_none (by simp[attE]),List.getElem?_eq_none (by omega)]
def opTs:List TypeId:=[31,9,9,32,33,34,3]
theorem op_leaves (fuel:Nat)(cs:List Value)(x:DataW H×List MemPlace)(h:DataW.trod enc Tryz.prog W 0 (fun _=>true) true fuel 36 cs=some x):Leaves enc Tryz.prog W opTs cs:=
 leaves_one (by kernel_rfl) Tryz.underlying36 (by kernel_rfl) (by kernel_rfl) h
theorem req_leaves (fuel:Nat)(cs:List Value)(x:DataW H×List MemPlace)(h:DataW.trod enc Tryz.prog W 0 (fun _=>true) true fuel 55 cs=some x):Leaves enc Tryz.prog W (22::22::opTs) cs:=
 leaves_two Tryz.underlying55 rfl (by kernel_rfl) rfl (by kernel_rfl) rfl (by kernel_rfl) (by kernel_rfl) op_leaves h
def opE (v:OV):List Value:=[.int .i64 v.k,.string v.name,.string v.to,.slice v.ao v.an v.ac,.slice v.bo v.bn v.bc,.slice v.co v.cn v.cc,.int .i64 v.n]
theorem op_dec {ts:List TypeId}{cs:List Value}(o:Nat)(h:Leaves enc Tryz.prog W ts cs)(ht:∀j:Nat,ts[o+j]?=opTs[j]?):∃(v:OV) (c:OC),OpRd W v c∧∀(j:Nat) (u:Value),(opE v)[j]?=some u→cs[o+j]?=some u:=by
 obtain⟨v0,n0,y0,c0,d0⟩:=h.2 (o+0) 31 (ht 0)
 obtain⟨v1,n1,y1,c1,d1⟩:=h.2 (o+1) 9 (ht 1)
 obtain⟨v2,n2,y2,c2,d2⟩:=h.2 (o+2) 9 (ht 2)
 obtain⟨v3,n3,y3,c3,d3⟩:=h.2 (o+3) 32 (ht 3)
 obtain⟨v4,n4,y4,c4,d4⟩:=h.2 (o+4) 33 (ht 4)
 obtain⟨v5,n5,y5,c5,d5⟩:=h.2 (o+5) 34 (ht 5)
 obtain⟨v6,n6,y6,c6,d6⟩:=h.2 (o+6) 3 (ht 6)
 obtain⟨z0,e0,-,-⟩:=DataW.trod_int (k:=.i64) Tryz.underlying31 d0
 obtain⟨s1,e1,-,-⟩:=DataW.trod_string Tryz.underlying9 d1
 obtain⟨s2,e2,-,-⟩:=DataW.trod_string Tryz.underlying9 d2
 obtain⟨z6,e6,-,-⟩:=DataW.trod_int (k:=.i64) Tryz.underlying3 d6
 obtain rfl:=List.head_eq_of_cons_eq e0
 obtain rfl:=List.head_eq_of_cons_eq e1
 obtain rfl:=List.head_eq_of_cons_eq e2
 obtain rfl:=List.head_eq_of_cons_eq e6
 obtain⟨ao,an,ac,la,rfl,hal,-,ha⟩:=open_rows attE (fun _=>True) 2 (fun _=>rfl) (by decide) (ts:=[9,9]) Tryz.underlying32 (by kernel_rfl) attr_leaves attr_dec d3
 obtain⟨bo,bc,lb,rfl,hb,-⟩:=rd_strs (e:=9) Tryz.underlying33 Tryz.underlying9 (by kernel_rfl) d4
 obtain⟨co,cn,cc,zs,rfl,hc,hz⟩:=rd_ints (e:=5) (k:=.u8) Tryz.underlying34 Tryz.underlying5 (by kernel_rfl) d5
 obtain⟨b,hbb⟩:=bytes_of zs (fun z h=>wf_u8 (hz z h))
 rw[hbb] at hc
 refine⟨⟨z0,s1,s2,ao,an,ac,bo,lb.length,bc,co,cn,cc,z6⟩,⟨la,lb,b⟩,⟨ha,hb,hc⟩,fun j u hu=>?_⟩
 match j,hu with
 | 0,hu=>cases Option.some.inj hu;exact c0
 | 1,hu=>cases Option.some.inj hu;exact c1
 | 2,hu=>cases Option.some.inj hu;exact c2
 | 3,hu=>cases Option.some.inj hu;exact c3
 | 4,hu=>cases Option.some.inj hu;exact c4
 | 5,hu=>cases Option.some.inj hu;exact c5
 | 6,hu=>cases Option.some.inj hu;exact c6
 | j+7,hu=>simp[opE] at hu
theorem req_dec (cs:List Value)(h:Leaves enc Tryz.prog W (22::22::opTs) cs):∃p:RP,(OpRd W p.1.op p.2∧FitP p)∧p.1.cells.toList=cs:=by
 obtain⟨v0,n0,y0,c0,d0⟩:=h.2 0 _ rfl
 obtain⟨v1,n1,y1,c1,d1⟩:=h.2 1 _ rfl
 obtain⟨z0,e0,-,w0⟩:=DataW.trod_int (k:=.u64) Tryz.underlying22 d0
 obtain⟨z1,e1,-,w1⟩:=DataW.trod_int (k:=.u64) Tryz.underlying22 d1
 obtain rfl:=List.head_eq_of_cons_eq e0
 obtain rfl:=List.head_eq_of_cons_eq e1
 obtain⟨v,c,hr,hc⟩:=op_dec 2 h (fun j=>by rw[Nat.add_comm];rfl)
 obtain⟨q1,q2⟩:=wf_u64 w0
 obtain⟨r1,r2⟩:=wf_u64 w1
 refine⟨(⟨z0,z1,v⟩,c),⟨hr,⟨q1,q2,r1,r2⟩⟩,?_⟩
 have hl:cs.length=9:=h.1
 refine List.ext_getElem? (fun j=>?_)
 match j with
 | 0=>exact c0.symm
 | 1=>exact c1.symm
 | j+2=>
  by_cases hj:j<7
  ·have hu:(opE v)[j]?=some ((opE v)[j]'hj):=List.getElem?_eq_getElem hj
   rw[Nat.add_comm j 2,hc j _ hu,Nat.add_comm 2 j]
   exact hu
  rw[List.getElem?_eq_none (by simp[RV.cells];omega),List.getElem?_eq_none (by omega)]
theorem bytes_open {ao:Option Addr}{n cap:Nat}{d:DataW H}{ps:List MemPlace}(h:DataW.Trod enc Tryz.prog W 0 (fun _=>true) true 34 (.slice ao n cap) d ps):∃b:List UInt8,Rd W 1 ao n cap (byV b):=by
 obtain⟨fuel,hf⟩:=h
 obtain⟨ao',n',cap',zs,e,hr,hz⟩:=rd_ints (e:=5) (k:=.u8) Tryz.underlying34 Tryz.underlying5 (by kernel_rfl) hf
 cases e
 obtain⟨b,hb⟩:=bytes_of zs (fun z h=>wf_u8 (hz z h))
 exact⟨b,by rw[←hb];exact hr⟩
end
set_option maxRecDepth 100000 in
theorem total_any (ao:Option Addr)(n cap:Nat)(l:List ByteArray)(w:World)(hr:Rd w 1 ao n cap (txV l))(hn:n≤12) :
  Calls Tryz.prog 100 #[.slice ao n cap] w fun e w'=>(∃z:Int,e=.returned (.int .i64 z))∧w=w':=by
 have hl:l.length=n:=by have:=hr.1;rw[txV_len] at this;omega
 go_enter Tryz.func100,Tryz.ntmps100
 go_wp2_with fail
 go_loopw [3,4] (fun v p wr=>∃(k:Nat) (z:Int),k≤n∧p=.int .i64 (k:Int)∧v=.int .i64 z∧0≤z∧z≤9001*k∧wr=w) (fun _ p _=>n-(intOf p).toNat)
 case atStart=>exact⟨0,0,Nat.zero_le _,rfl,rfl,by omega,by omega,rfl⟩
 case round=>
  obtain⟨k,z,hk,rfl,rfl,hz0,hz1,rfl⟩:=hrel
  by_cases hkn:k<n
  ·obtain⟨b1,o1,rfl,hl1,hc1⟩:=hr.some (by have:=hr.le;omega)
   obtain⟨u,hue⟩:∃u,l[k]?=some u:=⟨_,List.getElem?_eq_getElem (by omega)⟩
   have c1:=hc1 k _ (txV_at l k u hue)
   have c2:wr.cell? ⟨b1,o1+k*1,none⟩=some (.string u):=by rw[Nat.mul_one];exact c1
   have i0:(0:Int)≤(k:Int):=by omega
   have i1:(k:Int)<(n:Int):=by omega
   obtain⟨m,hm⟩:∃m:Int,min (u.size:Int) 9001=m:=⟨_,rfl⟩
   have hm0:0≤m∧m≤9001:=by omega
   have hw:IntKind.i64.wrap (z+m)=z+m:=wraps_i64' _ (by omega) (by omega)
   clear hm
   go_wp2_with fail
   case roundEnd=>
    refine⟨⟨k+1,_,by omega,by go_num,rfl,?_,?_,trivial⟩,by simp[intOf];omega⟩
    ·split<;>omega
    split<;>omega
  go_wp2_with fail
  go_ret
  exact⟨⟨_,rfl⟩,rfl⟩
set_option maxRecDepth 100000 in
theorem much_any (ao:Option Addr)(n cap:Nat)(x:List (ByteArray×ByteArray))(w:World)(hr:Rd w 2 ao n cap (atV x)) :
  Calls Tryz.prog 99 #[.slice ao n cap] w fun e w'=>(∃b:Bool,e=.returned (.bool b)∧(b=false→n≤120))∧Below w.heap.size w w':=by
 have hl:x.length=n:=by have:=hr.1;rw[atV_len] at this;omega
 have hn63:n<9223372036854775808:=by have h1:=hr.2.1;have h2:=hr.2.2.1;unfold maxLen at h2;omega
 go_enter Tryz.func99,Tryz.ntmps99
 go_wp2_with fail
 go_loopw [3,4] (fun v p wr=>∃(k:Nat) (z:Int),k≤n∧k≤121∧p=.int .i64 (k:Int)∧v=.int .i64 z∧0≤z∧z≤40002*k∧Below w.heap.size w wr) (fun _ p _=>121-(intOf p).toNat)
 case atStart=>exact⟨0,0,Nat.zero_le _,Nat.zero_le _,rfl,rfl,by omega,by omega,Below.refl _ _⟩
 case round=>
  obtain⟨k,z,hk,hk2,rfl,rfl,hz0,hz1,hbr⟩:=hrel
  by_cases hkn:k<n
  ·have f0:decide ((k:Int)<(n:Int))=true:=decide_eq_true (by omega)
   by_cases hk120:k≤120
   ·have f1:decide ((k:Int)≤120)=true:=decide_eq_true (by omega)
    obtain⟨b1,o1,rfl,hl1,hc1⟩:=hr.some (by have:=hr.le;omega)
    obtain⟨u,hue⟩:∃u,x[k]?=some u:=⟨_,List.getElem?_eq_getElem (by omega)⟩
    obtain⟨v1,v2⟩:=atV_at x k u hue
    have c1:=(hbr.cell (p:=⟨b1,o1+k*2,none⟩) hl1).trans (hc1 (k*2) _ v1)
    have c2:wr.cell? ⟨b1,o1+k*2+1,none⟩=_:=(hbr.cell (p:=⟨b1,o1+(k*2+1),none⟩) hl1).trans (hc1 (k*2+1) _ v2)
    have i0:(0:Int)≤(k:Int):=by omega
    have i1:(k:Int)<(n:Int):=by omega
    obtain⟨m1,hm1⟩:∃m:Int,(if (20001:Int)<(u.1.size:Int) then 20001 else (u.1.size:Int))=m:=⟨_,rfl⟩
    obtain⟨m2,hm2⟩:∃m:Int,(if (20001:Int)<(u.2.size:Int) then 20001 else (u.2.size:Int))=m:=⟨_,rfl⟩
    have hb1:0≤m1∧m1≤20001:=by rw[←hm1];split<;>omega
    have hb2:0≤m2∧m2≤20001:=by rw[←hm2];split<;>omega
    have hw1:IntKind.i64.wrap (z+m1)=z+m1:=wraps_i64' _ (by omega) (by omega)
    have hw2:IntKind.i64.wrap (z+m1+m2)=z+m1+m2:=wraps_i64' _ (by omega) (by omega)
    clear hc1 v1 v2 hue
    go_upto_region 5 with fail
    go_quiet (fail)
    have hbn:=hbr.trans ((below_drewN (Below.refl wr.heap.size wr) nq).mono hbr.size)
    go_wp2_with fail
    go_roundw
    case rel=>exact⟨k+1,_,by omega,by omega,by go_num,rfl,by omega,by omega,hbn⟩
    case measure=>simp[intOf];omega
   have f1:decide ((k:Int)≤120)=false:=decide_eq_false (by omega)
   have f2:decide ((120:Int)<(n:Int))=true:=decide_eq_true (by omega)
   go_wp2_with fail
   go_ret
   exact⟨⟨true,rfl,fun h=>by cases h⟩,hbr⟩
  have f0:decide ((k:Int)<(n:Int))=false:=decide_eq_false (by omega)
  by_cases h120:120<n
  ·have f2:decide ((120:Int)<(n:Int))=true:=decide_eq_true (by omega)
   go_wp2_with fail
   go_ret
   exact⟨⟨true,rfl,fun h=>by cases h⟩,hbr⟩
  have f2:decide ((120:Int)<(n:Int))=false:=decide_eq_false (by omega)
  go_wp2_with fail
  go_ret
  exact⟨⟨_,rfl,fun _=>by omega⟩,hbr⟩
def GivesBig (v:OV)(c:OC)(w:World)(e:Ending)(w':World):Prop:=∃b:Bool,e=.returned (.bool b)∧(b=false→OpAt w v c)∧Below w.heap.size w w'
set_option maxRecDepth 100000 in
theorem big_any (v:OV)(c:OC)(w:World)(ho:OpRd w v c):Calls Tryz.prog 58 #[v.val] w (GivesBig v c w):=by
 have hb0:Below w.heap.size w (w.alloc v.box):=(Below.refl _ _).alloc (Nat.le_refl _) _
 have k0:(w.alloc v.box).heap[w.heap.size]?=some v.box:=by show (w.heap.push _)[w.heap.size]?=some _;exact Array.getElem?_push_size
 unfold OV.box at hb0 k0
 unfold OV.val
 go_enter Tryz.func58,Tryz.ntmps58
 go_upto_region 1 with fail
 generalize hg:w.alloc _=W0 at *
 have k0f:W0.heap[w.heap.size]?=some v.box:=k0
 have ho0:=ho.later hb0
 clear hg k0
 obtain⟨c0,c1,c2,c3,c4,c5,c6,-⟩:=box_all k0f
 by_cases h1:3000<v.name.size
 ·have f1:decide ((3000:Int)<(v.name.size:Int))=true:=decide_eq_true (by omega)
  go_wp2_with fail
  go_ret
  exact⟨true,rfl,fun h=>(by cases h),hb0⟩
 have f1:decide ((3000:Int)<(v.name.size:Int))=false:=decide_eq_false (by omega)
 by_cases h2:3000<v.to.size
 ·have f2:decide ((3000:Int)<(v.to.size:Int))=true:=decide_eq_true (by omega)
  go_wp2_with fail
  go_ret
  exact⟨true,rfl,fun h=>(by cases h),hb0⟩
 have f2:decide ((3000:Int)<(v.to.size:Int))=false:=decide_eq_false (by omega)
 clear h1 h2
 go_wp2_with fail
 refine (much_any v.ao v.an v.ac c.attrs W0 ho0.a).mono ?_
 rintro e W1 ⟨⟨b,rfl,hb⟩,hb1⟩
 have k1f:W1.heap[w.heap.size]?=some v.box:=(hb1.block _ (Array.getElem?_eq_some_iff.1 k0f).1).trans k0f
 have hbb:=hb0.trans (hb1.mono hb0.size)
 have ho1:=ho0.later hb1
 clear f1 f2 c0 c1 c2 c3 c4 c5 c6 ho0 k0f hb1
 obtain⟨c0,c1,c2,c3,c4,c5,c6,-⟩:=box_all k1f
 have Hb:=Lib.hid hb
 clear hb
 cases b with
 | true=>
  go_wp2_with fail
  go_ret
  exact⟨true,rfl,fun h=>(by cases h),hbb⟩
 | false=>
  have hAn:=Hb.out (by first | rfl | trivial)
  clear Hb
  by_cases h3:12<v.bn
  ·have f3:decide ((12:Int)<(v.bn:Int))=true:=decide_eq_true (by omega)
   clear hAn
   go_wp2_with fail
   go_ret
   exact⟨true,rfl,fun h=>(by cases h),hbb⟩
  have f3:decide ((12:Int)<(v.bn:Int))=false:=decide_eq_false (by omega)
  have HAn:=Lib.hid hAn
  have H3:=Lib.hid h3
  clear hAn h3
  go_wp2_with fail
  refine (total_any v.bo v.bn v.bc c.parts W1 ho1.b (by have:=H3.out;omega)).mono ?_
  rintro e W2 ⟨⟨z,rfl⟩,rfl⟩
  by_cases h4:9000<z
  ·have f4:decide ((9000:Int)<z)=true:=decide_eq_true h4
   go_wp2_with fail
   go_ret
   exact⟨true,rfl,fun h=>(by cases h),hbb⟩
  have f4:decide ((9000:Int)<z)=false:=decide_eq_false h4
  by_cases h5:9000<v.cn
  ·have f5:decide ((9000:Int)<(v.cn:Int))=true:=decide_eq_true (by omega)
   go_wp2_with fail
   go_ret
   exact⟨true,rfl,fun h=>(by cases h),hbb⟩
  have f5:decide ((9000:Int)<(v.cn:Int))=false:=decide_eq_false (by omega)
  go_wp2_with fail
  go_ret
  exact⟨false,rfl,fun _=>⟨ho.a,ho.b,ho.c,by have:=HAn.out;omega,by have:=H3.out;omega,by omega⟩,hbb⟩
end Go.Proofs.YtfmmandlmbcncaaGreatDoor.Msg
