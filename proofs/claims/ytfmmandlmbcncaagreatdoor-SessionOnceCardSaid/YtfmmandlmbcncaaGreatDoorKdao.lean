/-
  A part of the proof.
-/
import Derived.Deep.Slices
import Derived.Deep.Fields
import Derived.Deep.Strs
import Derived.ChangeSame
import Derived.ChangeArms
import Derived.Test.YtfmmandlmbcncaaGreatDoorKdal
import Derived.Test.YtfmmandlmbcncaaGreatDoorKdan
set_option maxHeartbeats 40000000
set_option maxRecDepth 100000
namespace Go.Proofs.YtfmmandlmbcncaaGreatDoor.Msg
open Go.RowKit Go.Lib Mem Tlv
open Go.ChangeShapes Go.WideShapes Go.Deep
abbrev RP:=RV×OC
structure OpRd (W:World)(v:OV)(c:OC):Prop where
 a:Rd W 2 v.ao v.an v.ac (atV c.attrs)
 b:Rd W 1 v.bo v.bn v.bc (txV c.parts)
 c:Rd W 1 v.co v.cn v.cc (byV c.cursor)
section
variable {H:Type} {enc:TypeId×Value->H} {P:Program} {W:World}
theorem yg {t e:TypeId}{k:IntKind}{fuel:Nat}{v:Value}{x:DataW H×List MemPlace}(ht:P.underlying t=some (.slice e))(he:P.underlying e=some (.int k))(hc:P.cellsOf e=1)
  (h:DataW.trod enc P W 0 (fun _=>true) true fuel t [v]=some x):∃ao n cap,∃zs:List Int,v=.slice ao n cap/\Rd W 1 ao n cap (zs.map (Value.int k))/\∀z∈zs,(Lit.int k z).wf=true:=by
 have hsl:∃ao n cap,v=.slice ao n cap:=by
  rcases ChangeShapes.open_ints ht he hc h with ⟨hcs,_⟩ | ⟨a,l,c,zs,hcs,_⟩
  ·exact⟨_,_,_,List.head_eq_of_cons_eq hcs⟩
  exact⟨_,_,_,List.head_eq_of_cons_eq hcs⟩
 obtain⟨ao,n,cap,rfl⟩:=hsl;obtain⟨zs,h1,h2⟩:=Ox (d:=x.1) (ps:=x.2) ht he hc ⟨fuel,h⟩;exact⟨ao,n,cap,zs,rfl,h1,h2⟩
theorem Oq {t e:TypeId}{fuel:Nat}{v:Value}{x:DataW H×List MemPlace}(ht:P.underlying t=some (.slice e))(he:P.underlying e=some .string)(hc:P.cellsOf e=1)
  (h:DataW.trod enc P W 0 (fun _=>true) true fuel t [v]=some x):∃ao cap l,v=.slice ao l.length cap/\Rd W 1 ao l.length cap (txV l)/\∀s∈l,s.size<=maxLen:=by
 rcases Deep.open_strs ht he hc h with ⟨hcs,_⟩ | ⟨a,len,cap,m,S,hcs,_,hl,hm,hmm,_,hx⟩
 ·obtain rfl:=List.head_eq_of_cons_eq hcs;exact⟨none,0,[],rfl,Rd.nil _ _,fun _ h=>by cases h⟩
 obtain rfl:=List.head_eq_of_cons_eq hcs;simp only[if_true] at hmm;refine⟨some a,cap,(List.range len).map S,by simp,?_,?_⟩
 ·simp only[List.length_map,List.length_range];refine⟨by simp[txV],hl,hm,(fun h=>by cases h),fun h0 a' ha=>?_⟩;cases ha;have hc0:=(hx 0 (by omega)).1;have hs:a.spot=none:=by simpa [Addr.add] using World.cell?_spot hc0
  obtain⟨b,off,sp⟩:=a;dsimp only at hs;subst hs;refine⟨rfl,World.block_lt_of_cell? W _ hc0,fun j u hu=>?_⟩;have hj:j<len:=by
   rcases Nat.lt_or_ge j len with h | h
   ·exact h
   rw[List.getElem?_eq_none (by simp[txV];omega)] at hu;cases hu
  have:=(hx j (by omega)).1;rw[Addr.add_lit] at this;rw[this];simpa [txV,List.getElem?_map,List.getElem?_range hj] using hu
 intro s hs;obtain⟨i,hi,rfl⟩:=List.mem_map.1 hs;exact (hx i (by have:=List.mem_range.1 hi;omega)).2
def Leaves (enc:TypeId×Value->H)(P:Program)(W:World)(ts:List TypeId)(cs:List Value):Prop:=
 cs.length=ts.length/\∀(j:Nat) (τ:TypeId),ts[j]?=some τ->∃(v:Value) (n:Nat) (y:DataW H×List MemPlace),cs[j]?=some v/\DataW.trod enc P W 0 (fun _=>true) true n τ [v]=some y
theorem Bd {cs:List Value}{o:Nat}(h:o<cs.length):(cs.drop o).take 1=[cs[o]'h]:=by
 rw[List.drop_eq_getElem_cons h];rfl
theorem mP {t:TypeId}{fs:Array Field}{ts:List TypeId}(hts:(fs.map (·.type)).toList=ts){fuel:Nat}{cs:List Value}{x:DataW H×List MemPlace}(ht:P.underlying t=some (.struct fs))(hone:oneCellFields P fs=true)(hC:P.cellsOf t=fs.size)(h:DataW.trod enc P W 0 (fun _=>true) true fuel t cs=some x) :
  Leaves enc P W ts cs:=by
 subst hts;obtain⟨ys,n',hn',hy,hlen,hyl,hf⟩:=DataW.trod_struct ht h;refine⟨by rw[hlen,hC];simp,fun j τ hτ=>?_⟩;have hj:j<fs.size:=by have:=(List.getElem?_eq_some_iff.1 hτ).1;simpa using this
 have hfj:fs[j]?=some fs[j]:=Array.getElem?_eq_getElem hj;obtain⟨ho,hk⟩:=hone_of hone j _ hfj;have h1:=hf j _ hfj;rw[ho,hk,Bd (by rw[hlen,hC];exact hj)] at h1;have ht':fs[j].type=τ:=by
  rw[Array.getElem?_toList,Array.getElem?_map,hfj] at hτ;exact Option.some.inj hτ
 rw[ht'] at h1;have hys:ys[j]?=some (ys[j]'(by omega)):=List.getElem?_eq_getElem (by omega);exact⟨_,n',_,List.getElem?_eq_getElem (by rw[hlen,hC];exact hj),h1.trans hys⟩
theorem wI {α:Type}(en:α->List Value)(K:Nat)(hK:∀y,(en y).length=K)(l:List α):(l.flatMap en).length=l.length*K:=by
 induction l with
 | nil=>simp
 | cons a l ih=>simp[List.flatMap_cons,hK,ih,Nat.add_mul,Nat.add_comm]
theorem Dp {α:Type}(en:α->List Value)(K:Nat)(hK:∀y,(en y).length=K)(l:List α)(k:Nat)(y:α)(h:l[k]?=some y)(j:Nat)(hj:j<K):(l.flatMap en)[k*K+j]?=(en y)[j]?:=by
 induction l generalizing k with
 | nil=>simp at h
 | cons z xs ih=>
  cases k with
  | zero=>
   rw[List.getElem?_cons_zero,Option.some.injEq] at h;subst h;rw[List.flatMap_cons,Nat.zero_mul,Nat.zero_add,List.getElem?_append_left (by rw[hK];exact hj)]
  | succ k=>
   rw[List.getElem?_cons_succ] at h;rw[List.flatMap_cons,List.getElem?_append_right (by rw[hK,Nat.add_mul];omega),hK,<-ih k h]
   congr 1
   rw[Nat.add_mul];omega
theorem oO {α:Type}(en:α->List Value)(good:α->Prop)(K:Nat)(hK:∀y,(en y).length=K)(h0K:0<K){t e:TypeId}{ts:List TypeId}(ht:P.underlying t=some (.slice e))(hC:P.cellsOf e=K)
  (hL:∀(fuel:Nat) (cs:List Value) (x:DataW H×List MemPlace),DataW.trod enc P W 0 (fun _=>true) true fuel e cs=some x->Leaves enc P W ts cs)
  (hd:∀cs,Leaves enc P W ts cs->∃y,good y/\en y=cs)
  {fuel:Nat} {v:Value} {x:DataW H×List MemPlace} (h:DataW.trod enc P W 0 (fun _=>true) true fuel t [v]=some x):∃(ao:Option Addr) (n cap:Nat) (ys:List α),v=.slice ao n cap/\ys.length=n/\(∀y∈ys,good y)/\Rd W K ao n cap (ys.flatMap en):=by
 rcases open_slice ht h with h0 | ⟨a,len,cap,m,n,D,Pl,hcs,hb,hl,hm,hmm,hx,hi⟩
 ·obtain rfl:=List.head_eq_of_cons_eq h0.1;exact⟨none,0,0,[],rfl,rfl,(fun _ h=>by cases h),Rd.nil _ _⟩
 obtain rfl:=List.head_eq_of_cons_eq hcs;simp only[if_true] at hmm;subst hmm;have row:∀i,i<m->∃y,good y/\∀j u,(en y)[j]?=some u->W.cell? (a.add (i*K+j))=some u:=by
  intro i him;obtain⟨cs',hc,ht'⟩:=hi i him;rw[hC] at hc;obtain⟨y,hy,rfl⟩:=hd cs' (hL _ _ _ ht');obtain⟨_,hcl,hat⟩:=World.cells?_some hc;refine⟨y,hy,fun j u hu=>?_⟩;have hj:j<K:=by have:=(List.getElem?_eq_some_iff.1 hu).1;rw[hK] at this;exact this
  rw[<-Go.Deep.add_add,hat j hj,hu]
 have each:∀k,k<=m->∃ys:List α,ys.length=k/\(∀y∈ys,good y)/\∀i j u y,ys[i]?=some y->(en y)[j]?=some u->W.cell? (a.add (i*K+j))=some u:=by
  intro k;induction k with
  | zero=>exact fun _=>⟨[],rfl,(fun _ h=>by cases h),fun i j u y h=>by simp at h⟩
  | succ k ih=>
   intro hk;obtain⟨ys,h1,h2,h3⟩:=ih (by omega);obtain⟨y,hy,hc⟩:=row k (by omega);refine⟨ys++[y],by simp[h1],?_,?_⟩
   ·intro q hq;rcases List.mem_append.1 hq with hq | hq
    ·exact h2 q hq
    rw[List.mem_singleton] at hq;subst hq;exact hy
   intro i j u q hq hu;by_cases him:i<k
   ·rw[List.getElem?_append_left (by omega)] at hq;exact h3 i j u q hq hu
   have him2:i<k+1:=by have:=(List.getElem?_eq_some_iff.1 hq).1;simpa [h1] using this
   obtain rfl:i=k:=by omega
   rw[List.getElem?_append_right (by omega),h1,Nat.sub_self,List.getElem?_cons_zero,Option.some.injEq] at hq;subst hq;exact hc j u hu
 obtain⟨ys,h1,h2,h3⟩:=each len (by omega);refine⟨some a,len,m,ys,rfl,h1,h2,⟨by rw[wI en K hK,h1],by omega,hm,(fun h=>by cases h),fun h0 a' ha=>?_⟩⟩;cases ha;obtain⟨y0,_,hc0⟩:=row 0 h0;have hu0:(en y0)[0]?=some ((en y0)[0]'(by rw[hK];exact h0K)):=List.getElem?_eq_getElem (by rw[hK];exact h0K);have hcc:=hc0 0 _ hu0;have hs:a.spot=none:=by simpa [Addr.add] using World.cell?_spot hcc
 obtain⟨b,off,sp⟩:=a;dsimp only at hs;subst hs;rw[Addr.add_lit] at hcc;refine⟨rfl,(show b<W.heap.size from World.block_lt_of_cell? W ⟨b,off+(0*K+0),none⟩ hcc),fun q u hu=>?_⟩;have hq:q<ys.length*K:=by have:=(List.getElem?_eq_some_iff.1 hu).1;rwa [wI en K hK] at this
 have hdiv:q / K<ys.length:=(Nat.div_lt_iff_lt_mul h0K).2 hq;have hp:ys[q / K]?=some ys[q / K]:=List.getElem?_eq_getElem hdiv;have hj:q % K<K:=Nat.mod_lt _ h0K;have hqq:q / K*K+q % K=q:=by rw[Nat.mul_comm];exact Nat.div_add_mod q K
 have h4:=Dp en K hK ys (q / K) _ hp (q % K) hj;rw[hqq,hu] at h4;have h5:=h3 (q / K) (q % K) u _ hp h4.symm;rw[hqq,Addr.add_lit] at h5;exact h5
end
section
variable {H:Type} {enc:TypeId×Value->H} {W:World}
theorem wf_u8 {z:Int}(h:(Lit.int .u8 z).wf=true):0<=z/\z<256:=by
 simp only[Lit.wf,Bool.and_eq_true,decide_eq_true_eq] at h;exact⟨h.1,Int.lt_of_le_sub_one h.2⟩
theorem wf_u64 {z:Int}(h:(Lit.int .u64 z).wf=true):0<=z/\z<18446744073709551616:=by
 simp only[Lit.wf,Bool.and_eq_true,decide_eq_true_eq] at h;exact⟨h.1,Int.lt_of_le_sub_one h.2⟩
theorem wE (zs:List Int)(h:∀z∈zs,0<=z/\z<256):∃b:List UInt8,zs.map (Value.int .u8)=byV b:=by
 induction zs with
 | nil=>exact⟨[],rfl⟩
 | cons z zs ih=>
  obtain⟨b,hb⟩:=ih (fun y hy=>h y (List.mem_cons_of_mem _ hy));obtain⟨h1,h2⟩:=h z List.mem_cons_self;refine⟨UInt8.ofNat z.toNat::b,?_⟩;show Value.int .u8 z::zs.map (Value.int .u8)=.int .u8 ((UInt8.ofNat z.toNat).toNat:Int)::byV b;rw[hb,UInt8.toNat_ofNat',Nat.mod_eq_of_lt (by omega),Int.toNat_of_nonneg h1]
theorem vJ (fuel:Nat)(cs:List Value)(x:DataW H×List MemPlace)(h:DataW.trod enc Tryz.prog W 0 (fun _=>true) true fuel 106 cs=some x):Leaves enc Tryz.prog W [9,9] cs:=
 mP (by kernel_rfl) Tryz.underlying106 (by kernel_rfl) (by kernel_rfl) h
def FP (u:ByteArray×ByteArray):List Value:=[.string u.1,.string u.2]
theorem BL (cs:List Value)(h:Leaves enc Tryz.prog W [9,9] cs):∃u:ByteArray×ByteArray,True/\FP u=cs:=by
 obtain⟨v0,n0,y0,c0,d0⟩:=h.2 0 _ rfl;obtain⟨v1,n1,y1,c1,d1⟩:=h.2 1 _ rfl;obtain⟨s0,e0,-,-⟩:=DataW.trod_string Tryz.underlying9 d0;obtain⟨s1,e1,-,-⟩:=DataW.trod_string Tryz.underlying9 d1;obtain rfl:=List.head_eq_of_cons_eq e0;obtain rfl:=List.head_eq_of_cons_eq e1;refine⟨(s0,s1),trivial,?_⟩;have hl:cs.length=2:=h.1;refine List.ext_getElem? (fun j=>?_)
 match j with
 | 0=>exact c0.symm
 | 1=>exact c1.symm
 | j+2=>rw[List.getElem?_eq_none (by simp[FP]),List.getElem?_eq_none (by omega)]
def Ko:List TypeId:=[31,9,9,32,33,34,3]
theorem Il (fuel:Nat)(cs:List Value)(x:DataW H×List MemPlace)(h:DataW.trod enc Tryz.prog W 0 (fun _=>true) true fuel 36 cs=some x):Leaves enc Tryz.prog W Ko cs:=
 mP (by kernel_rfl) Tryz.underlying36 (by kernel_rfl) (by kernel_rfl) h
def opE (v:OV):List Value:=[.int .i64 v.k,.string v.name,.string v.to,.slice v.ao v.an v.ac,.slice v.bo v.bn v.bc,.slice v.co v.cn v.cc,.int .i64 v.n]
theorem PG {ts:List TypeId}{cs:List Value}(o:Nat)(h:Leaves enc Tryz.prog W ts cs)(ht:∀j:Nat,ts[o+j]?=Ko[j]?):∃(v:OV) (c:OC),OpRd W v c/\∀(j:Nat) (u:Value),(opE v)[j]?=some u->cs[o+j]?=some u:=by
 obtain⟨v0,n0,y0,c0,d0⟩:=h.2 (o+0) 31 (ht 0);obtain⟨v1,n1,y1,c1,d1⟩:=h.2 (o+1) 9 (ht 1);obtain⟨v2,n2,y2,c2,d2⟩:=h.2 (o+2) 9 (ht 2);obtain⟨v3,n3,y3,c3,d3⟩:=h.2 (o+3) 32 (ht 3);obtain⟨v4,n4,y4,c4,d4⟩:=h.2 (o+4) 33 (ht 4);obtain⟨v5,n5,y5,c5,d5⟩:=h.2 (o+5) 34 (ht 5);obtain⟨v6,n6,y6,c6,d6⟩:=h.2 (o+6) 3 (ht 6);obtain⟨z0,e0,-,-⟩:=DataW.trod_int (k:=.i64) Tryz.underlying31 d0;obtain⟨s1,e1,-,-⟩:=DataW.trod_string Tryz.underlying9 d1;obtain⟨s2,e2,-,-⟩:=DataW.trod_string Tryz.underlying9 d2;obtain⟨z6,e6,-,-⟩:=DataW.trod_int (k:=.i64) Tryz.underlying3 d6;obtain rfl:=List.head_eq_of_cons_eq e0;obtain rfl:=List.head_eq_of_cons_eq e1;obtain rfl:=List.head_eq_of_cons_eq e2;obtain rfl:=List.head_eq_of_cons_eq e6;obtain⟨ao,an,ac,la,rfl,hal,-,ha⟩:=oO FP (fun _=>True) 2 (fun _=>rfl) (by decide) (ts:=[9,9]) Tryz.underlying32 (by kernel_rfl) vJ BL d3;obtain⟨bo,bc,lb,rfl,hb,-⟩:=Oq (e:=9) Tryz.underlying33 Tryz.underlying9 (by kernel_rfl) d4;obtain⟨co,cn,cc,zs,rfl,hc,hz⟩:=yg (e:=5) (k:=.u8) Tryz.underlying34 Tryz.underlying5 (by kernel_rfl) d5;obtain⟨b,hbb⟩:=wE zs (fun z h=>wf_u8 (hz z h));rw[hbb] at hc;refine⟨⟨z0,s1,s2,ao,an,ac,bo,lb.length,bc,co,cn,cc,z6⟩,⟨la,lb,b⟩,⟨ha,hb,hc⟩,fun j u hu=>?_⟩
 match j,hu with
 | 0,hu=>cases Option.some.inj hu;exact c0
 | 1,hu=>cases Option.some.inj hu;exact c1
 | 2,hu=>cases Option.some.inj hu;exact c2
 | 3,hu=>cases Option.some.inj hu;exact c3
 | 4,hu=>cases Option.some.inj hu;exact c4
 | 5,hu=>cases Option.some.inj hu;exact c5
 | 6,hu=>cases Option.some.inj hu;exact c6
 | j+7,hu=>simp[opE] at hu
end
end Go.Proofs.YtfmmandlmbcncaaGreatDoor.Msg
