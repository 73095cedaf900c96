/-A part of the proof.-/
import Derived.Deep.Slices
import Derived.Deep.Fields
import Derived.Deep.Strs
import Derived.ChangeSame
import Derived.ChangeArms
import Derived.Test.YtfmmandlmbcncaaGreatDoorKfat
set_option maxHeartbeats 40000000
set_option maxRecDepth 100000
set_option linter.all false
namespace Go.Proofs.YtfmmandlmbcncaaGreatDoor
namespace Msg
open Go.RowKit Go.Lib Mem Tlv
variable{cs:List Value}{e t:TypeId}{fuel:Nat}{v:Value}{z:Int}
open Go.ChangeShapes Go.WideShapes Go.Deep
abbrev RP:=RV×OC
structure FitP (p:RP):Prop where
 c0:0<=p.1.cl
 c1:p.1.cl<18446744073709551616
 n0:0<=p.1.nu
 n1:p.1.nu<18446744073709551616
structure OpRd (W:World)(v:OV)(c:OC):Prop where
 a:Rd W 2 v.ao v.an v.ac (atV c.attrs)
 b:Rd W 1 v.bo v.bn v.bc (txV c.parts)
 c:Rd W 1 v.co v.cn v.cc (byV c.cursor)
theorem OpRd.later{W W':World}{v:OV}{c:OC}(h:OpRd W v c)(hb:Below W.heap.size W W'):OpRd W' v c:=⟨h.a.later hb,h.b.later hb,h.c.later hb⟩
section
variable {H:Type} {enc:TypeId×Value->H} {P:Program} {W:World}
theorem Au{k:IntKind}{x:DataW H×List MemPlace}(ht:P.underlying t=some (.slice e))(he:P.underlying e=some (.int k))(hc:P.cellsOf e=1)
  (h:DataW.trod enc P W 0 (fun _=>true) true fuel t [v]=some x):∃ao n cap,∃zs:List Int,v=.slice ao n cap/\Rd W 1 ao n cap (zs.map (Value.int k))/\∀z∈zs,(Lit.int k z).wf=true:=by
 have hsl:∃ao n cap,v=.slice ao n cap:=by
  rcases ChangeShapes.open_ints ht he hc h with ⟨hcs,_⟩ | ⟨a,l,c,zs,hcs,_⟩
  ·exact⟨_,_,_,yaI hcs⟩
  exact⟨_,_,_,yaI hcs⟩
 obtain⟨ao,n,cap,rfl⟩:=hsl;obtain⟨zs,h1,h2⟩:=Ql (d:=x.1) (ps:=x.2) ht he hc ⟨fuel,h⟩;exact⟨ao,n,cap,zs,rfl,h1,h2⟩
theorem PV{x:DataW H×List MemPlace}(ht:P.underlying t=some (.slice e))(he:P.underlying e=some .string)(hc:P.cellsOf e=1)
  (h:DataW.trod enc P W 0 (fun _=>true) true fuel t [v]=some x):∃ao cap l,v=.slice ao l.length cap/\Rd W 1 ao l.length cap (txV l)/\∀s∈l,s.size<=maxLen:=by
 rcases Deep.open_strs ht he hc h with ⟨hcs,_⟩ | ⟨a,len,cap,m,S,hcs,_,hl,hm,hmm,_,hx⟩
 ·obtain rfl:=yaI hcs;exact⟨none,0,[],rfl,Rd.nil _ _,fun _ h=>by cases h⟩
 obtain rfl:=yaI hcs;simp only[if_true] at hmm;refine⟨some a,cap,(List.range len).map S,by simp,?_,?_⟩
 ·simp only[ybl,List.length_range];refine⟨by simp[txV],hl,hm,(fun h=>by cases h),fun h0 a' ha=>?_⟩;cases ha;have hc0:=(hx 0 (by omega)).1;have hs:a.spot=none:=by simpa [Addr.add] using World.cell?_spot hc0
  obtain⟨b,off,sp⟩:=a;dsimp only at hs;subst hs;refine⟨rfl,yaO W _ hc0,fun j u hu=>?_⟩;have hj:j<len:=by
   rcases Nat.lt_or_ge j len with h | h
   ·exact h
   rw[ybm (by simp[txV];omega)] at hu;cases hu
  have:=(hx j (by omega)).1;rw[ycI] at this;rw[this];simpa [txV,ybh,yci hj] using hu
 intro s hs;obtain⟨i,hi,rfl⟩:=ybM.1 hs;exact (hx i (by have:=List.mem_range.1 hi;omega)).2
def Leaves (enc:TypeId×Value->H)(P:Program)(W:World)(ts:List TypeId)(cs:List Value):Prop:=
 cs.length=ts.length/\∀(j:Nat) (τ:TypeId),ts[j]?=some τ->∃(v:Value) (n:Nat) (y:DataW H×List MemPlace),cs[j]?=some v/\DataW.trod enc P W 0 (fun _=>true) true n τ [v]=some y
theorem Dl{o:Nat}(h:o<cs.length):(cs.drop o).take 1=[cs[o]'h]:=by
 rw[ycc h];rfl
theorem oO{fs:Array Field}{ts:List TypeId}(hts:(fs.map (·.type)).toList=ts){x:DataW H×List MemPlace}(ht:P.underlying t=some (.struct fs))(hone:oneCellFields P fs=true)(hC:P.cellsOf t=fs.size)(h:DataW.trod enc P W 0 (fun _=>true) true fuel t cs=some x) :
  Leaves enc P W ts cs:=by
 subst hts;obtain⟨ys,n',hn',hy,hlen,hyl,hf⟩:=DataW.trod_struct ht h;refine⟨by rw[hlen,hC];simp,fun j τ hτ=>?_⟩;have hj:j<fs.size:=by have:=(yao.1 hτ).1;simpa using this
 have hfj:fs[j]?=some fs[j]:=ybt hj;obtain⟨ho,hk⟩:=hone_of hone j _ hfj;have h1:=hf j _ hfj;rw[ho,hk,Dl (by rw[hlen,hC];exact hj)] at h1;have ht':fs[j].type=τ:=by
  rw[Array.getElem?_toList,Array.getElem?_map,hfj] at hτ;exact yaf hτ
 rw[ht'] at h1;have hys:ys[j]?=some (ys[j]'(by omega)):=yac (by omega);exact⟨_,n',_,yac (by rw[hlen,hC];exact hj),h1.trans hys⟩
theorem xZ{α:Type}(en:α->List Value)(K:Nat)(hK:∀y,(en y).length=K)(l:List α):(l.flatMap en).length=l.length*K:=by
 induction l with
 | nil=>simp
 | cons a l ih=>simp[yaH,hK,ih,Nat.add_mul,Nat.add_comm]
theorem FW{α:Type}(en:α->List Value)(K:Nat)(hK:∀y,(en y).length=K)(l:List α)(k:Nat)(y:α)(h:l[k]?=some y)(j:Nat)(hj:j<K):(l.flatMap en)[k*K+j]?=(en y)[j]?:=by
 induction l generalizing k with
 | nil=>simp at h
 | cons z xs ih=>
  cases k with
  | zero=>
   rw[ybx,ybN] at h;subst h;rw[yaH,Nat.zero_mul,ybL,ybe (by rw[hK];exact hj)]
  | succ k=>
   rw[ybd] at h;rw[yaH,ybB (by rw[hK,Nat.add_mul];omega),hK,<-ih k h]
   congr 1
   rw[Nat.add_mul];omega
theorem qI{α:Type}(en:α->List Value)(good:α->Prop)(K:Nat)(hK:∀y,(en y).length=K)(h0K:0<K){ts:List TypeId}(ht:P.underlying t=some (.slice e))(hC:P.cellsOf e=K)
  (hL:∀(fuel:Nat) (cs:List Value) (x:DataW H×List MemPlace),DataW.trod enc P W 0 (fun _=>true) true fuel e cs=some x->Leaves enc P W ts cs)
  (hd:∀cs,Leaves enc P W ts cs->∃y,good y/\en y=cs)
    {x:DataW H×List MemPlace} (h:DataW.trod enc P W 0 (fun _=>true) true fuel t [v]=some x):∃(ao:Option Addr) (n cap:Nat) (ys:List α),v=.slice ao n cap/\ys.length=n/\(∀y∈ys,good y)/\Rd W K ao n cap (ys.flatMap en):=by
 rcases open_slice ht h with h0 | ⟨a,len,cap,m,n,D,Pl,hcs,hb,hl,hm,hmm,hx,hi⟩
 ·obtain rfl:=yaI h0.1;exact⟨none,0,0,[],rfl,rfl,(fun _ h=>by cases h),Rd.nil _ _⟩
 obtain rfl:=yaI hcs;simp only[if_true] at hmm;subst hmm;have row:∀i,i<m->∃y,good y/\∀j u,(en y)[j]?=some u->W.cell? (a.add (i*K+j))=some u:=by
  intro i him;obtain⟨cs',hc,ht'⟩:=hi i him;rw[hC] at hc;obtain⟨y,hy,rfl⟩:=hd cs' (hL _ _ _ ht');obtain⟨_,hcl,hat⟩:=World.cells?_some hc;refine⟨y,hy,fun j u hu=>?_⟩;have hj:j<K:=by have:=(yao.1 hu).1;rw[hK] at this;exact this
  rw[<-Go.Deep.add_add,hat j hj,hu]
 have each:∀k,k<=m->∃ys:List α,ys.length=k/\(∀y∈ys,good y)/\∀i j u y,ys[i]?=some y->(en y)[j]?=some u->W.cell? (a.add (i*K+j))=some u:=by
  intro k;induction k with
  | zero=>exact fun _=>⟨[],rfl,(fun _ h=>by cases h),fun i j u y h=>by simp at h⟩
  | succ k ih=>
   intro hk;obtain⟨ys,h1,h2,h3⟩:=ih (by omega);obtain⟨y,hy,hc⟩:=row k (by omega);refine⟨ys++[y],by simp[h1],?_,?_⟩
   ·intro q hq;rcases yaQ.1 hq with hq | hq
    ·exact h2 q hq
    rw[yah] at hq;subst hq;exact hy
   intro i j u q hq hu;by_cases him:i<k
   ·rw[ybe (by omega)] at hq;exact h3 i j u q hq hu
   have him2:i<k+1:=by have:=(yao.1 hq).1;simpa [h1] using this
   obtain rfl:i=k:=by omega
   rw[ybB (by omega),h1,Nat.sub_self,ybx,ybN] at hq;subst hq;exact hc j u hu
 obtain⟨ys,h1,h2,h3⟩:=each len (by omega);refine⟨some a,len,m,ys,rfl,h1,h2,⟨by rw[xZ en K hK,h1],by omega,hm,(fun h=>by cases h),fun h0 a' ha=>?_⟩⟩;cases ha;obtain⟨y0,_,hc0⟩:=row 0 h0;have hu0:(en y0)[0]?=some ((en y0)[0]'(by rw[hK];exact h0K)):=yac (by rw[hK];exact h0K);have hcc:=hc0 0 _ hu0;have hs:a.spot=none:=by simpa [Addr.add] using World.cell?_spot hcc
 obtain⟨b,off,sp⟩:=a;dsimp only at hs;subst hs;rw[ycI] at hcc;refine⟨rfl,(show b<W.heap.size from yaO W ⟨b,off+(0*K+0),none⟩ hcc),fun q u hu=>?_⟩;have hq:q<ys.length*K:=by have:=(yao.1 hu).1;rwa [xZ en K hK] at this
 have hdiv:q / K<ys.length:=(Nat.div_lt_iff_lt_mul h0K).2 hq;have hp:ys[q / K]?=some ys[q / K]:=yac hdiv;have hj:q % K<K:=Nat.mod_lt _ h0K;have hqq:q / K*K+q % K=q:=by rw[Nat.mul_comm];exact Nat.div_add_mod q K
 have h4:=FW en K hK ys (q / K) _ hp (q % K) hj;rw[hqq,hu] at h4;have h5:=h3 (q / K) (q % K) u _ hp h4.symm;rw[hqq,ycI] at h5;exact h5
end
section
variable {H:Type} {enc:TypeId×Value->H} {W:World}
theorem wf_u8(h:(Lit.int .u8 z).wf=true):0<=z/\z<256:=by
 simp only[Lit.wf,yaq,yaG] at h;exact⟨h.1,Int.lt_of_le_sub_one h.2⟩
theorem wf_u64(h:(Lit.int .u64 z).wf=true):0<=z/\z<18446744073709551616:=by
 simp only[Lit.wf,yaq,yaG] at h;exact⟨h.1,Int.lt_of_le_sub_one h.2⟩
theorem yA(zs:List Int)(h:∀z∈zs,0<=z/\z<256):∃b:List UInt8,zs.map (Value.int .u8)=byV b:=by
 induction zs with
 | nil=>exact⟨[],rfl⟩
 | cons z zs ih=>
  obtain⟨b,hb⟩:=ih (fun y hy=>h y (List.mem_cons_of_mem _ hy));obtain⟨h1,h2⟩:=h z List.mem_cons_self;refine⟨UInt8.ofNat z.toNat::b,?_⟩;show Value.int .u8 z::zs.map (Value.int .u8)=.int .u8 ((UInt8.ofNat z.toNat).toNat:Int)::byV b;rw[hb,yaT,Nat.mod_eq_of_lt (by omega),ybr h1]
theorem xK(fuel:Nat)(cs:List Value)(x:DataW H×List MemPlace)(h:DataW.trod enc Tryz.prog W 0 (fun _=>true) true fuel 106 cs=some x):Leaves enc Tryz.prog W [9,9] cs:=
 oO (by kernel_rfl) Tryz.underlying106 (by kernel_rfl) (by kernel_rfl) h
def IK (u:ByteArray×ByteArray):List Value:=[.string u.1,.string u.2]
theorem Cf(cs:List Value)(h:Leaves enc Tryz.prog W [9,9] cs):∃u:ByteArray×ByteArray,True/\IK u=cs:=by
 obtain⟨v0,n0,y0,c0,d0⟩:=h.2 0 _ rfl;obtain⟨v1,n1,y1,c1,d1⟩:=h.2 1 _ rfl;obtain⟨s0,e0,-,-⟩:=ycx Tryz.underlying9 d0;obtain⟨s1,e1,-,-⟩:=ycx Tryz.underlying9 d1;obtain rfl:=yaI e0;obtain rfl:=yaI e1;refine⟨(s0,s1),trivial,?_⟩;have hl:cs.length=2:=h.1;refine List.ext_getElem? (fun j=>?_)
 match j with
 | 0=>exact c0.symm
 | 1=>exact c1.symm
 | j+2=>rw[ybm (by simp[IK]),ybm (by omega)]
def Nv:List TypeId:=[31,9,9,32,33,34,3]
theorem L9(fuel:Nat)(cs:List Value)(x:DataW H×List MemPlace)(h:DataW.trod enc Tryz.prog W 0 (fun _=>true) true fuel 36 cs=some x):Leaves enc Tryz.prog W Nv cs:=
 oO (by kernel_rfl) Tryz.underlying36 (by kernel_rfl) (by kernel_rfl) h
def opE (v:OV):List Value:=[.int .i64 v.k,.string v.name,.string v.to,.slice v.ao v.an v.ac,.slice v.bo v.bn v.bc,.slice v.co v.cn v.cc,.int .i64 v.n]
theorem Rz{ts:List TypeId}(o:Nat)(h:Leaves enc Tryz.prog W ts cs)(ht:∀j:Nat,ts[o+j]?=Nv[j]?):∃(v:OV) (c:OC),OpRd W v c/\∀(j:Nat) (u:Value),(opE v)[j]?=some u->cs[o+j]?=some u:=by
 obtain⟨v0,n0,y0,c0,d0⟩:=h.2 (o+0) 31 (ht 0);obtain⟨v1,n1,y1,c1,d1⟩:=h.2 (o+1) 9 (ht 1);obtain⟨v2,n2,y2,c2,d2⟩:=h.2 (o+2) 9 (ht 2);obtain⟨v3,n3,y3,c3,d3⟩:=h.2 (o+3) 32 (ht 3);obtain⟨v4,n4,y4,c4,d4⟩:=h.2 (o+4) 33 (ht 4);obtain⟨v5,n5,y5,c5,d5⟩:=h.2 (o+5) 34 (ht 5);obtain⟨v6,n6,y6,c6,d6⟩:=h.2 (o+6) 3 (ht 6);obtain⟨z0,e0,-,-⟩:=ycn (k:=.i64) Tryz.underlying31 d0;obtain⟨s1,e1,-,-⟩:=ycx Tryz.underlying9 d1;obtain⟨s2,e2,-,-⟩:=ycx Tryz.underlying9 d2;obtain⟨z6,e6,-,-⟩:=ycn (k:=.i64) Tryz.underlying3 d6;obtain rfl:=yaI e0;obtain rfl:=yaI e1;obtain rfl:=yaI e2;obtain rfl:=yaI e6;obtain⟨ao,an,ac,la,rfl,hal,-,ha⟩:=qI IK (fun _=>True) 2 (fun _=>rfl) (by decide) (ts:=[9,9]) Tryz.underlying32 (by kernel_rfl) xK Cf d3;obtain⟨bo,bc,lb,rfl,hb,-⟩:=PV (e:=9) Tryz.underlying33 Tryz.underlying9 (by kernel_rfl) d4;obtain⟨co,cn,cc,zs,rfl,hc,hz⟩:=Au (e:=5) (k:=.u8) Tryz.underlying34 Tryz.underlying5 (by kernel_rfl) d5;obtain⟨b,hbb⟩:=yA zs (fun z h=>wf_u8 (hz z h));rw[hbb] at hc;refine⟨⟨z0,s1,s2,ao,an,ac,bo,lb.length,bc,co,cn,cc,z6⟩,⟨la,lb,b⟩,⟨ha,hb,hc⟩,fun j u hu=>?_⟩
 match j,hu with
 | 0,hu=>cases yaf hu;exact c0
 | 1,hu=>cases yaf hu;exact c1
 | 2,hu=>cases yaf hu;exact c2
 | 3,hu=>cases yaf hu;exact c3
 | 4,hu=>cases yaf hu;exact c4
 | 5,hu=>cases yaf hu;exact c5
 | 6,hu=>cases yaf hu;exact c6
 | j+7,hu=>simp[opE] at hu
end
end Msg
namespace Msg
open Go.RowKit Go.Lib Mem Tlv
variable{c:QC}
open Go.ChangeShapes Go.WideShapes Go.Deep
structure QRd (W:World)(v:QV)(c:QC):Prop where
 e:Rd W 2 v.eo v.en v.ec (enV c.ents)
 a:∀p∈c.ents,Rd W 2 p.1.ao p.1.an p.1.ac (atV p.2)
 c:Rd W 1 v.co v.cn v.cc (byV c.cursor)
theorem QRd.later{W W':World}{v:QV}(h:QRd W v c)(hb:Below W.heap.size W W'):QRd W' v c:=⟨h.e.later hb,fun p hp=>(h.a p hp).later hb,h.c.later hb⟩
theorem yD:∀(l:List EP),(∀p∈l,aB p.1 p.2=true)->(dH l).length<=l.length*101765
 | [],_=>yam _
 | p::l,h=>by
  have h1:=jD (h p (by simp));have h2:=yD l (fun q hq=>h q (by simp[hq]));rw[iU,yab,ae,yaF];omega
theorem Md(h:c.ents.length<=40):mQ c:=fun hall=>by have:=yD c.ents hall;omega
section
variable {H:Type} {enc:TypeId×Value->H} {W:World}
theorem Iq(fuel:Nat)(cs:List Value)(x:DataW H×List MemPlace)(h:DataW.trod enc Tryz.prog W 0 (fun _=>true) true fuel 124 cs=some x):Leaves enc Tryz.prog W [9,32] cs:=
 oO (by kernel_rfl) Tryz.underlying124 (by kernel_rfl) (by kernel_rfl) h
theorem Qd(cs:List Value)(h:Leaves enc Tryz.prog W [9,32] cs):∃p:EP,Rd W 2 p.1.ao p.1.an p.1.ac (atV p.2)/\p.1.cells.toList=cs:=by
 obtain⟨v0,n0,y0,c0,d0⟩:=h.2 0 9 rfl;obtain⟨v1,n1,y1,c1,d1⟩:=h.2 1 32 rfl;obtain⟨s0,e0,-,-⟩:=ycx Tryz.underlying9 d0;obtain rfl:=yaI e0;obtain⟨ao,an,ac,la,rfl,hal,-,ha⟩:=qI IK (fun _=>True) 2 (fun _=>rfl) (by decide) (ts:=[9,9]) Tryz.underlying32 (by kernel_rfl) xK Cf d1;refine⟨(⟨s0,ao,an,ac⟩,la),ha,?_⟩;have hl:cs.length=2:=h.1;refine List.ext_getElem? (fun j=>?_)
 match j with
 | 0=>exact c0.symm
 | 1=>exact c1.symm
 | j+2=>rw[ybm (by simp[EV.cells]),ybm (by omega)]
theorem Iy(fuel:Nat)(cs:List Value)(x:DataW H×List MemPlace)(h:DataW.trod enc Tryz.prog W 0 (fun _=>true) true fuel 39 cs=some x):Leaves enc Tryz.prog W [27,4,37,34] cs:=
 oO (by kernel_rfl) Tryz.underlying39 (by kernel_rfl) (by kernel_rfl) h
theorem Qz{ts:List TypeId}{cs:List Value}(o:Nat)(h:Leaves enc Tryz.prog W ts cs)(ht:∀j:Nat,ts[o+j]?=[27,4,37,34][j]?):∃(v:QV) (c:QC),QRd W v c/\∀(j:Nat) (u:Value),v.cells.toList[j]?=some u->cs[o+j]?=some u:=by
 obtain⟨v0,n0,y0,c0,d0⟩:=h.2 (o+0) 27 (ht 0);obtain⟨v1,n1,y1,c1,d1⟩:=h.2 (o+1) 4 (ht 1);obtain⟨v2,n2,y2,c2,d2⟩:=h.2 (o+2) 37 (ht 2);obtain⟨v3,n3,y3,c3,d3⟩:=h.2 (o+3) 34 (ht 3);obtain⟨z0,e0,-,-⟩:=ycn (k:=.i64) Tryz.underlying27 d0;obtain⟨b1,e1,-⟩:=DataW.trod_bool Tryz.underlying4 d1;obtain rfl:=yaI e0;obtain rfl:=yaI e1;obtain⟨eo,en,ec,le,rfl,hel,hea,he⟩:=qI (fun p:EP=>p.1.cells.toList) (fun p:EP=>Rd W 2 p.1.ao p.1.an p.1.ac (atV p.2)) 2 (fun _=>rfl) (by decide) (ts:=[9,32]) Tryz.underlying37 (by kernel_rfl) Iq Qd d2;obtain⟨co,cn,cc,zs,rfl,hc,hz⟩:=Au (e:=5) (k:=.u8) Tryz.underlying34 Tryz.underlying5 (by kernel_rfl) d3;obtain⟨b,hbb⟩:=yA zs (fun z h=>wf_u8 (hz z h));rw[hbb] at hc;refine⟨⟨z0,b1,eo,en,ec,co,cn,cc⟩,⟨le,b⟩,⟨he,hea,hc⟩,fun j u hu=>?_⟩
 match j,hu with
 | 0,hu=>cases yaf hu;exact c0
 | 1,hu=>cases yaf hu;exact c1
 | 2,hu=>cases yaf hu;exact c2
 | 3,hu=>cases yaf hu;exact c3
 | j+4,hu=>simp[QV.cells] at hu
end
end Msg
namespace Msg
open Go.RowKit Go.Lib Mem Utf Tlv
variable{B:Nat}{W W' w:World}{r:RV}{v:OV}
theorem zM{row:Option Nat}{size:Nat}{ao:Option Addr}{n cap:Nat}{xs:List Value}(h:Rd W size ao n cap xs)(hg:W.grownBy W' row)(hd:∀a,ao=some a->some a.block≠row):Rd W' size ao n cap xs:=by
 obtain⟨h1,h2,h3,h4,h5⟩:=h;refine⟨h1,h2,h3,h4,fun h0 a ha=>?_⟩;obtain⟨s,l,c⟩:=h5 h0 a ha;exact⟨s,yaz l hg.size,fun j u hu=>(yaK (a:=⟨a.block,a.off+j,none⟩) (hg.block _ l (hd a ha))).trans (c j u hu)⟩
theorem yt{k:Nat}{v:Value}(h:∀k',v.ownBlock=some k'->k'<k):∀a,some (⟨k,0,none⟩:Addr)=some a->some a.block≠v.ownBlock:=by
 intro a ha he;cases ha;have:=h k he.symm;omega
structure ByAt (w:World)(v:OV)(W:World):Prop where
 o:W.heap[w.heap.size]?=some v.box
 bel:Below w.heap.size w W
theorem ByAt.step(h:ByAt w v W)(hb:Below W.heap.size W W'):ByAt w v W':=⟨(hb.q h.o),h.bel.trans (hb.mono h.bel.size)⟩
theorem ByAt.turn(h:ByAt w v W)(hb:Below B W W')(hB:w.heap.size<B):ByAt w v W':=⟨(hb.block _ hB).trans h.o,h.bel.trans (hb.mono (yaZ hB))⟩
theorem CS(v:OV)(c:OC)(w:World)(ho:OpAt w v c)(hm:aA v c=true):Calls Tryz.prog 128 #[v.val] w (jw w (opL v c)):=by
 have hmo:=hmO
 obtain⟨hf,hg,hlet⟩:=mM w ho hm;have lc:c.cursor.length=v.cn:=by have:=ho.c.1;rw[aV] at this;omega
 have la:c.attrs.length=v.an:=by have:=ho.a.1;rw[fG] at this;omega
 have lb:c.parts.length=v.bn:=by have:=ho.b.1;rw[ig] at this;omega
 obtain⟨kn,hkn⟩:∃n:Nat,v.k=(n:Int):=⟨v.k.toNat,by have:=hf.k0;omega⟩
 obtain⟨nn,hnn⟩:∃n:Nat,v.n=(n:Int):=⟨v.n.toNat,by have:=hf.n0;omega⟩
 have hkw:IntKind.wrap .u64 v.k=(kn:Int):=by rw[hkn,ybi];have:=hf.k8;omega
 have hnw:IntKind.wrap .u64 v.n=(nn:Int):=by rw[hnn,ybi];have:=hf.n1;omega
 have hk64:kn<18446744073709551616:=by have:=hf.k8;omega
 have hn64:nn<18446744073709551616:=by have:=hf.n1;omega
 have hmn:v.name.size<=maxLen:=by have:=hf.name;unfold maxLen;omega
 have hmt:v.to.size<=maxLen:=by have:=hf.to_;unfold maxLen;omega
 have hnN:v.name.size<=4194304:=by have:=hf.name;omega
 have hnT:v.to.size<=4194304:=by have:=hf.to_;omega
 have hnC:v.cn<=4194304:=by have:=hf.cur;omega
 have hA1:(aI c.attrs).length<=200000:=by have:=hlet 97;simp only[dV] at this;simp[ae] at this;omega
 have hP1:(bT c.parts).length<=200000:=by have:=hlet 112;simp only[dV] at this;simp[ae] at this;omega
 obtain⟨V1,hV1⟩:∃V1,val 1 (au kn)=V1:=⟨_,rfl⟩
 obtain⟨Vn,hVn⟩:∃V,val 2 v.name.data.toList=V:=⟨_,rfl⟩
 obtain⟨Vt,hVt⟩:∃V,val 3 v.to.data.toList=V:=⟨_,rfl⟩
 obtain⟨Va,hVa⟩:∃V,val 4 (aI c.attrs)=V:=⟨_,rfl⟩
 obtain⟨Vp,hVp⟩:∃V,val 5 (bT c.parts)=V:=⟨_,rfl⟩
 obtain⟨Vc,hVc⟩:∃V,val 6 c.cursor=V:=⟨_,rfl⟩
 obtain⟨Vk,hVk⟩:∃V,val 7 (au nn)=V:=⟨_,rfl⟩
 have l1:V1.length<=300000:=by rw[<-hV1,ae,ai];decide
 have ln:Vn.length<=300000:=by rw[<-hVn,ae,dI];have:=hf.name;omega
 have lt:Vt.length<=300000:=by rw[<-hVt,ae,dI];have:=hf.to_;omega
 have lA:Va.length<=300000:=by rw[<-hVa,ae];omega
 have lP:Vp.length<=300000:=by rw[<-hVp,ae];omega
 have lC:Vc.length<=300000:=by rw[<-hVc,ae];have:=hf.cur;omega
 have lK:Vk.length<=300000:=by rw[<-hVk,ae,ai];decide
 have hopl:opL v c=V1++(fieldsOf v.k).flatMap (dV v c):=by unfold opL iK;rw[<-hV1,show v.k.toNat=kn by omega]
 have e110:dV v c 110=Vn:=by rw[<-hVn];rfl
 have e116:dV v c 116=Vt:=by rw[<-hVt];rfl
 have e97:dV v c 97=Va:=by rw[<-hVa];rfl
 have e112:dV v c 112=Vp:=by rw[<-hVp];rfl
 have e99:dV v c 99=Vc:=by rw[<-hVc];rfl
 have e107:dV v c 107=Vk:=by rw[<-hVk,show nn=v.n.toNat by omega];rfl
 have HOP:=hid hopl;have E110:=hid e110;have E116:=hid e116;have E97:=hid e97;have E112:=hid e112;have E99:=hid e99;have E107:=hid e107;have HV1:=hid hV1;have HVn:=hid hVn;have HVt:=hid hVt;have HVa:=hid hVa;have HVp:=hid hVp;have HVc:=hid hVc;have HVk:=hid hVk;have hattr:=hg.attrs;have hpart:=hg.parts;have hanN:v.an<=1000:=by have:=hg.an;omega
 have hbnN:v.bn<=1000:=by have:=hg.bn;omega
 have hkinds:=hid (nN v.k);have hne:fieldsOf v.k≠[]:=by
  intro h0;unfold aA dX at hm;rw[h0] at hm;simp at hm
 have hk8:=hf.k8;have hk0:=hf.k0;clear hV1 hVn hVt hVa hVp hVc hVk hopl e110 e116 e97 e112 e99 e107 hkn hnn lc la lb hlet hf hg;have hb0:=bN w v.box;have k0:=aN w v.box
 unfold OV.box at hb0 k0;unfold OV.val;go_in;go_upto_region 1 with fail;generalize hg:w.alloc _=W0 at *;have k0f:W0.heap[w.heap.size]?=some v.box:=k0;have sa:ByAt w v W0:=⟨k0f,hb0⟩
 clear hg k0 k0f hb0;obtain⟨c0,-⟩:=aC sa.o;go_wp2_with fail;refine (iY 1 kn W0 hk64).mono ?_;rintro e W1 ⟨v3,rfl,x0,hb1⟩;rw[HV1.out] at x0;have s1:=sa.step hb1;have hB3:w.heap.size<W0.heap.size:=(ybA.1 sa.o).1;have z1:=hb1.size;generalize W0.heap.size=B3 at *;clear sa c0 hb1;obtain⟨c0,-⟩:=aC s1.o;have hk2:fieldsOf v.k=[110,97]/\(v.k=1\/v.k=3\/v.k=5)\/fieldsOf v.k=[110]/\(v.k=2\/v.k=6)\/fieldsOf v.k=[110,116]/\v.k=4\/fieldsOf v.k=[112,99,107]/\v.k=7\/fieldsOf v.k=[99,107]/\v.k=8:=by
  rcases hkinds.out with hf | ⟨hk,hf⟩ | ⟨hk,hf⟩ | ⟨hk,hf⟩ | ⟨hk,hf⟩ | ⟨hk,hf⟩ | ⟨hk,hf⟩ | ⟨hk,hf⟩ | ⟨hk,hf⟩
  ·exact absurd hf hne
  all_goals
   rw[hf];simp[hk]
 rcases hk2 with ⟨hf,hk | hk | hk⟩ | ⟨hf,hk | hk⟩ | ⟨hf,hk⟩ | ⟨hf,hk⟩ | ⟨hf,hk⟩
 all_goals
  have HF:=hid hf
  first | have g1:(v.k==1)=true:=by rw[hk];rfl | have g1:(v.k==1)=false:=by rw[hk];rfl
  first | have g3:(v.k==3)=true:=by rw[hk];rfl | have g3:(v.k==3)=false:=by rw[hk];rfl
  first | have g5:(v.k==5)=true:=by rw[hk];rfl | have g5:(v.k==5)=false:=by rw[hk];rfl
  first | have g2:(v.k==2)=true:=by rw[hk];rfl | have g2:(v.k==2)=false:=by rw[hk];rfl
  first | have g6:(v.k==6)=true:=by rw[hk];rfl | have g6:(v.k==6)=false:=by rw[hk];rfl
  first | have g4:(v.k==4)=true:=by rw[hk];rfl | have g4:(v.k==4)=false:=by rw[hk];rfl
  first | have g7:(v.k==7)=true:=by rw[hk];rfl | have g7:(v.k==7)=false:=by rw[hk];rfl
  first | have g8:(v.k==8)=true:=by rw[hk];rfl | have g8:(v.k==8)=false:=by rw[hk];rfl
  clear hf hk hne hk8 hk0 hkinds
 iterate 3 focus
  go_upto_region 6 with fail;have hd:Below W1.heap.size W1 W1.drew:=(yaj _ _).drew;have s2:=s1.step hd;have x1:=ag x0 hd;have z2:=yae z1 hd.size;refine yaB (S:=ByAt w v) hmo ?_;change wpAnyH _ _ _ _ _ _ _ _ (World.drew W1);generalize World.drew W1=W2 at *;have zf0:=fun (w0:World) (h:ByAt w v w0)=>aC h.o;refine zp 0 (v3) rfl (zp 1 (pp w.heap.size 1) rfl ?_);go_simp;refine zv 2 (.string v.name) rfl ?_;go_simp;refine zp 6 (pp w.heap.size 3) rfl ?_;go_simp;refine zv 7 (.slice v.ao v.an v.ac) rfl ?_;go_simp;refine zH1 3 rfl (fun K hK=>?_);obtain⟨k3,W3,hrun,r3_3,hb3⟩:=gI v.name hmn W2;go_simp;have lx3:=iP x1;have x2:=ag x1 hb3;have s3:=s2.step hb3;have z3:=yae z2 hb3.size;clear hrun;refine hK _ _ ⟨s3,?_⟩;clear hK K;refine zH1 4 rfl (fun K hK=>?_);go_simp;refine (aW 2 v.name.data.toList _ _ _ W3 hnN r3_3).mono ?_;rintro e W4 ⟨v4,rfl,o4_4,hb4⟩;rw[HVn.out] at o4_4;have x3:=ag x2 hb4;have s4:=s3.step hb4;have z4:=yae z3 hb4.size;go_simp;refine hK _ _ ⟨s4,?_⟩;clear hK K;refine zH1 5 rfl (fun K hK=>?_);obtain⟨ya5,yk5,e5,yr5⟩:=Rd.of_own o4_4;subst e5;refine di rfl (.tmp 14) (.tmp 18) 34 rfl B3 5 (.int .u8 0) 1 1 Tlv.byT v3 _ _ rfl x3 ya5 _ yk5 _ rfl yr5 (bM _) (by unfold maxLen;omega) (by omega) z4 ?_;intro a5 k5 W5 x4 hg5 hb5 _;have s5:=s4.turn hb5 hB3;have z5:=yae z4 hb5.size;clear hg5;refine hK _ _ ⟨s5,?_⟩;clear hK K;refine zH1 8 rfl (fun K hK=>?_);go_simp;refine (yT 4 _ _ _ c.attrs W5 (ho.later s5.bel).a hanN hattr hA1).mono ?_;rintro e W6 ⟨v8,rfl,o8_6,hb6⟩;rw[HVa.out] at o8_6;have x5:=ag x4 hb6;have s6:=s5.step hb6;have z6:=yae z5 hb6.size;go_simp;refine hK _ _ ⟨s6,?_⟩;clear hK K;refine zH1 9 rfl (fun K hK=>?_);obtain⟨ya9,yk9,e9,yr9⟩:=Rd.of_own o8_6;subst e9;refine di rfl (.tmp 19) (.tmp 22) 34 rfl B3 5 (.int .u8 0) 1 1 Tlv.byT (.slice a5 (V1.length+Vn.length) k5) _ _ rfl x5 ya9 _ yk9 _ rfl yr9 (bM _) (by unfold maxLen;omega) (by omega) z6 ?_;intro a9 k9 W7 x6 hg9 hb7 _;have s7:=s6.turn hb7 hB3;have z7:=yae z6 hb7.size;clear hg9;refine hK _ _ ⟨s7,?_⟩;clear hK K;refine zp 10 (.slice a9 (V1.length+Vn.length+Va.length) k9) rfl ?_;go_simp;refine zd ?_;go_wp2_with fail;go_ret;refine⟨_,rfl,own_base ?_ (yaZ hB3),s7.bel⟩;have hz:opL v c=V1++Vn++Va:=by rw[HOP.out,HF.out];simp only[yaH,ybn,yaD,E110.out,E97.out,yav]
  rw[hz];simp only[yab,dS];exact x6
 iterate 2 focus
  obtain⟨c0,c1,c2,c3,c4,c5,c6,-⟩:=aC s1.o;obtain⟨k3,W2,hrun,r3,hb2⟩:=gI v.name hmn W1;have s2:=s1.step hb2;have x1:=ag x0 hb2;have z2:=yae z1 hb2.size;go_wp2_with fail;refine (aW 2 v.name.data.toList _ _ _ W2 hnN r3).mono ?_;rintro e W3 ⟨v4,rfl,o4,hb3⟩;rw[HVn.out] at o4;have s3:=s2.step hb3;have x2:=ag x1 hb3;have z3:=yae z2 hb3.size;obtain⟨ya,yk,e4,yr⟩:=Rd.of_own o4;subst e4;clear hrun c0 c1 c2 c3 c4 c5 c6;go_wp2_with (at_builtin;refine dZ _ rfl (.tmp 27) (.tmp 31) 34 rfl B3 5 (.int .u8 0) 1 1 Tlv.byT v3 _ _ rfl x2 ya _ yk _ rfl yr (bM _) (by unfold maxLen;omega) (by omega) z3 ?_;intro a5 k5 W4 x3 _ hb4 _);have s4:=s3.turn hb4 hB3;go_ret;refine⟨_,rfl,own_base ?_ (yaZ hB3),s4.bel⟩;have hz:opL v c=V1++Vn:=by rw[HOP.out,HF.out];simp only[yaH,ybn,yaD,E110.out]
  rw[hz];simp only[yab,dS];exact x3
 focus
  go_upto_region 11 with fail;have hd:Below W1.heap.size W1 W1.drew:=(yaj _ _).drew;have s2:=s1.step hd;have x1:=ag x0 hd;have z2:=yae z1 hd.size;refine yaB (S:=ByAt w v) hmo ?_;change wpAnyH _ _ _ _ _ _ _ _ (World.drew W1);generalize World.drew W1=W2 at *;have zf0:=fun (w0:World) (h:ByAt w v w0)=>aC h.o;refine zp 0 (v3) rfl (zp 1 (pp w.heap.size 1) rfl ?_);go_simp;refine zv 2 (.string v.name) rfl ?_;go_simp;refine zp 6 (pp w.heap.size 2) rfl ?_;go_simp;refine zv 7 (.string v.to) rfl ?_;go_simp;refine wpAnyH_all (rs:=[3,8]) (by kernel_rfl) (by simp) (fun j hj=>?_);simp only[yas,yal,or_false] at hj;rcases hj with rfl|rfl
  ·refine ybZ rfl (fun K hK=>?_);obtain⟨k3,W3,hrun,r3_3,hb3⟩:=gI v.name hmn W2;go_simp;have lx3:=iP x1;have x2:=ag x1 hb3;have s3:=s2.step hb3;have z3:=yae z2 hb3.size;clear hrun;refine hK _ _ ⟨s3,?_⟩;clear hK K;refine wpAnyH_all (rs:=[4,8]) (by kernel_rfl) (by simp) (fun j hj=>?_);simp only[yas,yal,or_false] at hj;rcases hj with rfl|rfl
   ·refine ybZ rfl (fun K hK=>?_);go_simp;refine (aW 2 v.name.data.toList _ _ _ W3 hnN r3_3).mono ?_;rintro e W4 ⟨v4,rfl,o4_4,hb4⟩;rw[HVn.out] at o4_4;have x3:=ag x2 hb4;have s4:=s3.step hb4;have z4:=yae z3 hb4.size;go_simp;refine hK _ _ ⟨s4,?_⟩;clear hK K;refine wpAnyH_all (rs:=[5,8]) (by kernel_rfl) (by simp) (fun j hj=>?_);simp only[yas,yal,or_false] at hj;rcases hj with rfl|rfl
    ·refine ybZ rfl (fun K hK=>?_);obtain⟨ya5,yk5,e5,yr5⟩:=Rd.of_own o4_4;subst e5;refine di rfl (.tmp 35) (.tmp 39) 34 rfl B3 5 (.int .u8 0) 1 1 Tlv.byT v3 _ _ rfl x3 ya5 _ yk5 _ rfl yr5 (bM _) (by unfold maxLen;omega) (by omega) z4 ?_;intro a5 k5 W5 x4 hg5 hb5 _;have s5:=s4.turn hb5 hB3;have z5:=yae z4 hb5.size;clear hg5;refine hK _ _ ⟨s5,?_⟩;clear hK K;refine zH1 8 rfl (fun K hK=>?_);obtain⟨k8,W6,hrun,r8_6,hb6⟩:=gI v.to hmt W5;go_simp;have lx8:=iP x4;have x5:=ag x4 hb6;have s6:=s5.step hb6;have z6:=yae z5 hb6.size;clear hrun;refine hK _ _ ⟨s6,?_⟩;clear hK K;refine zH1 9 rfl (fun K hK=>?_);go_simp;refine (aW 3 v.to.data.toList _ _ _ W6 hnT r8_6).mono ?_;rintro e W7 ⟨v9,rfl,o9_7,hb7⟩;rw[HVt.out] at o9_7;have x6:=ag x5 hb7;have s7:=s6.step hb7;have z7:=yae z6 hb7.size;go_simp;refine hK _ _ ⟨s7,?_⟩;clear hK K;refine zH1 10 rfl (fun K hK=>?_);obtain⟨ya10,yk10,e10,yr10⟩:=Rd.of_own o9_7;subst e10;refine di rfl (.tmp 40) (.tmp 44) 34 rfl B3 5 (.int .u8 0) 1 1 Tlv.byT (.slice a5 (V1.length+Vn.length) k5) _ _ rfl x6 ya10 _ yk10 _ rfl yr10 (bM _) (by unfold maxLen;omega) (by omega) z7 ?_;intro a10 k10 W8 x7 hg10 hb8 _;have s8:=s7.turn hb8 hB3;have z8:=yae z7 hb8.size;clear hg10;refine hK _ _ ⟨s8,?_⟩;clear hK K;refine zp 11 (.slice a10 (V1.length+Vn.length+Vt.length) k10) rfl ?_;go_simp;refine zd ?_;go_wp2_with fail;go_ret;refine⟨_,rfl,own_base ?_ (yaZ hB3),s8.bel⟩;have hz:opL v c=V1++Vn++Vt:=by rw[HOP.out,HF.out];simp only[yaH,ybn,yaD,E110.out,E116.out,yav]
     rw[hz];simp only[yab,dS];exact x7
    refine ybZ rfl (fun K hK=>?_);obtain⟨k8,W5,hrun,r8_5,hb5⟩:=gI v.to hmt W4;go_simp;have lx8:=iP x3;have o4_5:=ag o4_4 hb5;have x4:=ag x3 hb5;have s5:=s4.step hb5;have z5:=yae z4 hb5.size;clear hrun;refine hK _ _ ⟨s5,?_⟩;clear hK K;refine zH1 5 rfl (fun K hK=>?_);obtain⟨ya5,yk5,e5,yr5⟩:=Rd.of_own o4_5;subst e5;refine di rfl (.tmp 35) (.tmp 39) 34 rfl B3 5 (.int .u8 0) 1 1 Tlv.byT v3 _ _ rfl x4 ya5 _ yk5 _ rfl yr5 (bM _) (by unfold maxLen;omega) (by omega) z5 ?_;intro a5 k5 W6 x5 hg5 hb6 _;have s6:=s5.turn hb6 hB3;have z6:=yae z5 hb6.size;have r8_6:=zM r8_5 hg5 (yt lx8);clear hg5;refine hK _ _ ⟨s6,?_⟩;clear hK K;refine zH1 9 rfl (fun K hK=>?_);go_simp;refine (aW 3 v.to.data.toList _ _ _ W6 hnT r8_6).mono ?_;rintro e W7 ⟨v9,rfl,o9_7,hb7⟩;rw[HVt.out] at o9_7;have x6:=ag x5 hb7;have s7:=s6.step hb7;have z7:=yae z6 hb7.size;go_simp;refine hK _ _ ⟨s7,?_⟩;clear hK K;refine zH1 10 rfl (fun K hK=>?_);obtain⟨ya10,yk10,e10,yr10⟩:=Rd.of_own o9_7;subst e10;refine di rfl (.tmp 40) (.tmp 44) 34 rfl B3 5 (.int .u8 0) 1 1 Tlv.byT (.slice a5 (V1.length+Vn.length) k5) _ _ rfl x6 ya10 _ yk10 _ rfl yr10 (bM _) (by unfold maxLen;omega) (by omega) z7 ?_;intro a10 k10 W8 x7 hg10 hb8 _;have s8:=s7.turn hb8 hB3;have z8:=yae z7 hb8.size;clear hg10;refine hK _ _ ⟨s8,?_⟩;clear hK K;refine zp 11 (.slice a10 (V1.length+Vn.length+Vt.length) k10) rfl ?_;go_simp;refine zd ?_;go_wp2_with fail;go_ret;refine⟨_,rfl,own_base ?_ (yaZ hB3),s8.bel⟩;have hz:opL v c=V1++Vn++Vt:=by rw[HOP.out,HF.out];simp only[yaH,ybn,yaD,E110.out,E116.out,yav]
    rw[hz];simp only[yab,dS];exact x7
   refine ybZ rfl (fun K hK=>?_);obtain⟨k8,W4,hrun,r8_4,hb4⟩:=gI v.to hmt W3;go_simp;have lx8:=iP x2;have r3_4:=r3_3.later hb4;have x3:=ag x2 hb4;have s4:=s3.step hb4;have z4:=yae z3 hb4.size;clear hrun;refine hK _ _ ⟨s4,?_⟩;clear hK K;refine zH1 4 rfl (fun K hK=>?_);go_simp;refine (aW 2 v.name.data.toList _ _ _ W4 hnN r3_4).mono ?_;rintro e W5 ⟨v4,rfl,o4_5,hb5⟩;rw[HVn.out] at o4_5;have r8_5:=r8_4.later hb5;have x4:=ag x3 hb5;have s5:=s4.step hb5;have z5:=yae z4 hb5.size;go_simp;refine hK _ _ ⟨s5,?_⟩;clear hK K;refine zH1 5 rfl (fun K hK=>?_);obtain⟨ya5,yk5,e5,yr5⟩:=Rd.of_own o4_5;subst e5;refine di rfl (.tmp 35) (.tmp 39) 34 rfl B3 5 (.int .u8 0) 1 1 Tlv.byT v3 _ _ rfl x4 ya5 _ yk5 _ rfl yr5 (bM _) (by unfold maxLen;omega) (by omega) z5 ?_;intro a5 k5 W6 x5 hg5 hb6 _;have s6:=s5.turn hb6 hB3;have z6:=yae z5 hb6.size;have r8_6:=zM r8_5 hg5 (yt lx8);clear hg5;refine hK _ _ ⟨s6,?_⟩;clear hK K;refine zH1 9 rfl (fun K hK=>?_);go_simp;refine (aW 3 v.to.data.toList _ _ _ W6 hnT r8_6).mono ?_;rintro e W7 ⟨v9,rfl,o9_7,hb7⟩;rw[HVt.out] at o9_7;have x6:=ag x5 hb7;have s7:=s6.step hb7;have z7:=yae z6 hb7.size;go_simp;refine hK _ _ ⟨s7,?_⟩;clear hK K;refine zH1 10 rfl (fun K hK=>?_);obtain⟨ya10,yk10,e10,yr10⟩:=Rd.of_own o9_7;subst e10;refine di rfl (.tmp 40) (.tmp 44) 34 rfl B3 5 (.int .u8 0) 1 1 Tlv.byT (.slice a5 (V1.length+Vn.length) k5) _ _ rfl x6 ya10 _ yk10 _ rfl yr10 (bM _) (by unfold maxLen;omega) (by omega) z7 ?_;intro a10 k10 W8 x7 hg10 hb8 _;have s8:=s7.turn hb8 hB3;have z8:=yae z7 hb8.size;clear hg10;refine hK _ _ ⟨s8,?_⟩;clear hK K;refine zp 11 (.slice a10 (V1.length+Vn.length+Vt.length) k10) rfl ?_;go_simp;refine zd ?_;go_wp2_with fail;go_ret;refine⟨_,rfl,own_base ?_ (yaZ hB3),s8.bel⟩;have hz:opL v c=V1++Vn++Vt:=by rw[HOP.out,HF.out];simp only[yaH,ybn,yaD,E110.out,E116.out,yav]
   rw[hz];simp only[yab,dS];exact x7
  refine ybZ rfl (fun K hK=>?_);obtain⟨k8,W3,hrun,r8_3,hb3⟩:=gI v.to hmt W2;go_simp;have lx8:=iP x1;have x2:=ag x1 hb3;have s3:=s2.step hb3;have z3:=yae z2 hb3.size;clear hrun;refine hK _ _ ⟨s3,?_⟩;clear hK K;refine zH1 3 rfl (fun K hK=>?_);obtain⟨k3,W4,hrun,r3_4,hb4⟩:=gI v.name hmn W3;go_simp;have lx3:=iP x2;have r8_4:=r8_3.later hb4;have x3:=ag x2 hb4;have s4:=s3.step hb4;have z4:=yae z3 hb4.size;clear hrun;refine hK _ _ ⟨s4,?_⟩;clear hK K;refine zH1 4 rfl (fun K hK=>?_);go_simp;refine (aW 2 v.name.data.toList _ _ _ W4 hnN r3_4).mono ?_;rintro e W5 ⟨v4,rfl,o4_5,hb5⟩;rw[HVn.out] at o4_5;have r8_5:=r8_4.later hb5;have x4:=ag x3 hb5;have s5:=s4.step hb5;have z5:=yae z4 hb5.size;go_simp;refine hK _ _ ⟨s5,?_⟩;clear hK K;refine zH1 5 rfl (fun K hK=>?_);obtain⟨ya5,yk5,e5,yr5⟩:=Rd.of_own o4_5;subst e5;refine di rfl (.tmp 35) (.tmp 39) 34 rfl B3 5 (.int .u8 0) 1 1 Tlv.byT v3 _ _ rfl x4 ya5 _ yk5 _ rfl yr5 (bM _) (by unfold maxLen;omega) (by omega) z5 ?_;intro a5 k5 W6 x5 hg5 hb6 _;have s6:=s5.turn hb6 hB3;have z6:=yae z5 hb6.size;have r8_6:=zM r8_5 hg5 (yt lx8);clear hg5;refine hK _ _ ⟨s6,?_⟩;clear hK K;refine zH1 9 rfl (fun K hK=>?_);go_simp;refine (aW 3 v.to.data.toList _ _ _ W6 hnT r8_6).mono ?_;rintro e W7 ⟨v9,rfl,o9_7,hb7⟩;rw[HVt.out] at o9_7;have x6:=ag x5 hb7;have s7:=s6.step hb7;have z7:=yae z6 hb7.size;go_simp;refine hK _ _ ⟨s7,?_⟩;clear hK K;refine zH1 10 rfl (fun K hK=>?_);obtain⟨ya10,yk10,e10,yr10⟩:=Rd.of_own o9_7;subst e10;refine di rfl (.tmp 40) (.tmp 44) 34 rfl B3 5 (.int .u8 0) 1 1 Tlv.byT (.slice a5 (V1.length+Vn.length) k5) _ _ rfl x6 ya10 _ yk10 _ rfl yr10 (bM _) (by unfold maxLen;omega) (by omega) z7 ?_;intro a10 k10 W8 x7 hg10 hb8 _;have s8:=s7.turn hb8 hB3;have z8:=yae z7 hb8.size;clear hg10;refine hK _ _ ⟨s8,?_⟩;clear hK K;refine zp 11 (.slice a10 (V1.length+Vn.length+Vt.length) k10) rfl ?_;go_simp;refine zd ?_;go_wp2_with fail;go_ret;refine⟨_,rfl,own_base ?_ (yaZ hB3),s8.bel⟩;have hz:opL v c=V1++Vn++Vt:=by rw[HOP.out,HF.out];simp only[yaH,ybn,yaD,E110.out,E116.out,yav]
  rw[hz];simp only[yab,dS];exact x7
 focus
  obtain⟨c0,c1,c2,c3,c4,c5,c6,-⟩:=aC s1.o;go_wp2_with fail;refine (IQ 5 _ _ _ c.parts W1 (ho.later s1.bel).b hbnN hpart hP1).mono ?_;rintro e W2 ⟨v4,rfl,o4,hb2⟩;rw[HVp.out] at o4;have s2:=s1.step hb2;have x1:=ag x0 hb2;have z2:=yae z1 hb2.size;obtain⟨ya,yk,e4,yr⟩:=Rd.of_own o4;subst e4;clear c0 c1 c2 c3 c4 c5 c6;go_upto_region 14 with (at_builtin;refine dZ _ rfl (.tmp 48) (.tmp 51) 34 rfl B3 5 (.int .u8 0) 1 1 Tlv.byT v3 _ _ rfl x1 ya _ yk _ rfl yr (bM _) (by unfold maxLen;omega) (by omega) z2 ?_;intro a0 k0 W3 x2 _ hb3 _);have s3:=s2.turn hb3 hB3;have z3:=yae z2 hb3.size;have hd:Below W3.heap.size W3 W3.drew:=(yaj _ _).drew;have s4:=s3.step hd;have x3:=ag x2 hd;have z4:=yae z3 hd.size;refine yaB (S:=ByAt w v) hmo ?_;change wpAnyH _ _ _ _ _ _ _ _ (World.drew W3);generalize World.drew W3=W4 at *;have zf0:=fun (w0:World) (h:ByAt w v w0)=>aC h.o;refine zp 0 (.slice a0 (V1.length+Vp.length) k0) rfl (zp 1 (pp w.heap.size 5) rfl ?_);go_simp;refine zv 2 (.slice v.co v.cn v.cc) rfl ?_;go_simp;refine zp 5 (pp w.heap.size 6) rfl ?_;go_simp;refine zv 6 (.int .i64 v.n) rfl ?_;go_simp;refine zv 7 (.int .u64 (nn:Int)) rfl ?_;go_simp;refine zH1 3 rfl (fun K hK=>?_);go_simp;refine (aW 6 c.cursor _ _ _ W4 hnC (ho.later s4.bel).c).mono ?_;rintro e W5 ⟨v3,rfl,o3_5,hb5⟩;rw[HVc.out] at o3_5;have x4:=ag x3 hb5;have s5:=s4.step hb5;have z5:=yae z4 hb5.size;go_simp;refine hK _ _ ⟨s5,?_⟩;clear hK K;refine zH1 4 rfl (fun K hK=>?_);obtain⟨ya4,yk4,e4,yr4⟩:=Rd.of_own o3_5;subst e4;refine di rfl (.tmp 53) (.tmp 56) 34 rfl B3 5 (.int .u8 0) 1 1 Tlv.byT (.slice a0 (V1.length+Vp.length) k0) _ _ rfl x4 ya4 _ yk4 _ rfl yr4 (bM _) (by unfold maxLen;omega) (by omega) z5 ?_;intro a4 k4 W6 x5 hg4 hb6 _;have s6:=s5.turn hb6 hB3;have z6:=yae z5 hb6.size;clear hg4;refine hK _ _ ⟨s6,?_⟩;clear hK K;refine zC 8 rfl (iY 7 nn W6 hn64) ?_;rintro e W7 ⟨v8,rfl,o8_7,hb7⟩;rw[HVk.out] at o8_7;have x6:=ag x5 hb7;have s7:=s6.step hb7;have z7:=yae z6 hb7.size;refine⟨s7,?_⟩;go_simp;refine zH1 9 rfl (fun K hK=>?_);obtain⟨ya9,yk9,e9,yr9⟩:=Rd.of_own o8_7;subst e9;refine di rfl (.tmp 57) (.tmp 61) 34 rfl B3 5 (.int .u8 0) 1 1 Tlv.byT (.slice a4 (V1.length+Vp.length+Vc.length) k4) _ _ rfl x6 ya9 _ yk9 _ rfl yr9 (bM _) (by unfold maxLen;omega) (by omega) z7 ?_;intro a9 k9 W8 x7 hg9 hb8 _;have s8:=s7.turn hb8 hB3;have z8:=yae z7 hb8.size;clear hg9;refine hK _ _ ⟨s8,?_⟩;clear hK K;refine zp 10 (.slice a9 (V1.length+Vp.length+Vc.length+Vk.length) k9) rfl ?_;go_simp;refine zd ?_;go_wp2_with fail;go_ret;refine⟨_,rfl,own_base ?_ (yaZ hB3),s8.bel⟩;have hz:opL v c=V1++Vp++Vc++Vk:=by rw[HOP.out,HF.out];simp only[yaH,ybn,yaD,E112.out,E99.out,E107.out,yav]
  rw[hz];simp only[yab,dS];exact x7
 focus
  go_upto_region 14 with fail;have hd:Below W1.heap.size W1 W1.drew:=(yaj _ _).drew;have s2:=s1.step hd;have x1:=ag x0 hd;have z2:=yae z1 hd.size;refine yaB (S:=ByAt w v) hmo ?_;change wpAnyH _ _ _ _ _ _ _ _ (World.drew W1);generalize World.drew W1=W2 at *;have zf0:=fun (w0:World) (h:ByAt w v w0)=>aC h.o;refine zp 0 (v3) rfl (zp 1 (pp w.heap.size 5) rfl ?_);go_simp;refine zv 2 (.slice v.co v.cn v.cc) rfl ?_;go_simp;refine zp 5 (pp w.heap.size 6) rfl ?_;go_simp;refine zv 6 (.int .i64 v.n) rfl ?_;go_simp;refine zv 7 (.int .u64 (nn:Int)) rfl ?_;go_simp;refine zH1 3 rfl (fun K hK=>?_);go_simp;refine (aW 6 c.cursor _ _ _ W2 hnC (ho.later s2.bel).c).mono ?_;rintro e W3 ⟨v3,rfl,o3_3,hb3⟩;rw[HVc.out] at o3_3;have x2:=ag x1 hb3;have s3:=s2.step hb3;have z3:=yae z2 hb3.size;go_simp;refine hK _ _ ⟨s3,?_⟩;clear hK K;refine zH1 4 rfl (fun K hK=>?_);obtain⟨ya4,yk4,e4,yr4⟩:=Rd.of_own o3_3;subst e4;refine di rfl (.tmp 53) (.tmp 56) 34 rfl B3 5 (.int .u8 0) 1 1 Tlv.byT v3 _ _ rfl x2 ya4 _ yk4 _ rfl yr4 (bM _) (by unfold maxLen;omega) (by omega) z3 ?_;intro a4 k4 W4 x3 hg4 hb4 _;have s4:=s3.turn hb4 hB3;have z4:=yae z3 hb4.size;clear hg4;refine hK _ _ ⟨s4,?_⟩;clear hK K;refine zC 8 rfl (iY 7 nn W4 hn64) ?_;rintro e W5 ⟨v8,rfl,o8_5,hb5⟩;rw[HVk.out] at o8_5;have x4:=ag x3 hb5;have s5:=s4.step hb5;have z5:=yae z4 hb5.size;refine⟨s5,?_⟩;go_simp;refine zH1 9 rfl (fun K hK=>?_);obtain⟨ya9,yk9,e9,yr9⟩:=Rd.of_own o8_5;subst e9;refine di rfl (.tmp 57) (.tmp 61) 34 rfl B3 5 (.int .u8 0) 1 1 Tlv.byT (.slice a4 (V1.length+Vc.length) k4) _ _ rfl x4 ya9 _ yk9 _ rfl yr9 (bM _) (by unfold maxLen;omega) (by omega) z5 ?_;intro a9 k9 W6 x5 hg9 hb6 _;have s6:=s5.turn hb6 hB3;have z6:=yae z5 hb6.size;clear hg9;refine hK _ _ ⟨s6,?_⟩;clear hK K;refine zp 10 (.slice a9 (V1.length+Vc.length+Vk.length) k9) rfl ?_;go_simp;refine zd ?_;go_wp2_with fail;go_ret;refine⟨_,rfl,own_base ?_ (yaZ hB3),s6.bel⟩;have hz:opL v c=V1++Vc++Vk:=by rw[HOP.out,HF.out];simp only[yaH,ybn,yaD,E99.out,E107.out,yav]
  rw[hz];simp only[yab,dS];exact x5
theorem lZ{c:OC}(h:aA v c=true):vT v c=opL v c:=by unfold vT;rw[if_pos h]
structure RyAt (w:World)(r:RV)(W:World):Prop where
 o:W.heap[w.heap.size]?=some r.box
 bel:Below w.heap.size w W
theorem RyAt.step(h:RyAt w r W)(hb:Below W.heap.size W W'):RyAt w r W':=⟨(hb.q h.o),h.bel.trans (hb.mono h.bel.size)⟩
theorem RyAt.turn(h:RyAt w r W)(hb:Below B W W')(hB:w.heap.size<B):RyAt w r W':=⟨(hb.block _ hB).trans h.o,h.bel.trans (hb.mono (yaZ hB))⟩
theorem uU(r:RV)(c:OC)(w:World)(ho:OpAt w r.op c)(hm:aA r.op c=true)(h0:0<=r.cl)(h1:r.cl<18446744073709551616)(h2:0<=r.nu)(h3:r.nu<18446744073709551616) :
  Calls Tryz.prog 85 #[r.val] w (jw w (dG r (vT r.op c))):=by
 have hmo:=hmO
 have hlen:=(jI w r.op c ho).len;rw[lZ hm] at hlen ⊢;obtain⟨cn,hcn⟩:∃n:Nat,r.cl=(n:Int):=⟨r.cl.toNat,by omega⟩
 obtain⟨un,hun⟩:∃n:Nat,r.nu=(n:Int):=⟨r.nu.toNat,by omega⟩
 have hc64:cn<18446744073709551616:=by omega
 have hu64:un<18446744073709551616:=by omega
 obtain⟨V1,hV1⟩:∃V,val 1 (au cn)=V:=⟨_,rfl⟩
 obtain⟨V2,hV2⟩:∃V,val 2 (au un)=V:=⟨_,rfl⟩
 obtain⟨OB,hOB⟩:∃V,opL r.op c=V:=⟨_,rfl⟩
 obtain⟨V3,hV3⟩:∃V,val 3 OB=V:=⟨_,rfl⟩
 have hz:dG r (opL r.op c)=V1++V2++V3:=by unfold dG;rw[hOB,hV3,show r.cl.toNat=cn by omega,show r.nu.toNat=un by omega,hV1,hV2]
 rw[hOB] at hlen;have l1:V1.length<=300000:=by rw[<-hV1,ae,ai];decide
 have l2:V2.length<=300000:=by rw[<-hV2,ae,ai];decide
 have l3:V3.length<=5000000:=by rw[<-hV3,ae];omega
 have lO:OB.length<=4194304:=by omega
 have HZ:=hid hz;have HV1:=hid hV1;have HV2:=hid hV2;have HV3:=hid hV3;have HOB:=hid hOB;have Hcn:=hid hcn;have Hun:=hid hun;clear hz hV1 hV2 hV3 hOB hcn hun hlen h0 h1 h2 h3;have hb0:=bN w r.box;have k0:=aN w r.box
 unfold RV.box RV.cells at hb0 k0;unfold RV.val RV.cells;go_in;go_upto_region 1 with fail;generalize hg:w.alloc _=W0 at *;have k0f:W0.heap[w.heap.size]?=some r.box:=k0;have s0:RyAt w r W0:=⟨k0f,hb0⟩
 clear hg k0 k0f hb0;have s1:RyAt w r W0.drew:=s0.step (yaj _ _).drew;have z1:w.heap.size<W0.drew.heap.size:=lA s1.o;refine yaB (S:=RyAt w r) hmo ?_;change wpAnyH _ _ _ _ _ _ _ _ (World.drew W0);generalize World.drew W0=W1 at *;have zf0:=fun (w0:World) (h:RyAt w r w0)=>gY h.o;refine zp 0 (pp w.heap.size 0) rfl ?_;go_simp;refine zv 1 (.int .u64 r.cl) rfl ?_;go_simp;refine zp 3 (pp w.heap.size 1) rfl ?_;go_simp;refine zv 4 (.int .u64 r.nu) rfl ?_;go_simp;rw[Hcn.out];refine zC 2 rfl (iY 1 cn W1 hc64) ?_;rintro e W2 ⟨v2,rfl,x2,hb2⟩;rw[HV1.out] at x2;have s2:=s1.step hb2;generalize hB:W1.heap.size=B at *;have z2:B<=W2.heap.size:=by rw[<-hB];exact hb2.size
 refine⟨s2,?_⟩;go_simp;rw[Hun.out];refine zC 5 rfl (iY 2 un W2 hu64) ?_;rintro e W3 ⟨v5,rfl,o5,hb3⟩;rw[HV2.out] at o5;have s3:=s2.step hb3;have x3:=ag x2 hb3;have z3:B<=W3.heap.size:=yae z2 hb3.size;refine⟨s3,?_⟩;go_simp;refine zH1 6 rfl (fun K hK=>?_);obtain⟨ya,yk,e5,yr⟩:=Rd.of_own o5;subst e5;refine di rfl (.tmp 6) (.tmp 9) 34 rfl B 5 (.int .u8 0) 1 1 Tlv.byT v2 _ _ rfl x3 ya _ yk _ rfl yr (bM _) (by unfold maxLen;omega) (by omega) z3 ?_;intro a6 k6 W4 x4 hg6 hb4 _;have s4:=s3.turn hb4 z1;have z4:B<=W4.heap.size:=yae z3 hb4.size;clear hg6;refine hK _ _ ⟨s4,?_⟩;clear hK K;refine zp 7 (.slice a6 (V1.length+V2.length) k6) rfl ?_;go_simp;refine zd ?_;obtain⟨c0,c1,c2,c3,c4,c5,c6,c7,c8,-⟩:=gY s4.o;have hob:=CS r.op c W4 (ho.later s4.bel) hm;unfold OV.val at hob;go_wp2_with fail;refine hob.mono ?_;rintro e W5 ⟨v7,rfl,o7,hb5⟩;rw[HOB.out] at o7;have s5:=s4.step hb5;have x5:=ag x4 hb5;have z5:=yae z4 hb5.size;obtain⟨qa,qk,e7,qr⟩:=Rd.of_own o7;subst e7;clear c0 c1 c2 c3 c4 c5 c6 c7 c8 hob;go_wp2_with fail;refine (aW 3 OB qa _ qk W5 lO qr).mono ?_;rintro e W6 ⟨v8,rfl,o8,hb6⟩;rw[HV3.out] at o8;have s6:=s5.step hb6;have x6:=ag x5 hb6;have z6:=yae z5 hb6.size;obtain⟨ta,tk,e8,tr⟩:=Rd.of_own o8;subst e8;go_wp2_with (at_builtin;refine dZ _ rfl (.tmp 11) (.tmp 15) 34 rfl B 5 (.int .u8 0) 1 1 Tlv.byT (.slice a6 (V1.length+V2.length) k6) _ _ rfl x6 ta _ tk _ rfl tr (bM _) (by unfold maxLen;omega) (by omega) z6 ?_;intro a9 k9 W7 x7 _ hb7 _);have s7:=s6.turn hb7 z1;go_ret;refine⟨_,rfl,own_base ?_ (yaZ z1),s7.bel⟩;rw[HZ.out];simp only[yab,dS];exact x7
end Msg
namespace Msg
open Go.RowKit Go.Lib Mem Tlv
variable{W':World}{c c':OC}{r:RV}{u v:OV}
structure OpsAt (w:World)(v v' Y Z:OV)(c c' cY cZ:OC)(yb zb:Nat)(ax:Option Addr)(cx:Nat)(lx:List UInt8)(W:World):Prop where
 bel:Below w.heap.size w W
 b0:W.heap[w.heap.size]?=some v.box
 b1:W.heap[w.heap.size+1]?=some v'.box
 b2:W.heap[yb]?=some Y.box
 b3:W.heap[zb]?=some Z.box
 o0:OpAt W v c
 o1:OpAt W v' c'
 o2:OpAt W Y cY
 o3:OpAt W Z cZ
 rx:Rd W 1 ax lx.length cx (byV lx)
theorem OpsAt.step{w:World}{v' Y Z:OV}{cY cZ:OC}{yb zb:Nat}{ax:Option Addr}{cx:Nat}{lx:List UInt8}{W:World}(h:OpsAt w v v' Y Z c c' cY cZ yb zb ax cx lx W)(hb:Below W.heap.size W W'):OpsAt w v v' Y Z c c' cY cZ yb zb ax cx lx W':=
 ⟨h.bel.trans (hb.mono h.bel.size),(hb.q h.b0),(hb.q h.b1),(hb.q h.b2),(hb.q h.b3),h.o0.later hb,h.o1.later hb,h.o2.later hb,h.o3.later hb,h.rx.later hb⟩
structure U64R (r:RV):Prop where
 c0:0<=r.cl
 c1:r.cl<18446744073709551616
 n0:0<=r.nu
 n1:r.nu<18446744073709551616
def qW (b:List UInt8):Prop:=∀W r c,OpAt W r.op c->aA r.op c=true->U64R r->dG r (opL r.op c)≠b
theorem iJ{W:World}(ho:OpAt W v c)(hm:aA v c=true):(opL v c).length<=4000000:=by
 have:=(jI W v c ho).len;rw[lZ hm] at this;exact this
theorem oH(r:RV)(bl:List UInt8):dG r bl=val 1 (au r.cl.toNat)++(val 2 (au r.nu.toNat)++(val 3 bl++[])):=by unfold dG;simp
theorem Fq{W:World}{r':RV}(ho:OpAt W r.op c)(ho':OpAt W' r'.op c')(hm:aA r.op c=true)(hm':aA r'.op c'=true)(hu:U64R r)(hu':U64R r')(h:dG r (opL r.op c)=dG r' (opL r'.op c')):r.cl=r'.cl/\r.nu=r'.nu/\bg r.op c r'.op c'=true:=by
 have l1:=iJ ho hm;have l2:=iJ ho' hm';rw[oH,oH] at h;obtain⟨h1,h⟩:=az (by decide) (by rw[ai];omega) (by rw[ai];omega) h;obtain⟨h2,h⟩:=az (by decide) (by rw[ai];omega) (by rw[ai];omega) h;obtain⟨h3,-⟩:=az (by decide) (by omega) (by omega) h;have a0:=hu.c0;have a1:=hu.c1;have a2:=hu.n0;have a3:=hu.n1;have b0:=hu'.c0;have b1:=hu'.c1;have b2:=hu'.n0;have b3:=hu'.n1;have e1:=iM (by omega) (by omega) h1;have e2:=iM (by omega) (by omega) h2;exact⟨by omega,by omega,RQ ho ho' hm hm' h3⟩
section
variable {b y:List UInt8} {s1 s2 s3:RS} {n1 n2:Nat}
 (T1:Took (fun n:Nat=>val 1 (au n)) (fun n=>n<18446744073709551616) (fun n=>n<18446744073709551616) ⟨b,false⟩ n1 s1)
 (T2:Took (fun n:Nat=>val 2 (au n)) (fun n=>n<18446744073709551616) (fun n=>n<18446744073709551616) s1 n2 s2)
 (T3:Took (val 3) (fun z=>z.length<=4194304) (fun z=>z.length<=4194304) s2 y s3)
include T1 T2 T3
theorem uu(h:(s3.bad=true\/0<s3.l.length)\/wQ y):qW b:=by
 intro W r c ho hm hu e;have lo:=iJ ho hm;rw[oH] at e;have a0:=hu.c0;have a1:=hu.c1;have a2:=hu.n0;have a3:=hu.n1;cases h1:s1.bad with
 | true=>
  rcases T1.no h1 with h | h
  ·cases h
  exact h r.cl.toNat _ (by omega) e.symm
 | false=>
  obtain⟨-,e1,g1⟩:=T1.yes h1;dsimp only at e1;rw[e1] at e;obtain⟨-,e⟩:=az (by decide) (by rw[ai];omega) (by rw[ai];omega) e;cases h2:s2.bad with
  | true=>
   rcases T2.no h2 with h | h
   ·rw[h1] at h;cases h
   exact h r.nu.toNat _ (by omega) e.symm
  | false=>
   obtain⟨-,e2,g2⟩:=T2.yes h2;rw[e2] at e;obtain⟨-,e⟩:=az (by decide) (by rw[ai];omega) (by rw[ai];omega) e;cases h3:s3.bad with
   | true=>
    rcases T3.no h3 with h | h
    ·rw[h2] at h;cases h
    exact h (opL r.op c) [] (by omega) e.symm
   | false=>
    obtain⟨-,e3,g3⟩:=T3.yes h3;rw[e3] at e;obtain⟨ey,e⟩:=az (by decide) (by omega) g3 e;rcases h with (h | h) | h
    ·rw[h3] at h;cases h
    ·rw[<-e] at h;simp at h
    exact h W r.op c ho hm ey
theorem Df(h3:s3.bad=false)(hl:s3.l=[]):b=val 1 (au n1)++(val 2 (au n2)++(val 3 y++[]))/\n1<18446744073709551616/\n2<18446744073709551616:=by
 obtain⟨h2,e3,-⟩:=T3.yes h3;obtain⟨h1,e2,g2⟩:=T2.yes h2;obtain⟨-,e1,g1⟩:=T1.yes h1;dsimp only at e1;exact⟨by rw[e1,e2,e3,hl],g1,g2⟩
end
def xg (T:World->OV->Prop)(ok bad:Value)(b:List UInt8)(w:World)(e:Ending)(w':World):Prop:=Below w.heap.size w w' /\
 ((∃r c,e=.returned (.tuple #[RV.val r,ok])/\OpAt w' r.op c/\T w' r.op/\U64R r/\aA r.op c=true/\dG r (opL r.op c)=b)\/(e=.returned (.tuple #[bG.val,bad])/\qW b))
theorem vF{W:World}{b k:Nat}(h:k≠b):(kG W b u).heap[k]?=W.heap[k]?:=by
 unfold kG;simp only[show ∀(X:World) (i:Nat) (x:Value),(X.setCell ⟨b,i,none⟩ x).heap[k]?=X.heap[k]? from fun X i x=>yaA X ⟨b,i,none⟩ x k h]
theorem zW{W:World}{b:Nat}(h:W.heap[b]?=some r.box)(hs:W.heap.size<=W'.heap.size)(ho:∀k,k≠b->W'.heap[k]?=W.heap[k]?):KeepR W W':=by
 refine⟨hs,fun k c t fr ht hk=>?_⟩;have hne:k≠b:=fun e=>by
  subst e;rw[h] at hk;cases hk;rcases ht with h | h | h<;>exact absurd h (by decide)
 exact (ho k hne).trans hk
theorem xE{W:World}{b:Nat}:(kG W b u).heap.size=W.heap.size:=by unfold kG;simp only[ybv]
theorem uS(b:List UInt8)(ao:Option Addr)(n cap:Nat)(w:World)(hr:Rd w 1 ao n cap (byV b))(hn:n<=100000000) :
  Calls Tryz.prog 193 #[.slice ao n cap] w (xg OpTy (.int .i64 0) (.int .i64 4) b w):=by
 have hbn:b.length=n:=by have:=hr.1;rw[aV] at this;omega
 have hb0:=bN w bG.box;have k0:=aN w bG.box
 have hz0:(w.alloc bG.box).heap.size=w.heap.size+1:=by simp
 have hr0:=hr.later hb0;unfold bG zeroV RV.box RV.cells at hb0 k0 hz0 hr0;dsimp only at hb0 k0 hz0 hr0;clear hr;go_in;go_upto_region 1 with fail;generalize hg:w.alloc _=W0 at *;have k0f:W0.heap[w.heap.size]?=some bG.box:=k0;clear hg k0;go_wp2_with fail;refine (pV ao n cap b W0 hr0 (by omega)).mono ?_;rintro e W1 ⟨g,rfl,hr1,hb1⟩;have hg0:W0.heap.size<=g:=by obtain⟨_,_,h⟩:=hr1;exact h.le
 have T1:=iL ⟨b,false⟩ 1 (by decide);have hnum1:=pW W0.heap.size g ⟨b,false⟩ 1 W1 hr1 (by dsimp only;omega);unfold jm at hnum1;generalize RS.num ⟨b,false⟩ 1=nm at *;obtain⟨n1,s1⟩:=nm;dsimp only at T1 hnum1;go_wp2_with fail;refine hnum1.mono ?_;rintro e W2 ⟨rfl,hr2,hg2⟩;have T2:=iL s1 2 (by decide);have l1:=T1.le;dsimp only at l1;have hnum2:=pW W0.heap.size g s1 2 W2 hr2 (by omega);unfold jm at hnum2;generalize RS.num s1 2=nm at *;obtain⟨n2,s2⟩:=nm;dsimp only at T2 hnum2;go_wp2_with fail;refine hnum2.mono ?_;rintro e W3 ⟨rfl,hr3,hg3⟩;have l2:=T2.le;have hb3:Below W0.heap.size W0 W3:=(hb1.trans (below_of_grown hg2 hg0 (by obtain⟨_,_,h⟩:=hr1;exact h.lt))).trans (below_of_grown hg3 hg0 (by obtain⟨_,_,h⟩:=hr2;exact h.lt));go_upto_region 3 with (refine zNr rfl ?_;go_simp);generalize hg:W3.alloc _=W4;have e4:W3.alloc (RV.box ⟨n1,n2,zeroV⟩)=W4:=hg;have hb4':Below W3.heap.size W3 W4:=bE e4
 have q4:W4.heap[W3.heap.size]?=some (RV.box ⟨n1,n2,zeroV⟩):=aE e4
 have hr4:=hr3.later hb4';have hb4:=hb3.trans (hb4'.mono hb3.size);have hob:W0.heap.size<=W3.heap.size:=hb3.size;have hgo:g≠W3.heap.size:=by obtain⟨_,_,h⟩:=hr3;have:=h.lt;omega
 clear hg e4 hnum1 hnum2 hb1 hr1 hr2 hr3 hg2 hg3 hb3 hb4';generalize W3.heap.size=ob at *;have T3:=bC s2 3 (by decide);have hl3:=fU s2 3;have hby:=iZ W0.heap.size g s2 3 W4 hr4 (by omega);generalize RS.bytes s2 3=y at *;obtain⟨y,s3⟩:=y;dsimp only at T3 hby hl3;go_wp2_with fail;refine hby.mono ?_;rintro e W5 ⟨a5,c5,rfl,hrd5,hty5,hr5,hg5⟩;have hb5:Below W0.heap.size W0 W5:=hb4.trans (below_of_grown hg5 hg0 (by obtain⟨_,_,h⟩:=hr4;exact h.lt));have q5:W5.heap[ob]?=some (RV.box ⟨n1,n2,zeroV⟩):=(hg5.block _ (lA q4) (fun e=>hgo (yaf e).symm)).trans q4;clear hby q4 hr4 hb4 hg5;go_wp2_with fail;refine (NT y a5 y.length c5 W5 hrd5 (by omega)).mono ?_;rintro e W6 ⟨hb6,hO⟩;have hr6:=hr5.later hb6;have q6:W6.heap[ob]?=some (RV.box ⟨n1,n2,zeroV⟩):=hb6.q q5;have hb6':=hb5.trans (hb6.mono hb5.size);obtain⟨f,Y,cY,rfl,oY,tY,hans⟩:∃(f:Int) (Y:OV) (cY:OC),e=.returned (.tuple #[Y.val,.int .i64 f])/\OpAt W6 Y cY/\OpTy W6 Y/\((f=0/\aA Y cY=true/\opL Y cY=y)\/(f=4/\wQ y)):=by
  rcases hO with ⟨Y,cY,rfl,oY,tY,mY,lY⟩ | ⟨rfl,n1⟩
  ·exact⟨0,Y,cY,rfl,oY,tY,.inl ⟨rfl,mY,lY⟩⟩
  exact⟨4,zeroV,⟨[],[],[]⟩,rfl,⟨Rd.nil _ _,Rd.nil _ _,Rd.nil _ _,yam _,yam _,yam _⟩,⟨fun h=>absurd h (yaw 0),fun h=>absurd h (yaw 0),fun h=>absurd h (yaw 0)⟩,.inr ⟨rfl,n1⟩⟩
 clear hO hr5 q5 hb5 hb6;have HA:=hid hans;clear hans;have hrz6:W6.heap[w.heap.size]?=some bG.box:=(hb6'.block _ (by omega)).trans k0f;obtain⟨d0,d1,d2,d3,d4,d5,d6,d7,d8,d9⟩:=gY q6;dsimp only at d0 d1 d2 d3 d4 d5 d6 d7 d8;unfold OV.val;go_upto_region 4 with (refine zNr rfl ?_;go_simp);generalize hg:W6.alloc _=W7;have e7:W6.alloc Y.box=W7:=hg;have hb7:=bE e7
 have q7y:W7.heap[W6.heap.size]?=some Y.box:=aE e7
 have q7:W7.heap[ob]?=some (RV.box ⟨n1,n2,zeroV⟩):=hb7.q q6;have hr7:=hr6.later hb7;have hb7':=hb6'.trans (hb7.mono hb6'.size);have oY7:=oY.later hb7;have tY7:=tY.kpr (KeepR.of_below hb7);have hzy:ob≠W6.heap.size:=by have:=lA q6;omega
 clear hg e7 d0 d1 d2 d3 d4 d5 d6 d7 d8 d9 q6 oY tY hr6 hrz6 hb6' hb7;generalize W6.heap.size=yb at *;obtain⟨d0,d1,d2,d3,d4,d5,d6,d7,d8,d9⟩:=gY q7;dsimp only at d0 d1 d2 d3 d4 d5 d6 d7 d8;go_upto_region 5 with (refine zLr rfl q7y ?_;go_simp);generalize hg:World.setCell _ _ _=W8;have e8:kG W7 ob Y=W8:=hg;have hk8:∀k,k≠ob->W8.heap[k]?=W7.heap[k]?:=fun k hk=>by rw[<-e8];exact vF hk
 have hs8:W8.heap.size=W7.heap.size:=by rw[<-e8];exact xE
 have q8:W8.heap[ob]?=some (RV.box ⟨n1,n2,Y⟩):=by rw[<-e8];exact qN q7
 have hkr8:=zW q7 (yaR hs8.symm) hk8;have hb8:Below W0.heap.size W0 W8:=by rw[<-e8];exact hb7'.trans (jO (yaj _ _) hob)
 have oY8:=oY7.kpr tY7 hkr8;have tY8:=tY7.kpr hkr8;have hgr8:W7.grownBy W8 (some ob):=by
  have hB:Below ob W7 W8:=by rw[<-e8];exact jO (yaj _ _) (yag _)
  exact⟨hB.os,hB.tape,hB.output,hB.size,fun k _ hne=>hk8 k (fun e=>hne (by rw[e]))⟩
 have hr8:=hr7.grown hgr8 q7 (fun c fr h=>by cases h) hgo;clear hg e8 d0 d1 d2 d3 d4 d5 d6 d7 d8 d9 hk8 hs8 hkr8 oY7 tY7 hb7' hgr8 q7 q7y hr7;have hrz:W8.heap[w.heap.size]?=some bG.box:=(hb8.block _ (by omega)).trans k0f;have hbel:=hb0.trans (hb8.mono (by omega));have hfin:∀cs:Array Value,(W8.setRow w.heap.size cs).heap[w.heap.size]?=some (.cells cs 55)/\Below w.heap.size w (W8.setRow w.heap.size cs):=fun cs=>
  ⟨aO hrz,below_setRow hbel (yag _) cs⟩
 rcases HA.out with ⟨rfl,mY,lY⟩ | ⟨rfl,nY⟩
 ·have HM:=hid (yax mY lY);clear mY lY;go_wp2_with fail;refine (qB W0.heap.size g s3 W8 hr8).mono ?_;rintro e w9 ⟨rfl,rfl⟩;by_cases he:s3.bad=true\/0<s3.l.length
  ·have e4:s3.ends=4:=if_pos he;have hno:=uu T1 T2 T3 (.inl he);rw[e4];obtain⟨f1,f2⟩:=hfin bG.cells;go_wp2_with (refine zSr rfl hrz ?_;go_simp);refine yay (w:=W8.setRow w.heap.size bG.cells) (aj (i:=2) (j:=3) (t:=55) rfl rfl rfl (by kernel_rfl) (by kernel_rfl) f1) rfl ⟨f2,.inr ⟨rfl,hno⟩⟩
  have e4:s3.ends=0:=if_neg he;have hs1:s3.bad=false:=by cases h:s3.bad with
   | true=>exact absurd (.inl h) he
   | false=>rfl
  have hs2:s3.l=[]:=yat (by
   have:¬0<s3.l.length:=fun h=>he (.inr h);omega)
  rw[e4];obtain⟨hd,h64,u64⟩:=Df T1 T2 T3 hs1 hs2;have hout:U64R ⟨n1,n2,Y⟩/\dG ⟨n1,n2,Y⟩ (opL Y cY)=b:=by
   refine⟨⟨by dsimp only;omega,by dsimp only;omega,by dsimp only;omega,by dsimp only;omega⟩,?_⟩;rw[hd,oH,HM.out.2];rfl
  have HO:=hid hout;obtain⟨f1,f2⟩:=hfin (RV.cells ⟨n1,n2,Y⟩);have hkr:=zW hrz (below_setRow (yaj w.heap.size W8) (yag _) (RV.cells ⟨n1,n2,Y⟩)).size (fun k hk=>yba W8 w.heap.size k (RV.cells ⟨n1,n2,Y⟩) hk);have oF:=oY8.kpr tY8 hkr;have tF:=tY8.kpr hkr;clear hout hd;go_wp2_with (first | (refine zLr rfl q8 ?_;go_simp) | (refine zSr rfl hrz ?_;go_simp));exact yay (w:=W8.setRow w.heap.size (RV.cells ⟨n1,n2,Y⟩)) (aj (i:=2) (j:=3) (t:=55) rfl rfl rfl (by kernel_rfl) (by kernel_rfl) f1) rfl ⟨f2,.inl ⟨_,cY,rfl,oF,tF,HO.out.1,HM.out.1,HO.out.2⟩⟩
 have hno:=uu T1 T2 T3 (.inr nY);obtain⟨f1,f2⟩:=hfin bG.cells;go_wp2_with (refine zSr rfl hrz ?_;go_simp);refine yay (w:=W8.setRow w.heap.size bG.cells) (aj (i:=2) (j:=3) (t:=55) rfl rfl rfl (by kernel_rfl) (by kernel_rfl) f1) rfl ⟨f2,.inr ⟨rfl,hno⟩⟩
theorem Ff{B b:Nat}{W:World}(h:W.heap[b]?=some r.box)(hs:W.heap.size<=W'.heap.size)(ho:∀k,k≠b->W'.heap[k]?=W.heap[k]?)(hB:B<=b):KeepB B W W':=⟨zW h hs ho,fun k h1 _=>ho k (by omega)⟩
theorem su(B:Nat)(b:List UInt8)(ao:Option Addr)(n cap:Nat)(w:World)(hr:Rd w 1 ao n cap (byV b))(hB:B<=w.heap.size)(hty:TyB B w ao cap)(hn:n<=100000000) :
  Calls Tryz.prog 91 #[.slice ao n cap] w (xg (OpTyB B) (.bool true) (.bool false) b w):=by
 have hbn:b.length=n:=by have:=hr.1;rw[aV] at this;omega
 have hb0:=bN w bG.box;have k0:=aN w bG.box
 have hz0:(w.alloc bG.box).heap.size=w.heap.size+1:=by simp
 have hr0:=hr.later hb0;have ht0:=hty.later hb0;unfold bG zeroV RV.box RV.cells at hb0 k0 hz0 hr0 ht0;dsimp only at hb0 k0 hz0 hr0 ht0;clear hr hty;go_in;go_upto_region 1 with fail;generalize hg:w.alloc _=W0 at *;have k0f:W0.heap[w.heap.size]?=some bG.box:=k0;clear hg k0;subst hbn;have hBW0:B<=W0.heap.size:=yae hB hb0.size;have hR:=oz hr0 hBW0 ht0;have hbR:=bN W0 (.cells #[.slice ao b.length cap,.bool false] 119);go_upto_region 2 with fail;generalize hg:W0.alloc _=W1 at *;have hz1:W1.heap.size=W0.heap.size+1:=by rw[<-hg];simp
 clear hg;go_upto_region 3 with (refine zNr rfl ?_;go_simp);generalize hg:W1.alloc _=W2;have e2:W1.alloc bG.box=W2:=hg;have hb2:=bE e2
 have kb:W2.heap[W1.heap.size]?=some bG.box:=aE e2
 have hR2:=hR.later hb2;have hbel2:Below W0.heap.size W0 W2:=hbR.trans (hb2.mono (by omega));clear hg e2 hb2 hR hbR hr0 ht0;rw[hz0] at hR2;rw[hz1,hz0] at kb;clear hz1;have T1:=iL ⟨b,false⟩ 1 (by decide);generalize hgq:w.heap.size+1=g at *;generalize hobq:g+1=ob at *;have hg0:W0.heap.size<=g:=by omega
 have hob:W0.heap.size<=ob:=by omega
 have hgo:g≠ob:=by omega
 have hrw:w.heap.size<W0.heap.size:=by omega
 clear hgq hobq;have hBo:B<=ob:=yae hBW0 hob;have hnum:=jQ B g ⟨b,false⟩ 1 W2 hR2 (by dsimp only;omega);generalize RS.num ⟨b,false⟩ 1=nm at *;obtain⟨n1,s1⟩:=nm;dsimp only at T1 hnum;go_wp2_with fail;refine hnum.mono ?_;rintro e W3 ⟨rfl,hR3,hg3⟩;have hb3:Below W0.heap.size W0 W3:=hbel2.trans (below_of_grown hg3 hg0 hR2.lt);have q3:W3.heap[ob]?=some bG.box:=(hg3.block _ (lA kb) (fun e=>hgo (yaf e).symm)).trans kb;clear hnum hbel2 kb hR2 hg3;obtain⟨d0,d1,d2,d3,d4,d5,d6,d7,d8,d9⟩:=gY q3;unfold bG zeroV at d0 d1 d2 d3 d4 d5 d6 d7 d8;dsimp only at d0 d1 d2 d3 d4 d5 d6 d7 d8;go_upto_region 4 with fail;have q4:(W3.setCell ⟨ob,0,none⟩ (.int .u64 n1)).heap[ob]?=some (RV.box ⟨n1,0,zeroV⟩):=(at_set q3).trans (by kernel_rfl);have hR4:RfS B g s1 (W3.setCell ⟨ob,0,none⟩ (.int .u64 n1)):=hR3.grown (ak _ _ _ _) q3 (fun c fr h=>by cases h) hgo hBo;have hb4:=hb3.setCell (p:=⟨ob,0,none⟩) hob (.int .u64 n1);generalize W3.setCell _ _=W4 at *;clear d0 d1 d2 d3 d4 d5 d6 d7 d8 d9 q3 hR3 hb3;have T2:=iL s1 2 (by decide);have l1:=T1.le;dsimp only at l1;have hnum:=jQ B g s1 2 W4 hR4 (by omega);generalize RS.num s1 2=nm at *;obtain⟨n2,s2⟩:=nm;dsimp only at T2 hnum;go_wp2_with fail;refine hnum.mono ?_;rintro e W5 ⟨rfl,hR5,hg5⟩;have l2:=T2.le;have hb5:Below W0.heap.size W0 W5:=hb4.trans (below_of_grown hg5 hg0 hR4.lt);have q5:W5.heap[ob]?=some (RV.box ⟨n1,0,zeroV⟩):=(hg5.block _ (lA q4) (fun e=>hgo (yaf e).symm)).trans q4;clear hnum hb4 q4 hR4 hg5;obtain⟨d0,d1,d2,d3,d4,d5,d6,d7,d8,d9⟩:=gY q5;unfold zeroV at d2 d3 d4 d5 d6 d7 d8;dsimp only at d0 d1 d2 d3 d4 d5 d6 d7 d8;go_upto_region 5 with fail;have q6:(W5.setCell ⟨ob,1,none⟩ (.int .u64 n2)).heap[ob]?=some (RV.box ⟨n1,n2,zeroV⟩):=(at_set q5).trans (by kernel_rfl);have hR6:RfS B g s2 (W5.setCell ⟨ob,1,none⟩ (.int .u64 n2)):=hR5.grown (ak _ _ _ _) q5 (fun c fr h=>by cases h) hgo hBo;have hb6:=hb5.setCell (p:=⟨ob,1,none⟩) hob (.int .u64 n2);generalize W5.setCell _ _=W6 at *;clear d0 d1 d2 d3 d4 d5 d6 d7 d8 d9 q5 hR5 hb5;have T3:=bC s2 3 (by decide);have hl3:=fU s2 3;have hby:=gB B g s2 3 W6 hR6 (by omega);unfold gJ at hby;generalize RS.bytes s2 3=y at *;obtain⟨y,s3⟩:=y;dsimp only at T3 hby hl3;go_wp2_with fail;refine hby.mono ?_;rintro e W7 ⟨hR7,hg7,a7,c7,rfl,hrd7,hty7⟩;have hb7:Below W0.heap.size W0 W7:=hb6.trans (below_of_grown hg7 hg0 hR6.lt);have q7:W7.heap[ob]?=some (RV.box ⟨n1,n2,zeroV⟩):=(hg7.block _ (lA q6) (fun e=>hgo (yaf e).symm)).trans q6;clear hby q6 hR6 hb6 hg7;go_wp2_with fail;refine (KI B y a7 y.length c7 W7 hrd7 (yae hBW0 hb7.size) hty7 (by omega)).mono ?_;rintro e W8 ⟨hb8',hO⟩;have hR8:=hR7.later hb8';have q8:W8.heap[ob]?=some (RV.box ⟨n1,n2,zeroV⟩):=hb8'.q q7;have hb8:=hb7.trans (hb8'.mono hb7.size);obtain⟨ok,Y,cY,rfl,oY,tY,hans⟩:∃(ok:Bool) (Y:OV) (cY:OC),e=.returned (.tuple #[Y.val,.bool ok])/\OpAt W8 Y cY/\OpTyB B W8 Y/\((ok=true/\aA Y cY=true/\opL Y cY=y)\/(ok=false/\wQ y)):=by
  rcases hO with ⟨Y,cY,rfl,oY,tY,mY,lY⟩ | ⟨rfl,n1⟩
  ·exact⟨true,Y,cY,rfl,oY,tY,.inl ⟨rfl,mY,lY⟩⟩
  exact⟨false,zeroV,⟨[],[],[]⟩,rfl,⟨Rd.nil _ _,Rd.nil _ _,Rd.nil _ _,yam _,yam _,yam _⟩,⟨fun h=>absurd h (yaw 0),fun h=>absurd h (yaw 0),fun h=>absurd h (yaw 0)⟩,.inr ⟨rfl,n1⟩⟩
 clear hO hR7 q7 hb7 hb8';have HA:=hid hans;clear hans;unfold OV.val;go_upto_region 6 with (refine zNr rfl ?_;go_simp);generalize hg:W8.alloc _=W9;have e9:W8.alloc Y.box=W9:=hg;have hb9:=bE e9
 have q9y:W9.heap[W8.heap.size]?=some Y.box:=aE e9
 have q9:W9.heap[ob]?=some (RV.box ⟨n1,n2,zeroV⟩):=hb9.q q8;have hR9:=hR8.later hb9;have hb9':=hb8.trans (hb9.mono hb8.size);have oY9:=oY.later hb9;have tY9:=tY.kpb (KeepB.of_below hb9);clear hg e9 q8 oY tY hR8 hb8 hb9;generalize W8.heap.size=yb at *;obtain⟨d0,d1,d2,d3,d4,d5,d6,d7,d8,d9⟩:=gY q9;unfold zeroV at d2 d3 d4 d5 d6 d7 d8;dsimp only at d0 d1 d2 d3 d4 d5 d6 d7 d8;go_upto_region 7 with (refine zLr rfl q9y ?_;go_simp);generalize hg:World.setCell _ _ _=WA;have eA:kG W9 ob Y=WA:=hg;have hkA:∀k,k≠ob->WA.heap[k]?=W9.heap[k]?:=fun k hk=>by rw[<-eA];exact vF hk
 have hsA:WA.heap.size=W9.heap.size:=by rw[<-eA];exact xE
 have qA:WA.heap[ob]?=some (RV.box ⟨n1,n2,Y⟩):=by rw[<-eA];exact qN q9
 have hkrA:=Ff q9 (yaR hsA.symm) hkA hBo;have hbA:Below W0.heap.size W0 WA:=by rw[<-eA];exact hb9'.trans (jO (yaj _ _) hob)
 have oYA:=oY9.kpb tY9 hkrA;have tYA:=tY9.kpb hkrA;have hgrA:W9.grownBy WA (some ob):=by
  have hB:Below ob W9 WA:=by rw[<-eA];exact jO (yaj _ _) (yag _)
  exact⟨hB.os,hB.tape,hB.output,hB.size,fun k _ hne=>hkA k (fun e=>hne (by rw[e]))⟩
 have hRA:=hR9.grown hgrA q9 (fun c fr h=>by cases h) hgo hBo;clear hg eA d0 d1 d2 d3 d4 d5 d6 d7 d8 d9 hkA hsA hkrA oY9 tY9 hb9' hgrA q9 q9y hR9;have hrz:WA.heap[w.heap.size]?=some bG.box:=(hbA.block _ (by omega)).trans k0f;have hbel:=hb0.trans (hbA.mono (by omega));have hfin:∀cs:Array Value,(WA.setRow w.heap.size cs).heap[w.heap.size]?=some (.cells cs 55)/\Below w.heap.size w (WA.setRow w.heap.size cs):=fun cs=>
  ⟨aO hrz,below_setRow hbel (yag _) cs⟩
 rcases HA.out with ⟨rfl,mY,lY⟩ | ⟨rfl,nY⟩
 ·have HM:=hid (yax mY lY);clear mY lY;go_wp2_with fail;refine (kZ B g s3 WA hRA).mono ?_;rintro e w9 ⟨rfl,rfl⟩;by_cases he:s3.bad=false/\s3.l=[]
  ·have f0:decide (s3.bad=false/\s3.l=[])=true:=yaa he;obtain⟨hd,h64,u64⟩:=Df T1 T2 T3 he.1 he.2;have hout:U64R ⟨n1,n2,Y⟩/\dG ⟨n1,n2,Y⟩ (opL Y cY)=b:=by
    refine⟨⟨by dsimp only;omega,by dsimp only;omega,by dsimp only;omega,by dsimp only;omega⟩,?_⟩;rw[hd,oH,HM.out.2];rfl
   have HO:=hid hout;obtain⟨f1,f2⟩:=hfin (RV.cells ⟨n1,n2,Y⟩);have hkr:=Ff (B:=B) hrz (below_setRow (yaj w.heap.size WA) (yag _) (RV.cells ⟨n1,n2,Y⟩)).size (fun k hk=>yba WA w.heap.size k (RV.cells ⟨n1,n2,Y⟩) hk) hB;have oF:=oYA.kpb tYA hkr;have tF:=tYA.kpb hkr;clear hout hd he;go_wp2_with (first | (refine zLr rfl qA ?_;go_simp) | (refine zSr rfl hrz ?_;go_simp));exact yay (w:=WA.setRow w.heap.size (RV.cells ⟨n1,n2,Y⟩)) (aj (i:=2) (j:=3) (t:=55) rfl rfl rfl (by kernel_rfl) (by kernel_rfl) f1) rfl ⟨f2,.inl ⟨_,cY,rfl,oF,tF,HO.out.1,HM.out.1,HO.out.2⟩⟩
  have f0:decide (s3.bad=false/\s3.l=[])=false:=yad he;have hno:=uu T1 T2 T3 (.inl (by
   cases hb:s3.bad with
   | true=>exact .inl rfl
   | false=>exact .inr (ycj.2 (fun h=>he ⟨hb,h⟩))))
  obtain⟨f1,f2⟩:=hfin bG.cells;clear he;go_wp2_with (refine zSr rfl hrz ?_;go_simp);refine yay (w:=WA.setRow w.heap.size bG.cells) (aj (i:=2) (j:=3) (t:=55) rfl rfl rfl (by kernel_rfl) (by kernel_rfl) f1) rfl ⟨f2,.inr ⟨rfl,hno⟩⟩
 have hno:=uu T1 T2 T3 (.inr nY);obtain⟨f1,f2⟩:=hfin bG.cells;go_wp2_with (refine zSr rfl hrz ?_;go_simp);refine yay (w:=WA.setRow w.heap.size bG.cells) (aj (i:=2) (j:=3) (t:=55) rfl rfl rfl (by kernel_rfl) (by kernel_rfl) f1) rfl ⟨f2,.inr ⟨rfl,hno⟩⟩
open Go.ChangeShapes Go.WideShapes Go.Deep
def bQ (r:RV)(c:OC)(r':RV)(c':OC):Bool:=decide (r.cl=r'.cl)&&decide (r.nu=r'.nu)&&bg r.op c r'.op c'
theorem qF(r r':RV)(c c':OC)(w:World)(h:OpAt w r.op c)(h':OpAt w r'.op c') :
  Calls Tryz.prog 63 #[r.val,r'.val] w (GivesB (bQ r c r' c') w):=by
 have hb0:Below w.heap.size w ((w.alloc r.box).alloc r'.box):=cu w _ _;obtain⟨k1,k2⟩:=dh w r.box r'.box;have hsame:=rH r.op r'.op c c' _ (h.later hb0) (h'.later hb0);unfold RV.box RV.cells at hb0 k1 k2 hsame;unfold OV.val at hsame;unfold RV.val RV.cells;by_cases e1:r.cl=r'.cl
 case neg=>
  have f1:(r.cl==r'.cl)=false:=by simp[e1]
  have Hs:Hid (bQ r c r' c'=false):=Lib.hid (by unfold bQ;rw[yad e1];simp);clear e1 hsame;go_in;go_wp2_with fail;go_ret;exact⟨by rw[Hs.out];rfl,hb0⟩
 have f1:(r.cl==r'.cl)=true:=by simp[e1]
 by_cases e2:r.nu=r'.nu
 case neg=>
  have f2:(r.nu==r'.nu)=false:=by simp[e2]
  have Hs:Hid (bQ r c r' c'=false):=Lib.hid (by unfold bQ;rw[yad e2];simp);clear e1 e2 hsame;go_in;go_wp2_with fail;go_ret;exact⟨by rw[Hs.out];rfl,hb0⟩
 have f2:(r.nu==r'.nu)=true:=by simp[e2]
 have Hs:Hid (bQ r c r' c'=bg r.op c r'.op c'):=Lib.hid (by unfold bQ;rw[yaa e1,yaa e2];simp);clear e1 e2;go_in;go_wp2_with fail;refine hsame.mono ?_;rintro e w1 ⟨rfl,hb1⟩;rw[<-Hs.out];go_wp2_with fail;go_ret;exact⟨rfl,hb0.trans (hb1.mono hb0.size)⟩
theorem vO(r r':RV)(c c':OC)(w:World)(h:OpAt w r.op c)(h':OpAt w r'.op c') :
  Calls Tryz.prog 138 #[r.val,r'.val] w (GivesB (bQ r c r' c') w):=by
 have hb0:Below w.heap.size w ((w.alloc r.box).alloc r'.box):=cu w _ _;obtain⟨k1,k2⟩:=dh w r.box r'.box;have hsame:=yU r.op r'.op c c' _ (h.later hb0) (h'.later hb0);unfold RV.box RV.cells at hb0 k1 k2 hsame;unfold OV.val at hsame;unfold RV.val RV.cells;by_cases e1:r.cl=r'.cl
 case neg=>
  have f1:(r.cl==r'.cl)=false:=by simp[e1]
  have Hs:Hid (bQ r c r' c'=false):=Lib.hid (by unfold bQ;rw[yad e1];simp);clear e1 hsame;go_in;go_wp2_with fail;go_ret;exact⟨by rw[Hs.out];rfl,hb0⟩
 have f1:(r.cl==r'.cl)=true:=by simp[e1]
 by_cases e2:r.nu=r'.nu
 case neg=>
  have f2:(r.nu==r'.nu)=false:=by simp[e2]
  have Hs:Hid (bQ r c r' c'=false):=Lib.hid (by unfold bQ;rw[yad e2];simp);clear e1 e2 hsame;go_in;go_wp2_with fail;go_ret;exact⟨by rw[Hs.out];rfl,hb0⟩
 have f2:(r.nu==r'.nu)=true:=by simp[e2]
 have Hs:Hid (bQ r c r' c'=bg r.op c r'.op c'):=Lib.hid (by unfold bQ;rw[yaa e1,yaa e2];simp);clear e1 e2;go_in;go_wp2_with fail;refine hsame.mono ?_;rintro e w1 ⟨rfl,hb1⟩;rw[<-Hs.out];go_wp2_with fail;go_ret;exact⟨rfl,hb0.trans (hb1.mono hb0.size)⟩
theorem U64R.of{p:RP}(h:FitP p):U64R p.1:=⟨h.c0,h.c1,h.n0,h.n1⟩
section
variable {H:Type} {enc:TypeId×Value->H} {W:World}
end
