/-
  A part of the proof.
-/
import Derived.Test.YtfmmandlmbcncaaGreatDoorKbbw
import Derived.Test.YtfmmandlmbcncaaGreatDoorKbbi
set_option maxHeartbeats 40000000
namespace Go.Proofs.YtfmmandlmbcncaaGreatDoor.Msg
open Go.RowKit Go.Lib Go.Proofs.YtfmmandlmbcncaaGreatDoor.Mem Go.Proofs.YtfmmandlmbcncaaGreatDoor.Tlv
open Go.ChangeShapes Go.WideShapes Go.Deep
theorem flatT_at {α:Type}:∀(Ts:List (List α)) (j:Nat) (x:α),Ts.flatten[j]?=some x→∃(i:Nat) (T:List α) (r:Nat),Ts[i]?=some T∧T[r]?=some x∧j=(Ts.take i).flatten.length+r
 | [],j,x,h=>by simp at h
 | T::Ts,j,x,h=>by
  rw[List.flatten_cons] at h
  by_cases hj:j<T.length
  ·rw[List.getElem?_append_left hj] at h
   exact⟨0,T,j,rfl,h,by simp⟩
  rw[List.getElem?_append_right (by omega)] at h
  obtain⟨i,T',r,h1,h2,h3⟩:=flatT_at Ts _ x h
  exact⟨i+1,T',r,by simpa using h1,h2,by rw[List.take_succ_cons,List.flatten_cons,List.length_append];omega⟩
section
variable {H:Type} {enc:TypeId×Value→H} {P:Program} {W:World}
theorem leaves_many {t:TypeId}{fs:Array Field}(Ts:List (List TypeId))(ht:P.underlying t=some (.struct fs))(hlen:fs.size=Ts.length)
  (hB:(List.range Ts.length).all (fun i=>match fs[i]?,Ts[i]? with | some f,some T=>f.offset==(Ts.take i).flatten.length&&P.cellsOf f.type==T.length | _,_=>false)=true) (hC:P.cellsOf t=Ts.flatten.length)
  (hL:∀(i:Nat) (f:Field) (T:List TypeId),fs[i]?=some f→Ts[i]?=some T→T=[f.type]∨∀(fuel:Nat) (cs:List Value) (x:DataW H×List MemPlace),DataW.trod enc P W 0 (fun _=>true) true fuel f.type cs=some x→Leaves enc P W T cs)
  {fuel:Nat} {cs:List Value} {x:DataW H×List MemPlace} (h:DataW.trod enc P W 0 (fun _=>true) true fuel t cs=some x):Leaves enc P W Ts.flatten cs:=by
 obtain⟨ys,n',hn',hy,hl,hyl,hf⟩:=DataW.trod_struct ht h
 refine⟨by rw[hl,hC],fun j τ hτ=>?_⟩
 obtain⟨i,T,r,h1,h2,rfl⟩:=flatT_at Ts j τ hτ
 have hi:i<Ts.length:=(List.getElem?_eq_some_iff.1 h1).1
 have hr:r<T.length:=(List.getElem?_eq_some_iff.1 h2).1
 obtain⟨f,hfi⟩:∃f,fs[i]?=some f:=⟨_,Array.getElem?_eq_getElem (by omega)⟩
 have hb:=List.all_eq_true.1 hB i (List.mem_range.2 hi)
 rw[hfi,h1] at hb
 simp only[Bool.and_eq_true,beq_iff_eq] at hb
 obtain⟨ho,hk⟩:=hb
 have hg:=hf i f hfi
 have hyi:ys[i]?=some (ys[i]'(by omega)):=List.getElem?_eq_getElem (by omega)
 rw[hyi] at hg
 have hjlt:(Ts.take i).flatten.length+r<cs.length:=by rw[hl,hC];exact (List.getElem?_eq_some_iff.1 hτ).1
 have key:Leaves enc P W T ((cs.drop f.offset).take (P.cellsOf f.type)):=by
  rcases hL i f T hfi h1 with rfl | hh
  ·have hr0:r=0:=by simpa using hr
   have hk1:P.cellsOf f.type=1:=hk
   have ht1:(cs.drop f.offset).take (P.cellsOf f.type)=[cs[f.offset]'(by rw[ho];omega)]:=by rw[hk1];exact take_one (by rw[ho];omega)
   rw[ht1] at hg ⊢
   refine⟨rfl,fun j τ' hj=>?_⟩
   match j,hj with
   | 0,hj=>cases Option.some.inj hj;exact⟨_,n',_,rfl,hg⟩
  exact hh _ _ _ hg
 obtain⟨v,n,y,hv,hy2⟩:=key.2 r τ h2
 refine⟨v,n,y,?_,hy2⟩
 rw[List.getElem?_take] at hv
 split at hv
 ·rw[List.getElem?_drop,ho] at hv
  exact hv
 cases hv
end
theorem nums_of (zs:List Int)(h:∀z∈zs,0≤z∧z<18446744073709551616):∃l:List Nat,zs.map (Value.int .u64)=u64V l∧∀n∈l,n<18446744073709551616:=by
 refine⟨zs.map Int.toNat,?_,fun n hn=>?_⟩
 ·unfold u64V
  rw[List.map_map]
  refine List.map_congr_left (fun z hz=>?_)
  have:=h z hz
  simp only[Function.comp,Int.toNat_of_nonneg this.1]
 obtain⟨z,hz,rfl⟩:=List.mem_map.1 hn
 have:=h z hz
 omega
def msgTs:List (List TypeId):=[[53],[22],[22],[3],[22],[22],(22::22::opTs),[27,4,37,34],[22],[22],[22],[34],[56],[22],[4],[57]]
section
variable {H:Type} {enc:TypeId×Value→H} {W:World}
set_option maxRecDepth 100000 in
theorem msg_leaves (fuel:Nat)(cs:List Value)(x:DataW H×List MemPlace)(h:DataW.trod enc Tryz.prog W 0 (fun _=>true) true fuel 59 cs=some x):Leaves enc Tryz.prog W msgTs.flatten cs:=by
 refine leaves_many msgTs Tryz.underlying59 (by kernel_rfl) (by kernel_rfl) (by kernel_rfl) (fun i f T hf hT=>?_) h
 match i,hf,hT with
 | 0,hf,hT=>cases Option.some.inj hf;cases Option.some.inj hT;exact .inl rfl
 | 1,hf,hT=>cases Option.some.inj hf;cases Option.some.inj hT;exact .inl rfl
 | 2,hf,hT=>cases Option.some.inj hf;cases Option.some.inj hT;exact .inl rfl
 | 3,hf,hT=>cases Option.some.inj hf;cases Option.some.inj hT;exact .inl rfl
 | 4,hf,hT=>cases Option.some.inj hf;cases Option.some.inj hT;exact .inl rfl
 | 5,hf,hT=>cases Option.some.inj hf;cases Option.some.inj hT;exact .inl rfl
 | 6,hf,hT=>cases Option.some.inj hf;cases Option.some.inj hT;exact .inr req_leaves
 | 7,hf,hT=>cases Option.some.inj hf;cases Option.some.inj hT;exact .inr res_leaves
 | 8,hf,hT=>cases Option.some.inj hf;cases Option.some.inj hT;exact .inl rfl
 | 9,hf,hT=>cases Option.some.inj hf;cases Option.some.inj hT;exact .inl rfl
 | 10,hf,hT=>cases Option.some.inj hf;cases Option.some.inj hT;exact .inl rfl
 | 11,hf,hT=>cases Option.some.inj hf;cases Option.some.inj hT;exact .inl rfl
 | 12,hf,hT=>cases Option.some.inj hf;cases Option.some.inj hT;exact .inl rfl
 | 13,hf,hT=>cases Option.some.inj hf;cases Option.some.inj hT;exact .inl rfl
 | 14,hf,hT=>cases Option.some.inj hf;cases Option.some.inj hT;exact .inl rfl
 | 15,hf,hT=>cases Option.some.inj hf;cases Option.some.inj hT;exact .inl rfl
 | i+16,hf,hT=>have:=(List.getElem?_eq_some_iff.1 hT).1;simp[msgTs] at this;omega
theorem leaves_sub {ts:List TypeId}{cs:List Value}(h:Leaves enc Tryz.prog W ts cs)(o n:Nat):Leaves enc Tryz.prog W ((ts.drop o).take n) ((cs.drop o).take n):=by
 refine⟨by rw[List.length_take,List.length_take,List.length_drop,List.length_drop,h.1],fun j τ hj=>?_⟩
 rw[List.getElem?_take] at hj
 split at hj
 ·rename_i hjn
  rw[List.getElem?_drop] at hj
  obtain⟨v,n',y,hv,hy⟩:=h.2 _ τ hj
  refine⟨v,n',y,?_,hy⟩
  rw[List.getElem?_take,if_pos hjn,List.getElem?_drop]
  exact hv
 cases hj
theorem sub_at {cs l:List Value}{o n:Nat}(h:l=(cs.drop o).take n)(k:Nat)(hk:k<n):l[k]?=cs[o+k]?:=by
 rw[h,List.getElem?_take,if_pos hk,List.getElem?_drop]
set_option maxRecDepth 100000 in
theorem msg_dec (cs:List Value)(h:Leaves enc Tryz.prog W msgTs.flatten cs):∃(m:MV) (c:MC),MRd W m c∧U64M m c∧m.cells.toList=cs:=by
 obtain⟨v0,n0,y0,c0,d0⟩:=h.2 0 53 rfl
 obtain⟨v1,n1,y1,c1,d1⟩:=h.2 1 22 rfl
 obtain⟨v2,n2,y2,c2,d2⟩:=h.2 2 22 rfl
 obtain⟨v3,n3,y3,c3,d3⟩:=h.2 3 3 rfl
 obtain⟨v4,n4,y4,c4,d4⟩:=h.2 4 22 rfl
 obtain⟨v5,n5,y5,c5,d5⟩:=h.2 5 22 rfl
 obtain⟨v6,n6,y6,c6,d6⟩:=h.2 6 22 rfl
 obtain⟨v7,n7,y7,c7,d7⟩:=h.2 7 22 rfl
 obtain⟨v19,n19,y19,c19,d19⟩:=h.2 19 22 rfl
 obtain⟨v20,n20,y20,c20,d20⟩:=h.2 20 22 rfl
 obtain⟨v21,n21,y21,c21,d21⟩:=h.2 21 22 rfl
 obtain⟨v22,n22,y22,c22,d22⟩:=h.2 22 34 rfl
 obtain⟨v23,n23,y23,c23,d23⟩:=h.2 23 56 rfl
 obtain⟨v24,n24,y24,c24,d24⟩:=h.2 24 22 rfl
 obtain⟨v25,n25,y25,c25,d25⟩:=h.2 25 4 rfl
 obtain⟨v26,n26,y26,c26,d26⟩:=h.2 26 57 rfl
 obtain⟨z0,e0,-,w0⟩:=DataW.trod_int (k:=.i64) Tryz.underlying53 d0
 obtain rfl:=List.head_eq_of_cons_eq e0
 obtain⟨z1,e1,-,w1⟩:=DataW.trod_int (k:=.u64) Tryz.underlying22 d1
 obtain rfl:=List.head_eq_of_cons_eq e1
 obtain⟨z2,e2,-,w2⟩:=DataW.trod_int (k:=.u64) Tryz.underlying22 d2
 obtain rfl:=List.head_eq_of_cons_eq e2
 obtain⟨z3,e3,-,w3⟩:=DataW.trod_int (k:=.i64) Tryz.underlying3 d3
 obtain rfl:=List.head_eq_of_cons_eq e3
 obtain⟨z4,e4,-,w4⟩:=DataW.trod_int (k:=.u64) Tryz.underlying22 d4
 obtain rfl:=List.head_eq_of_cons_eq e4
 obtain⟨z5,e5,-,w5⟩:=DataW.trod_int (k:=.u64) Tryz.underlying22 d5
 obtain rfl:=List.head_eq_of_cons_eq e5
 obtain⟨z6,e6,-,w6⟩:=DataW.trod_int (k:=.u64) Tryz.underlying22 d6
 obtain rfl:=List.head_eq_of_cons_eq e6
 obtain⟨z7,e7,-,w7⟩:=DataW.trod_int (k:=.u64) Tryz.underlying22 d7
 obtain rfl:=List.head_eq_of_cons_eq e7
 obtain⟨z19,e19,-,w19⟩:=DataW.trod_int (k:=.u64) Tryz.underlying22 d19
 obtain rfl:=List.head_eq_of_cons_eq e19
 obtain⟨z20,e20,-,w20⟩:=DataW.trod_int (k:=.u64) Tryz.underlying22 d20
 obtain rfl:=List.head_eq_of_cons_eq e20
 obtain⟨z21,e21,-,w21⟩:=DataW.trod_int (k:=.u64) Tryz.underlying22 d21
 obtain rfl:=List.head_eq_of_cons_eq e21
 obtain⟨z24,e24,-,w24⟩:=DataW.trod_int (k:=.u64) Tryz.underlying22 d24
 obtain rfl:=List.head_eq_of_cons_eq e24
 obtain⟨b25,e25,-⟩:=DataW.trod_bool Tryz.underlying4 d25
 obtain rfl:=List.head_eq_of_cons_eq e25
 obtain⟨p,⟨hpo,hpf⟩,hpc⟩:=req_dec _ (leaves_sub h 6 9)
 obtain⟨q,qc,hq,hqc⟩:=res_dec 0 (leaves_sub h 15 4) (fun j=>by rw[Nat.zero_add];rfl)
 obtain⟨so,sn,sc,zs,rfl,hs,hsz⟩:=rd_ints (e:=5) (k:=.u8) Tryz.underlying34 Tryz.underlying5 (by kernel_rfl) d22
 obtain⟨sb,hsb⟩:=bytes_of zs (fun z h=>wf_u8 (hsz z h))
 rw[hsb] at hs
 obtain⟨lo,ln,lc,ll,rfl,hll,hlg,hlr⟩:=open_rows (fun p:RP=>p.1.cells.toList) (fun p=>OpRd W p.1.op p.2∧FitP p) 9 (fun _=>rfl) (by decide) (ts:=22::22::opTs) Tryz.underlying56 (by kernel_rfl) req_leaves req_dec d23
 obtain⟨ho,hn,hc,hz,rfl,hh,hhz⟩:=rd_ints (e:=22) (k:=.u64) Tryz.underlying57 Tryz.underlying22 (by kernel_rfl) d26
 obtain⟨hl,hhl,hhb⟩:=nums_of hz (fun z h=>wf_u64 (hhz z h))
 rw[hhl] at hh
 have hlr2:Rd W 9 lo ln lc (rpV ll):=by
  have e:rpV ll=ll.flatMap (fun p:RP=>p.1.cells.toList):=by simp[rpV,rqV,List.flatMap_map]
  rw[e];exact hlr
 refine⟨⟨z0,z1,z2,z3,z4,z5,p.1,q,z19,z20,z21,so,sn,sc,lo,ln,lc,z24,b25,ho,hn,hc⟩,⟨p.2,qc,sb,ll,hl⟩,⟨hpo,hq,hs,hlr2,fun p hp=>(hlg p hp).1,hh⟩,⟨wf_u64 w1,wf_u64 w2,wf_u64 w4,wf_u64 w5,wf_u64 w19,wf_u64 w20,wf_u64 w21,wf_u64 w24,U64R.of hpf,fun p hp=>U64R.of (hlg p hp).2,hhb⟩,?_⟩
 have hlen:cs.length=27:=h.1
 refine List.ext_getElem? (fun j=>?_)
 match j with
 | 0=>exact c0.symm
 | 1=>exact c1.symm
 | 2=>exact c2.symm
 | 3=>exact c3.symm
 | 4=>exact c4.symm
 | 5=>exact c5.symm
 | 6=>exact sub_at hpc 0 (by decide)
 | 7=>exact sub_at hpc 1 (by decide)
 | 8=>exact sub_at hpc 2 (by decide)
 | 9=>exact sub_at hpc 3 (by decide)
 | 10=>exact sub_at hpc 4 (by decide)
 | 11=>exact sub_at hpc 5 (by decide)
 | 12=>exact sub_at hpc 6 (by decide)
 | 13=>exact sub_at hpc 7 (by decide)
 | 14=>exact sub_at hpc 8 (by decide)
 | 15=>exact (sub_at (l:=(cs.drop 15).take 4) rfl 0 (by decide)).symm.trans (by have:=hqc 0 _ rfl;rw[Nat.zero_add] at this;exact this) |>.symm
 | 16=>exact (sub_at (l:=(cs.drop 15).take 4) rfl 1 (by decide)).symm.trans (by have:=hqc 1 _ rfl;rw[Nat.zero_add] at this;exact this) |>.symm
 | 17=>exact (sub_at (l:=(cs.drop 15).take 4) rfl 2 (by decide)).symm.trans (by have:=hqc 2 _ rfl;rw[Nat.zero_add] at this;exact this) |>.symm
 | 18=>exact (sub_at (l:=(cs.drop 15).take 4) rfl 3 (by decide)).symm.trans (by have:=hqc 3 _ rfl;rw[Nat.zero_add] at this;exact this) |>.symm
 | 19=>exact c19.symm
 | 20=>exact c20.symm
 | 21=>exact c21.symm
 | 22=>exact c22.symm
 | 23=>exact c23.symm
 | 24=>exact c24.symm
 | 25=>exact c25.symm
 | 26=>exact c26.symm
 | j+27=>rw[List.getElem?_eq_none (by simp[MV.cells]),List.getElem?_eq_none (by omega)]
set_option maxRecDepth 100000 in
theorem msg_open {v:Value}{base:Nat}{d:DataW H}{ps:List MemPlace}(hv:Value.okWide Tryz.prog W .any base 59 v)(h:DataW.Trod enc Tryz.prog W 0 (fun _=>true) true 59 v d ps):∃(m:MV) (c:MC),v=m.val∧MRd W m c∧U64M m c:=by
 obtain⟨cs,rfl,_⟩:=okWide_struct Tryz.underlying59 hv
 obtain⟨fuel,hf⟩:=h
 have hL:=msg_leaves fuel _ _ hf
 obtain⟨m,c,hr,hu,hc⟩:=msg_dec _ hL
 refine⟨m,c,?_,hr,hu⟩
 show Value.agg cs=.agg _
 congr 1
 exact (Array.toList_inj.1 hc).symm
end
end Go.Proofs.YtfmmandlmbcncaaGreatDoor.Msg
