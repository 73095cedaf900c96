/-A part of the proof.-/
import Derived.Laws.EntriesVeiled
import Derived.Lib.SliceRun
import Derived.Test.YtfmmandlmbcncaaGreatDoorKfas
set_option maxHeartbeats 40000000
set_option maxRecDepth 100000
set_option linter.all false
namespace Go.Proofs.YtfmmandlmbcncaaGreatDoor
namespace Msg
open Go.RowKit Go.Lib Mem
variable{B b i j n ob pb sb t0 t1 t2 t3 t4 t5 t6 t7 tb:Nat}{W W' w wr:World}{fo:Value}{l:List UInt8}{t:Int}
def mapM (k:Int):List UInt8:=
 if k=1 then [113] else if k=2 then [99,117,114] else if k=3 then [113,97,109] else if k=4 then [102,97] else if k=6 then [102,101] else if k=7 then [110,102,101] else if k=8 then [101] else if k=9 then [102,111] else if k=10 then [102,111,119,101] else if k=11 then [102,97] else []
def gm (k:Int)(whole:Bool):List UInt8:=
 mapM k++(if k=10/\whole=true then [109,98,115,108] else [])++(if k=7\/k=8\/k=12 then [98,115,108,109,118] else if k=5 then [109,118] else if k=2\/k=3\/k=4\/k=6\/k=10\/k=11 then [118] else [])
def jZ:Array MapEntry:=#[{ key:=.int .i64 1,val:=.agg #[.string ⟨#[113]⟩],born:=0 },{ key:=.int .i64 2,val:=.agg #[.string ⟨#[99,117,114]⟩],born:=1 },{ key:=.int .i64 3,val:=.agg #[.string ⟨#[113,97,109]⟩],born:=2 },{ key:=.int .i64 4,val:=.agg #[.string ⟨#[102,97]⟩],born:=3 },{ key:=.int .i64 6,val:=.agg #[.string ⟨#[102,101]⟩],born:=4 },{ key:=.int .i64 7,val:=.agg #[.string ⟨#[110,102,101]⟩],born:=5 },{ key:=.int .i64 8,val:=.agg #[.string ⟨#[101]⟩],born:=6 },{ key:=.int .i64 9,val:=.agg #[.string ⟨#[102,111]⟩],born:=7 },{ key:=.int .i64 10,val:=.agg #[.string ⟨#[102,111,119,101]⟩],born:=8 },{ key:=.int .i64 11,val:=.agg #[.string ⟨#[102,97]⟩],born:=9 }]
theorem Gv(k:Int):∃r,Instr.findNow (.int .i64) (.int .i64 k) jZ.toList 0=some r/\(r.map (·.2)).getD (.agg #[.string ⟨#[]⟩])=.agg #[.string ⟨(mapM k).toArray⟩]:=by
 by_cases h:k=1\/k=2\/k=3\/k=4\/k=6\/k=7\/k=8\/k=9\/k=10\/k=11
 ·rcases h with rfl|rfl|rfl|rfl|rfl|rfl|rfl|rfl|rfl|rfl<;>exact⟨_,rfl,rfl⟩
 simp only[not_or] at h;have e:∀j,k≠j->(k==j)=false:=fun _ h=>yap.2 h;exact⟨none,by simp[jZ,Instr.findNow,Instr.sameNow,e,h],by simp[mapM,h]⟩
theorem rP(k:Int)(whole:Bool)(w:World):Calls Tryz.prog 112 #[.int .i64 k,.bool whole] w fun e w'=>e=.returned (.string ⟨(gm k whole).toArray⟩)/\Below w.heap.size w w':=by
 have hm:Tryz.prog.underlying 238=some (.map 53 202):=Tryz.underlying238;have hk:Tryz.prog.underlying 53=some (.int .i64):=Tryz.underlying53;have h0:Sem.run Tryz.prog (Instr.makeMap 238 none) w=.ok (.map (some w.heap.size)) (w.alloc (.map (tkF jZ 0) 0)):=by simp[Instr.makeMap];rfl
 have r0:=fH jZ w hm hk 0 1 (.agg #[.string ⟨#[113]⟩]);have r1:=fH jZ w hm hk 1 2 (.agg #[.string ⟨#[99,117,114]⟩]);have r2:=fH jZ w hm hk 2 3 (.agg #[.string ⟨#[113,97,109]⟩]);have r3:=fH jZ w hm hk 3 4 (.agg #[.string ⟨#[102,97]⟩]);have r4:=fH jZ w hm hk 4 6 (.agg #[.string ⟨#[102,101]⟩]);have r5:=fH jZ w hm hk 5 7 (.agg #[.string ⟨#[110,102,101]⟩]);have r6:=fH jZ w hm hk 6 8 (.agg #[.string ⟨#[101]⟩]);have r7:=fH jZ w hm hk 7 9 (.agg #[.string ⟨#[102,111]⟩]);have r8:=fH jZ w hm hk 8 10 (.agg #[.string ⟨#[102,111,119,101]⟩]);have r9:=fH jZ w hm hk 9 11 (.agg #[.string ⟨#[102,97]⟩]);obtain⟨r,hr,hv⟩:=Gv k;have hl:=wR w _ _ _ .i64 (tkF jZ 10) 10 k (.agg #[.string ⟨#[]⟩]) hm hk (by kernel_rfl) hr;rw[hv] at hl;have hf:∀(s:ByteArray) (W:World),Sem.run Tryz.prog (Instr.field 202 (.agg #[.string s]) 0) W=.ok (.string s) W:=fun _ _=>by kernel_rfl
 have hb:=bN w (.map (tkF jZ 10) 10);clear hr hv hm hk;by_cases h:k=1\/k=2\/k=3\/k=4\/k=5\/k=6\/k=7\/k=8\/k=9\/k=10\/k=11\/k=12
 ·rcases h with rfl|rfl|rfl|rfl|rfl|rfl|rfl|rfl|rfl|rfl|rfl|rfl<;>cases whole
  all_goals
   go_in;go_wp2_with fail;go_ret;exact⟨by rfl,hb⟩
 simp only[not_or] at h;have hE:Hid (gm k whole=mapM k):=hid (by simp[gm,h]);obtain⟨g1,g2,g3,g4,g5,g6,g7,g8,g9,g10,g11,g12⟩:=h;rw[<-ne_eq,<-yap] at g1 g2 g3 g4 g5 g6 g7 g8 g9 g10 g11 g12;go_in;go_wp2_with fail;go_ret;exact⟨by rw[hE.out];rfl,hb⟩
structure FV where
 l:Int
 kp:Value
 pt:Value
 tk:Value
def FV.cells (f:FV):Array Value:=#[.int .i32 f.l,f.kp,f.pt,f.tk]
def FV.val (f:FV):Value:=.agg f.cells
def FV.box (f:FV):Obj:=.cells f.cells 171
def fV (l:List FV):List Value:=l.flatMap fun f=>f.cells.toList
theorem sW(l:List FV):(fV l).length=l.length*4:=by
 induction l with
 | nil=>rfl
 | cons x l ih=>simp only[fV,yaH,yab,yaF] at ih ⊢;rw[ih];simp[FV.cells];omega
theorem RG(a b:List FV):fV (a++b)=fV a++fV b:=by simp[fV]
theorem yR(l:List FV)(k:Nat)(y:FV)(h:l[k]?=some y)(i:Nat)(hi:i<4):(fV l)[k*4+i]?=y.cells[i]?:=by
 induction l generalizing k with
 | nil=>simp at h
 | cons z xs ih=>
  have hz:z.cells.toList.length=4:=by simp[FV.cells]
  cases k with
  | zero=>
   rw[ybx,ybN] at h;subst h;simp only[fV,yaH];rw[ybe (by omega)];simp
  | succ k=>
   rw[ybd] at h;have h1:=ih k h;simp only[fV,yaH] at h1 ⊢;rw[ybB (by omega),hz,<-h1]
   congr 1
   omega
theorem qh{f:FV}(h:W.heap[B]?=some f.box):W.cell? ⟨B,0,none⟩=some (.int .i32 f.l)/\W.cell? ⟨B,1,none⟩=some f.kp/\W.cell? ⟨B,2,none⟩=some f.pt/\W.cell? ⟨B,3,none⟩=some f.tk/\∀i,W.frozen? ⟨B,i,none⟩=false:=by
 unfold FV.box FV.cells at h;simp[World.cell?,World.frozen?,h]
theorem Ik{f:Func}{tmps:Array Value}{r:FV}(hr:f.results=#[.cell i 171])(hp:tmps.getD i undef=.pointer (some ⟨b,0,none⟩))(h:W.heap[b]?=some r.box):(results f tmps).run Tryz.prog W=.ok r.val W:=by
 obtain⟨c0,c1,c2,c3,-⟩:=qh h;simp only[results,hr];have hp':tmps[i]?.getD undef=.pointer (some ⟨b,0,none⟩):=by simpa using hp
 unfold FV.val FV.cells;simp[hp',asAddr];go_simp
def fD (l:Int)(tb ob:Nat):FV:=⟨l,.func (.func 218) #[] #[.pointer (some ⟨ob,0,none⟩)],.func (.func 219) #[] #[.pointer (some ⟨tb,0,none⟩),.pointer (some ⟨ob,0,none⟩)],.func (.func 220) #[] #[.pointer (some ⟨tb,0,none⟩),.pointer (some ⟨ob,0,none⟩)]⟩
def plainAt (W:World)(t:Int)(fo:Value)(tb ob:Nat):Prop:=W.heap[tb]?=some (.cells #[.int .u8 t] 5)/\W.heap[ob]?=some (.cells #[fo] 251)
theorem plainAt.later(h:plainAt W t fo tb ob)(hb:Below W.heap.size W W'):plainAt W' t fo tb ob:=
 ⟨(hb.q h.1),(hb.q h.2)⟩
theorem jR(l t:Int)(ff:FuncId)(w:World):Calls Tryz.prog 163 #[.int .i32 l,.int .u8 t,(.func (.func ff) #[] #[])] w fun e w'=>e=.returned (fD l w.heap.size (w.heap.size+1)).val/\plainAt w' t (.func (.func ff) #[] #[]) w.heap.size (w.heap.size+1)/\Below w.heap.size w w'/\w'.heap.size=w.heap.size+3:=by
 go_in;go_wp2_with fail;generalize hg:((w.alloc _).alloc _).alloc _=W0;have e:((w.alloc (.cells #[.int .u8 t] 5)).alloc (.cells #[.func (.func ff) #[] #[]] 251)).alloc (fD l w.heap.size (w.heap.size+1)).box=W0:=by simp only[FV.box,FV.cells,fD];exact hg
 have k:=rO w (.cells #[.int .u8 t] 5) (.cells #[.func (.func ff) #[] #[]] 251) (fD l w.heap.size (w.heap.size+1)).box;have hb:=rW w (.cells #[.int .u8 t] 5) (.cells #[.func (.func ff) #[] #[]] 251) (fD l w.heap.size (w.heap.size+1)).box;rw[e] at k hb;obtain⟨k1,k2,k3⟩:=k;have hz:W0.heap.size=w.heap.size+3:=by rw[<-e];simp
 exact yay (Ik (i:=6) rfl rfl k3) rfl ⟨rfl,⟨k1,k2⟩,hb,hz⟩
def rZ:List FV:=[
 ⟨102,.func (.func 186) #[] #[],.func (.func 187) #[] #[],.func (.func 188) #[] #[]⟩,
 ⟨113,.func (.func 189) #[] #[],.func (.func 190) #[] #[],.func (.func 192) #[] #[]⟩,
 ⟨114,.func (.func 195) #[] #[],.func (.func 196) #[] #[],.func (.func 198) #[] #[]⟩,
 ⟨115,.func (.func 200) #[] #[],.func (.func 201) #[] #[],.func (.func 202) #[] #[]⟩,
 ⟨108,.func (.func 203) #[] #[],.func (.func 204) #[] #[],.func (.func 206) #[] #[]⟩,
 ⟨119,.func (.func 209) #[] #[],.func (.func 210) #[] #[],.func (.func 211) #[] #[]⟩,
 ⟨101,.func (.func 213) #[] #[],.func (.func 214) #[] #[],.func (.func 216) #[] #[]⟩]
theorem LD(w:World):Calls Tryz.prog 162 #[] w fun e w'=>e=.returned (.slice (some ⟨w.heap.size,0,none⟩) 7 7)/\w'.heap[w.heap.size]?=some (.cells (fV rZ).toArray 171)/\Below w.heap.size w w':=by
 go_in;go_wp2_with fail;generalize hg:w.alloc _=W0;have e:w.alloc (.cells (fV rZ).toArray 171)=W0:=by simp only[fV,rZ,FV.cells,yaH,ybn,ybE,ybO,yaD];exact hg
 have hb:=bE e
 have hk:W0.heap[w.heap.size]?=some (.cells (fV rZ).toArray 171):=aE e
 clear hg e;go_ret;exact⟨rfl,hk,hb⟩
def allL (t0 t1 t2 t3 t4 t5 t6 t7:Nat):List FV:=[
 fD 118 t0 (t0+1),
 fD 110 t1 (t1+1),
 ⟨102,.func (.func 186) #[] #[],.func (.func 187) #[] #[],.func (.func 188) #[] #[]⟩,
 fD 99 t2 (t2+1),
 fD 117 t3 (t3+1),
 ⟨113,.func (.func 189) #[] #[],.func (.func 190) #[] #[],.func (.func 192) #[] #[]⟩,
 ⟨114,.func (.func 195) #[] #[],.func (.func 196) #[] #[],.func (.func 198) #[] #[]⟩,
 fD 97 t4 (t4+1),
 fD 109 t5 (t5+1),
 fD 98 t6 (t6+1),
 ⟨115,.func (.func 200) #[] #[],.func (.func 201) #[] #[],.func (.func 202) #[] #[]⟩,
 ⟨108,.func (.func 203) #[] #[],.func (.func 204) #[] #[],.func (.func 206) #[] #[]⟩,
 fD 111 t7 (t7+1),
 ⟨119,.func (.func 209) #[] #[],.func (.func 210) #[] #[],.func (.func 211) #[] #[]⟩,
 ⟨101,.func (.func 213) #[] #[],.func (.func 214) #[] #[],.func (.func 216) #[] #[]⟩]
structure AllAt (t0 t1 t2 t3 t4 t5 t6 t7:Nat)(W:World):Prop where
 a0:plainAt W 2 (.func (.func 164) #[] #[]) t0 (t0+1)
 a1:plainAt W 3 (.func (.func 165) #[] #[]) t1 (t1+1)
 a2:plainAt W 5 (.func (.func 166) #[] #[]) t2 (t2+1)
 a3:plainAt W 6 (.func (.func 167) #[] #[]) t3 (t3+1)
 a4:plainAt W 9 (.func (.func 168) #[] #[]) t4 (t4+1)
 a5:plainAt W 10 (.func (.func 169) #[] #[]) t5 (t5+1)
 a6:plainAt W 11 (.func (.func 170) #[] #[]) t6 (t6+1)
 a7:plainAt W 14 (.func (.func 171) #[] #[]) t7 (t7+1)
theorem AllAt.later(h:AllAt t0 t1 t2 t3 t4 t5 t6 t7 W)(hb:Below W.heap.size W W'):AllAt t0 t1 t2 t3 t4 t5 t6 t7 W':=
 ⟨h.a0.later hb,h.a1.later hb,h.a2.later hb,h.a3.later hb,h.a4.later hb,h.a5.later hb,h.a6.later hb,h.a7.later hb⟩
def PRow (pb:Nat)(W:World):Prop:=W.heap[pb]?=some (.cells (fV rZ).toArray 171)
theorem PRow.step(h:PRow pb W)(hb:Below W.heap.size W W'):PRow pb W':=hb.q h
theorem dE(h:PRow pb W)(j:Nat)(v:Value)(hv:(fV rZ)[j]?=some v):W.cell? ⟨pb,j,none⟩=some v:=by
 unfold PRow at h;simp[World.cell?,h,hv]
theorem Rk(w:World):Calls Tryz.prog 136 #[] w fun e w'=>∃b t0 t1 t2 t3 t4 t5 t6 t7,e=.returned (.slice (some ⟨b,0,none⟩) 15 15)/\w'.heap[b]?=some (.cells (fV (allL t0 t1 t2 t3 t4 t5 t6 t7)).toArray 171)/\AllAt t0 t1 t2 t3 t4 t5 t6 t7 w'/\Below w.heap.size w w'/\w.heap.size<=b:=by
 have hmo:=hmO
 go_in;go_wp2_with fail;refine (LD w).mono ?_;rintro e w1 ⟨rfl,hp,hb1⟩;obtain⟨pb,hpb⟩:∃pb,w.heap.size=pb:=⟨_,rfl⟩
 have s0:PRow pb w1.drew:=hpb▸hp;rw[hpb];clear hp;go_wp2_with fail;refine yaB (S:=PRow pb) hmo ?_;change wpAnyH _ _ _ _ _ _ _ _ (World.drew w1);replace hb1:=hb1.drew;generalize w1.drew=V0 at *;refine zp 2 (.slice (some ⟨pb,0,none⟩) 7 7) rfl (zp 3 (pp pb 0) rfl ?_);go_simp;refine zHa 4 (.agg #[.int .i32 102,.func (.func 186) #[] #[],.func (.func 187) #[] #[],.func (.func 188) #[] #[]]) rfl (by rintro w h;have c0:=dE h 0 _ rfl;have c1:=dE h 1 _ rfl;have c2:=dE h 2 _ rfl;have c3:=dE h 3 _ rfl;go_simp) s0 ?_;go_simp;refine zp 7 (.slice (some ⟨pb,0,none⟩) 7 7) rfl (zp 8 (pp pb 4) rfl ?_);go_simp;refine zHa 9 (.agg #[.int .i32 113,.func (.func 189) #[] #[],.func (.func 190) #[] #[],.func (.func 192) #[] #[]]) rfl (by rintro w h;have c0:=dE h 4 _ rfl;have c1:=dE h 5 _ rfl;have c2:=dE h 6 _ rfl;have c3:=dE h 7 _ rfl;go_simp) s0 ?_;go_simp;refine zp 10 (.slice (some ⟨pb,0,none⟩) 7 7) rfl (zp 11 (pp pb 8) rfl ?_);go_simp;refine zHa 12 (.agg #[.int .i32 114,.func (.func 195) #[] #[],.func (.func 196) #[] #[],.func (.func 198) #[] #[]]) rfl (by rintro w h;have c0:=dE h 8 _ rfl;have c1:=dE h 9 _ rfl;have c2:=dE h 10 _ rfl;have c3:=dE h 11 _ rfl;go_simp) s0 ?_;go_simp;refine zp 16 (.slice (some ⟨pb,0,none⟩) 7 7) rfl (zp 17 (pp pb 12) rfl ?_);go_simp;refine zHa 18 (.agg #[.int .i32 115,.func (.func 200) #[] #[],.func (.func 201) #[] #[],.func (.func 202) #[] #[]]) rfl (by rintro w h;have c0:=dE h 12 _ rfl;have c1:=dE h 13 _ rfl;have c2:=dE h 14 _ rfl;have c3:=dE h 15 _ rfl;go_simp) s0 ?_;go_simp;refine zp 19 (.slice (some ⟨pb,0,none⟩) 7 7) rfl (zp 20 (pp pb 16) rfl ?_);go_simp;refine zHa 21 (.agg #[.int .i32 108,.func (.func 203) #[] #[],.func (.func 204) #[] #[],.func (.func 206) #[] #[]]) rfl (by rintro w h;have c0:=dE h 16 _ rfl;have c1:=dE h 17 _ rfl;have c2:=dE h 18 _ rfl;have c3:=dE h 19 _ rfl;go_simp) s0 ?_;go_simp;refine zp 23 (.slice (some ⟨pb,0,none⟩) 7 7) rfl (zp 24 (pp pb 20) rfl ?_);go_simp;refine zHa 25 (.agg #[.int .i32 119,.func (.func 209) #[] #[],.func (.func 210) #[] #[],.func (.func 211) #[] #[]]) rfl (by rintro w h;have c0:=dE h 20 _ rfl;have c1:=dE h 21 _ rfl;have c2:=dE h 22 _ rfl;have c3:=dE h 23 _ rfl;go_simp) s0 ?_;go_simp;refine zp 26 (.slice (some ⟨pb,0,none⟩) 7 7) rfl (zp 27 (pp pb 24) rfl ?_);go_simp;refine zHa 28 (.agg #[.int .i32 101,.func (.func 213) #[] #[],.func (.func 214) #[] #[],.func (.func 216) #[] #[]]) rfl (by rintro w h;have c0:=dE h 24 _ rfl;have c1:=dE h 25 _ rfl;have c2:=dE h 26 _ rfl;have c3:=dE h 27 _ rfl;go_simp) s0 ?_;go_simp;refine zH1 0 rfl (fun K hK=>?_);go_simp;refine (jR 118 2 164 V0).mono ?_;rintro e V1 ⟨rfl,p0,k0,-⟩;have s1:=s0.step k0;obtain⟨t0,ht0⟩:∃t,V0.heap.size=t:=⟨_,rfl⟩
 rw[ht0] at p0;simp only[FV.val,FV.cells,fD,ht0];clear ht0;go_simp;refine hK _ _ ⟨s1,?_⟩;clear hK K;refine zH1 1 rfl (fun K hK=>?_);go_simp;refine (jR 110 3 165 V1).mono ?_;rintro e V2 ⟨rfl,p1,k1,-⟩;have s2:=s1.step k1;obtain⟨t1,ht1⟩:∃t,V1.heap.size=t:=⟨_,rfl⟩
 rw[ht1] at p1;simp only[FV.val,FV.cells,fD,ht1];clear ht1;go_simp;refine hK _ _ ⟨s2,?_⟩;clear hK K;refine zH1 5 rfl (fun K hK=>?_);go_simp;refine (jR 99 5 166 V2).mono ?_;rintro e V3 ⟨rfl,p2,k2,-⟩;have s3:=s2.step k2;obtain⟨t2,ht2⟩:∃t,V2.heap.size=t:=⟨_,rfl⟩
 rw[ht2] at p2;simp only[FV.val,FV.cells,fD,ht2];clear ht2;go_simp;refine hK _ _ ⟨s3,?_⟩;clear hK K;refine zH1 6 rfl (fun K hK=>?_);go_simp;refine (jR 117 6 167 V3).mono ?_;rintro e V4 ⟨rfl,p3,k3,-⟩;have s4:=s3.step k3;obtain⟨t3,ht3⟩:∃t,V3.heap.size=t:=⟨_,rfl⟩
 rw[ht3] at p3;simp only[FV.val,FV.cells,fD,ht3];clear ht3;go_simp;refine hK _ _ ⟨s4,?_⟩;clear hK K;refine zH1 13 rfl (fun K hK=>?_);go_simp;refine (jR 97 9 168 V4).mono ?_;rintro e V5 ⟨rfl,p4,k4,-⟩;have s5:=s4.step k4;obtain⟨t4,ht4⟩:∃t,V4.heap.size=t:=⟨_,rfl⟩
 rw[ht4] at p4;simp only[FV.val,FV.cells,fD,ht4];clear ht4;go_simp;refine hK _ _ ⟨s5,?_⟩;clear hK K;refine zH1 14 rfl (fun K hK=>?_);go_simp;refine (jR 109 10 169 V5).mono ?_;rintro e V6 ⟨rfl,p5,k5,-⟩;have s6:=s5.step k5;obtain⟨t5,ht5⟩:∃t,V5.heap.size=t:=⟨_,rfl⟩
 rw[ht5] at p5;simp only[FV.val,FV.cells,fD,ht5];clear ht5;go_simp;refine hK _ _ ⟨s6,?_⟩;clear hK K;refine zH1 15 rfl (fun K hK=>?_);go_simp;refine (jR 98 11 170 V6).mono ?_;rintro e V7 ⟨rfl,p6,k6,-⟩;have s7:=s6.step k6;obtain⟨t6,ht6⟩:∃t,V6.heap.size=t:=⟨_,rfl⟩
 rw[ht6] at p6;simp only[FV.val,FV.cells,fD,ht6];clear ht6;go_simp;refine hK _ _ ⟨s7,?_⟩;clear hK K;refine zH1 22 rfl (fun K hK=>?_);go_simp;refine (jR 111 14 171 V7).mono ?_;rintro e V8 ⟨rfl,p7,k7,-⟩;have s8:=s7.step k7;obtain⟨t7,ht7⟩:∃t,V7.heap.size=t:=⟨_,rfl⟩
 rw[ht7] at p7;simp only[FV.val,FV.cells,fD,ht7];clear ht7;go_simp;refine hK _ _ ⟨s8,?_⟩;clear hK K;refine zH1 29 rfl (fun K hK=>?_);go_simp;generalize hg:V8.alloc _=V9;have e:V8.alloc (.cells (fV (allL t0 t1 t2 t3 t4 t5 t6 t7)).toArray 171)=V9:=by simp only[fV,allL,fD,FV.cells,yaH,ybn,ybE,ybO,yaD];exact hg
 have hb9:=bE e
 have hk9:V9.heap[V8.heap.size]?=some (.cells (fV (allL t0 t1 t2 t3 t4 t5 t6 t7)).toArray 171):=aE e
 clear hg e;have s9:=s8.step hb9;refine hK _ _ ⟨s9,?_⟩;clear hK K;refine zp 30 (.slice (some ⟨V8.heap.size,0,none⟩) 15 15) rfl ?_;go_simp;refine zd ?_;have hA:AllAt t0 t1 t2 t3 t4 t5 t6 t7 V9:=⟨((((((((p0.later k1).later k2).later k3).later k4).later k5).later k6).later k7).later hb9),(((((((p1.later k2).later k3).later k4).later k5).later k6).later k7).later hb9),((((((p2.later k3).later k4).later k5).later k6).later k7).later hb9),(((((p3.later k4).later k5).later k6).later k7).later hb9),((((p4.later k5).later k6).later k7).later hb9),(((p5.later k6).later k7).later hb9),((p6.later k7).later hb9),(p7.later hb9)⟩
 have hB:Below w.heap.size w V9:=((((((((((hb1).trans (k0.mono (by have:=hb1.size; omega))).trans (k1.mono (by have:=hb1.size;have:=k0.size; omega))).trans (k2.mono (by have:=hb1.size;have:=k0.size;have:=k1.size; omega))).trans (k3.mono (by have:=hb1.size;have:=k0.size;have:=k1.size;have:=k2.size; omega))).trans (k4.mono (by have:=hb1.size;have:=k0.size;have:=k1.size;have:=k2.size;have:=k3.size; omega))).trans (k5.mono (by have:=hb1.size;have:=k0.size;have:=k1.size;have:=k2.size;have:=k3.size;have:=k4.size; omega))).trans (k6.mono (by have:=hb1.size;have:=k0.size;have:=k1.size;have:=k2.size;have:=k3.size;have:=k4.size;have:=k5.size; omega))).trans (k7.mono (by have:=hb1.size;have:=k0.size;have:=k1.size;have:=k2.size;have:=k3.size;have:=k4.size;have:=k5.size;have:=k6.size; omega))).trans (hb9.mono (by have:=hb1.size;have:=k0.size;have:=k1.size;have:=k2.size;have:=k3.size;have:=k4.size;have:=k5.size;have:=k6.size;have:=k7.size; omega)))
 have hsz:w.heap.size<=V8.heap.size:=by have:=hb1.size;have:=k0.size;have:=k1.size;have:=k2.size;have:=k3.size;have:=k4.size;have:=k5.size;have:=k6.size;have:=k7.size; omega
 go_wp2_with fail;go_ret;exact⟨_,t0,t1,t2,t3,t4,t5,t6,t7,rfl,hk9,hA,hB,hsz⟩
def qx (l:List UInt8)(x:Int):Bool:=l.any fun c=>(c.toNat:Int)==x
theorem Rn(l:List UInt8)(k:Nat)(c:UInt8)(x:Int)(h:l[k]?=some c)(h1:qx (l.take k) x=false)(h2:((c.toNat:Int)==x)=false):qx (l.take (k+1)) x=false:=by
 obtain⟨hl,e⟩:=yao.1 h;unfold qx at h1 ⊢;rw[yau hl,List.any_append,h1,e];simp[h2]
theorem Nq(l:List UInt8)(k:Nat)(c:UInt8)(x:Int)(h:l[k]?=some c)(h2:((c.toNat:Int)==x)=true):qx l x=true:=List.any_eq_true.2 ⟨c,yan h,h2⟩
def StrAt (sb:Nat)(l:List UInt8)(W:World):Prop:=W.heap[sb]?=some (.cells #[.string ⟨l.toArray⟩] 9)
theorem StrAt.later(h:StrAt sb l W)(hb:Below W.heap.size W W'):StrAt sb l W':=hb.q h
theorem FO(f:FV)(sb:Nat)(l:List UInt8)(w:World)(hs:StrAt sb l w)(hasc:∀c∈l,c.toNat<128):Calls Tryz.prog 137 #[f.val,.pointer (some ⟨sb,0,none⟩)] w (GivesB (!qx l f.l) w):=by
 have hus:Tryz.prog.underlying 9=some .string:=Tryz.underlying9;unfold FV.val FV.cells;go_in;have hbx:=bN w f.box;have k1:=aN w f.box
 have hs1:=hs.later hbx;have c0:(w.alloc f.box).cell? ⟨sb,0,none⟩=some (.string ⟨l.toArray⟩):=by unfold StrAt at hs1;simp[World.cell?,hs1]
 unfold FV.box FV.cells at hbx k1 hs1 c0;go_upto_region 1 with fail;generalize hg:w.alloc _=W0 at *;have hr:=run_range_string (P:=Tryz.prog) W0 9 ⟨l.toArray⟩ hus;go_wp2_with fail;clear c0;have hz:w.heap.size<W0.heap.size:=lA k1;go_loopw [] (fun wr=>∃j,Hid (qx (l.take j) f.l=false)/\wr.heap[W0.heap.size]?=some (.stringIter ⟨l.toArray⟩ j)/\wr.heap[w.heap.size]?=some (.cells #[.int .i32 f.l,f.kp,f.pt,f.tk] 171)/\Below w.heap.size w wr) (fun wr=>l.length-wr.iterPos W0.heap.size)
 case atStart=>
  have hbi:Below W0.heap.size W0 (W0.iter ⟨l.toArray⟩ 0):=bN _ _;exact⟨0,hid rfl,aN _ _,(hbi.block _ hz).trans k1,hbx.trans (hbi.mono hbx.size)⟩
 case round=>
  obtain⟨j,Hh,hi,hk,hb⟩:=hrel;by_cases hj:j<l.length
  ·obtain⟨c,hc⟩:∃c,l[j]?=some c:=⟨_,yac hj⟩
   have hm:wr.iterPos W0.heap.size=j:=by simp[World.iterPos,hi]
   have hn:=fun ty=>dm (P:=Tryz.prog) wr W0.heap.size l j c ty hi hc (hasc c (yan hc));have b1:(wr.iterAt W0.heap.size ⟨l.toArray⟩ (j+1)).heap[w.heap.size]?=some (.cells #[.int .i32 f.l,f.kp,f.pt,f.tk] 171):=(iterAt_other _ _ _ _ _ (by omega)).trans hk;have b2:(wr.iterAt W0.heap.size ⟨l.toArray⟩ (j+1)).heap[W0.heap.size]?=some (.stringIter ⟨l.toArray⟩ (j+1)):=iterAt_heap _ _ _ _ _ hi;have b3:Below w.heap.size w (wr.iterAt W0.heap.size ⟨l.toArray⟩ (j+1)):=below_iterAt hb (by omega) _ _;have d0:(wr.iterAt W0.heap.size ⟨l.toArray⟩ (j+1)).cell? ⟨w.heap.size,0,none⟩=some (.int .i32 f.l):=by simp[World.cell?,b1]
   generalize wr.iterAt W0.heap.size ⟨l.toArray⟩ (j+1)=W1 at *;by_cases hq:((c.toNat:Int)==f.l)=true
   ·have Hs:=hid (Nq l j c f.l hc hq);go_wp2_with fail;go_ret;exact⟨by rw[Hs.out];rfl,b3⟩
   have hq2:((c.toNat:Int)==f.l)=false:=by simpa using hq
   have Hs:=hid (Rn l j c f.l hc Hh.out hq2);clear hq;go_wp2_with fail;go_roundw
   case rel=>exact⟨j+1,Hs,b2,b1,b3⟩
   case measure=>rw[hm];simp[World.iterPos,b2];omega
  have hn:=fun ty=>run_next_end_at (P:=Tryz.prog) wr W0.heap.size ⟨l.toArray⟩ j ty hi hj;have Hs:Hid (qx l f.l=false):=hid (by have:=Hh.out;rw[yak (by omega)] at this;exact this);go_wp2_with fail;go_ret;exact⟨by rw[Hs.out];rfl,hb⟩
def FRow (b:Nat)(L:List FV)(W:World):Prop:=W.heap[b]?=some (.cells (fV L).toArray 171)
theorem FRow.later{L:List FV}(h:FRow b L W)(hb:Below W.heap.size W W'):FRow b L W':=hb.q h
theorem FRow.at_{L:List FV}(h:FRow b L W)(k:Nat)(f:FV)(hk:L[k]?=some f):W.cell? ⟨b,k*4,none⟩=some (.int .i32 f.l)/\W.cell? ⟨b,k*4+1,none⟩=some f.kp/\W.cell? ⟨b,k*4+2,none⟩=some f.pt/\W.cell? ⟨b,k*4+3,none⟩=some f.tk/\∀i,W.frozen? ⟨b,i,none⟩=false:=by
 unfold FRow at h;have c:∀i,i<4->∀x,f.cells[i]?=some x->W.cell? ⟨b,k*4+i,none⟩=some x:=fun i hi x hx=>by
  have:=yR L k f hk i hi;rw[hx] at this;simp[World.cell?,h,this]
 refine⟨c 0 (by omega) _ rfl,c 1 (by omega) _ rfl,c 2 (by omega) _ rfl,c 3 (by omega) _ rfl,fun i=>by simp[World.frozen?,h]⟩
def goes (l:List UInt8)(f:FV):Bool:=!qx l f.l
theorem J3(b n sb:Nat)(L:List FV)(l:List UInt8)(w:World)(hL:FRow b L w)(hn:L.length=n)(hn2:n<=1000)(hs:StrAt sb l w)(hasc:∀c∈l,c.toNat<128) :
  Calls Tryz.prog 161 #[.slice (some ⟨b,0,none⟩) n n,.func (.func 137) #[] #[.pointer (some ⟨sb,0,none⟩)]] w
   fun e w'=>(∃r:Int,e=.returned (.int .i64 r)/\((r=-1/\L.any (goes l)=false)\/∃(i:Nat) (f:FV),r=(i:Int)/\L[i]?=some f/\goes l f=true/\(L.take i).any (goes l)=false))/\Below w.heap.size w w':=by
 have HN:=hid hn;clear hn;go_in;go_wp2_with fail;go_loopw [8] (fun p wr=>∃k:Nat,k<=n/\p=.int .i64 (k:Int)/\Hid ((L.take k).any (goes l)=false)/\Below w.heap.size w wr) (fun p _=>n-(intOf p).toNat)
 case atStart=>exact⟨0,yam _,rfl,hid rfl,yaj _ _⟩
 case round=>
  obtain⟨k,hk,rfl,Ht,hbr⟩:=hrel;by_cases hkn:k<n
  ·obtain⟨f,hf⟩:∃f,L[k]?=some f:=⟨_,yac (by rw[HN.out];exact hkn)⟩
   obtain⟨c0,c1,c2,c3,-⟩:=(hL.later hbr).at_ k f hf;have i0:(0:Int)<=(k:Int):=by omega
   have i1:(k:Int)<(n:Int):=by omega
   have hcall:=FO f sb l wr (hs.later hbr) hasc;unfold FV.val FV.cells at hcall;go_wp2_with fail;refine hcall.mono ?_;rintro e w1 ⟨rfl,hb1⟩;have hb2:=hbr.trans (hb1.mono hbr.size);have hge:(!qx l f.l)=goes l f:=rfl;rw[hge];clear hge hcall c0 c1 c2 c3;by_cases hm:goes l f=true
   ·have HM:=hid hm;rw[hm];go_wp2_with fail;go_ret;exact⟨⟨k,rfl,.inr ⟨k,f,rfl,hf,HM.out,Ht.out⟩⟩,hb2⟩
   have hm2:goes l f=false:=by simpa using hm
   have Hs:=hid (pR (goes l) L k f hf Ht.out hm2);rw[hm2];go_wp2_with fail;go_roundw
   case rel=>exact⟨k+1,by omega,by go_num,Hs,hb2⟩
   case measure=>simp[intOf];omega
  have hkn2:k=n:=by omega
  have Hs:Hid (L.any (goes l)=false):=hid (by have:=Ht.out;rw[yak (by rw[HN.out];omega)] at this;exact this);subst hkn2;go_wp2_with fail;go_ret;exact⟨⟨-1,rfl,.inl ⟨rfl,Hs.out⟩⟩,hbr⟩
theorem F6(f:FV):∀(M:List FV) (i:Nat),i<M.length->((((fV M).set (i*4) (.int .i32 f.l)).set (i*4+1) f.kp).set (i*4+2) f.pt).set (i*4+3) f.tk=fV (M.set i f)
 | [],_,h=>by simp at h
 | z::xs,0,_=>rfl
 | z::xs,i+1,h=>by
  have ih:=F6 f xs i (by simpa using h);have e:∀(y:FV) (ys:List FV),fV (y::ys)=Value.int .i32 y.l::y.kp::y.pt::y.tk::fV ys:=fun _ _=>rfl;rw[List.set_cons_succ,e,e,<-ih,show (i+1)*4=i*4+1+1+1+1 from by omega];rfl
theorem FRow.set{M:List FV}(h:FRow b M W)(i:Nat)(f:FV)(hi:i<M.length) :
  FRow b (M.set i f) ((((W.setCell ⟨b,i*4,none⟩ (.int .i32 f.l)).setCell ⟨b,i*4+1,none⟩ f.kp).setCell ⟨b,i*4+2,none⟩ f.pt).setCell ⟨b,i*4+3,none⟩ f.tk):=by
 unfold FRow at h ⊢;have h4:=at_set (i:=i*4+3) (x:=f.tk) (at_set (i:=i*4+2) (x:=f.pt) (at_set (i:=i*4+1) (x:=f.kp) (at_set (i:=i*4) (x:=.int .i32 f.l) h)));rw[h4,<-F6 f M i hi];simp only[List.setIfInBounds_toArray]
structure Oth (B b:Nat)(w W:World):Prop where
 bel:Below B w W
 oth:∀k,k<w.heap.size->k≠b->W.heap[k]?=w.heap[k]?
theorem Oth.refl(B b:Nat)(w:World):Oth B b w w:=⟨yaj _ _,fun _ _ _=>rfl⟩
theorem Oth.later(h:Oth B b w W)(hB:B<=W.heap.size)(hb:Below W.heap.size W W'):Oth B b w W':=
 ⟨h.bel.trans (hb.mono hB),fun k hk hne=>(hb.block k (yaz hk h.bel.size)).trans (h.oth k hk hne)⟩
theorem Oth.set(h:Oth B b w W)(hB:B<=b)(i:Nat)(x:Value):Oth B b w (W.setCell ⟨b,i,none⟩ x):=
 ⟨h.bel.setCell (p:=⟨b,i,none⟩) hB x,fun k hk hne=>(yaA W ⟨b,i,none⟩ x k hne).trans (h.oth k hk hne)⟩
theorem Oth.sets(hB:B<=b):∀(vs:List Value) (o:Nat) (W:World),Oth B b w W->Oth B b w (W.setCells b o vs)
 | [],_,_,h=>h
 | v::vs,o,_,h=>Oth.sets hB vs (o+1) _ (h.set hB o v)
theorem Gu:∀(z:Array Value) (n:Nat),0<z.size->(∀v∈z.toList,v.oneCell'=true)->(Builtin.zeroCells z n).toList.length=n*z.size/\∀v∈(Builtin.zeroCells z n).toList,v.oneCell'=true:=by
 intro z n hz h;constructor
 ·simp[Builtin.zeroCells]
 intro v hv;simp only[Builtin.zeroCells,Array.toList_map,ybM] at hv;obtain⟨i,_,rfl⟩:=hv;have hlt:i % z.size<z.size:=Nat.mod_lt _ hz;rw[getElem!_pos z (i % z.size) hlt];exact h _ (by simp)
theorem zy{P:Program}(w:World)(t e ty:TypeId)(z:Value)(ht:P.underlying t=some (.slice e))(hv:∀w,(zeroValue e).run P w=.ok z w)(hz:0<z.cells.size)(h1:∀v∈z.cells.toList,v.oneCell'=true)(b o n c:Nat)(hn:0<n)
  (hc:∀j,j<n*z.cells.size->(w.cell? ⟨b,o+j,none⟩).isSome=true) (hf:∀j,w.frozen? ⟨b,o+j,none⟩=false) :
  (Builtin.clear_ #[t] ty #[.slice (some ⟨b,o,none⟩) n c]).run P w=.ok (.tuple #[]) (w.setCells b o (Builtin.zeroCells z.cells n).toList):=by
 obtain⟨hl,ho⟩:=Gu z.cells n hz h1;have hst:=run_storeCells_cells (P:=P) b o (Builtin.zeroCells z.cells n).toList 0 w (by rw[hl];simpa using hc) (by intro j _;simpa using hf j) ho;simp only[Nat.add_zero] at hst;obtain⟨m,rfl⟩:∃m,n=m+1:=⟨n-1,by omega⟩
 simp[Builtin.clear_,ycb ht,hv,hst]
structure DelAt (B b n sb:Nat)(L:List FV)(l:List UInt8)(w:World)(i j:Nat)(M:List FV)(wr:World):Prop where
 row:FRow b M wr
 len:M.length=n
 fst:M.take i=(L.take j).filter (fun f=>!goes l f)
 snd:M.drop j=L.drop j
 ij:i<j
 jn:j<=n
 str:StrAt sb l wr
 oth:Oth B b w wr
theorem DelAt.later{L:List FV}{M:List FV}(h:DelAt B b n sb L l w i j M wr)(hB:B<=wr.heap.size)(hb:Below wr.heap.size wr W'):DelAt B b n sb L l w i j M W':=
 ⟨h.row.later hb,h.len,h.fst,h.snd,h.ij,h.jn,h.str.later hb,h.oth.later hB hb⟩
theorem vV{α:Type}(p:α->Bool)(L:List α)(j:Nat)(f:α)(h:L[j]?=some f):(L.take (j+1)).filter p=(L.take j).filter p++(if p f then [f] else []):=by
 obtain⟨hl,e⟩:=yao.1 h;rw[yau hl,e,List.filter_append];cases hp:p f<;>simp[hp]
theorem DelAt.drop{L:List FV}{M:List FV}(h:DelAt B b n sb L l w i j M wr)(hL:L.length=n)(f:FV)(hf:L[j]?=some f)(hg:goes l f=true):DelAt B b n sb L l w i (j+1) M wr:=by
 have hj:=(yao.1 hf).1;refine⟨h.row,h.len,?_,?_,by have:=h.ij;omega,by omega,h.str,h.oth⟩
 ·rw[vV _ L j f hf,hg,h.fst];simp
 rw[<-ycm,<-ycm,h.snd]
theorem DelAt.keep{L:List FV}{M:List FV}(h:DelAt B b n sb L l w i j M wr)(hL:L.length=n)(hB:B<=b)(hsb:sb≠b)(f:FV)(hf:L[j]?=some f)(hg:goes l f=false) :
  DelAt B b n sb L l w (i+1) (j+1) (M.set i f) ((((wr.setCell ⟨b,i*4,none⟩ (.int .i32 f.l)).setCell ⟨b,i*4+1,none⟩ f.kp).setCell ⟨b,i*4+2,none⟩ f.pt).setCell ⟨b,i*4+3,none⟩ f.tk):=by
 have hj:=(yao.1 hf).1;have hij:=h.ij;have hi:i<M.length:=by rw[h.len];omega
 refine⟨h.row.set i f hi,by rw[List.length_set,h.len],?_,?_,by omega,by omega,?_,?_⟩
 ·rw[vV _ L j f hf,hg,<-h.fst,yau (by rw[List.length_set];exact hi),List.take_set_of_le (yag _)];simp
 ·rw[List.drop_set_of_lt (by omega),<-ycm,<-ycm,h.snd]
 ·exact ah (ah (ah (ah h.str hsb) hsb) hsb) hsb
 exact (((h.oth.set hB _ _).set hB _ _).set hB _ _).set hB _ _
theorem Ey(B b n sb:Nat)(L:List FV)(l:List UInt8)(w:World)(hL:FRow b L w)(hn:L.length=n)(hn2:n<=1000)(hs:StrAt sb l w)(hasc:∀c∈l,c.toNat<128)(hB:B<=b)(hsb:sb≠b)
  (hone:∀f∈L,f.kp.oneCell'=true/\f.pt.oneCell'=true/\f.tk.oneCell'=true) :
  Calls Tryz.prog 135 #[.slice (some ⟨b,0,none⟩) n n,.func (.func 137) #[] #[.pointer (some ⟨sb,0,none⟩)]] w
   fun e w'=>∃m:Nat,e=.returned (.slice (some ⟨b,0,none⟩) m n)/\m=(L.filter fun f=>!goes l f).length/\Rd w' 4 (some ⟨b,0,none⟩) m n (fV (L.filter fun f=>!goes l f))/\Oth B b w w':=by
 have hbl:b<w.heap.size:=lA hL;have hrd:∀(M:List FV) (m:Nat) (W:World),FRow b M W->M.length=n->m<=n->Rd W 4 (some ⟨b,0,none⟩) m n (fV (M.take m)):=fun M m W hR hl hm=>by
  refine⟨by rw[sW,yaV,hl];congr 1;omega,hm,by unfold maxLen;omega,(fun h=>by cases h),fun _ a ha=>?_⟩;cases ha;refine⟨rfl,(lA hR),fun j u hu=>?_⟩;rw[ybL];have hlt:j<(fV (M.take m)).length:=(yao.1 hu).1;have e:(fV M)[j]?=some u:=by
   have:=RG (M.take m) (M.drop m);rw[ybf] at this;rw[this,ybe hlt];exact hu
  unfold FRow at hR;simp[World.cell?,hR,e]
 have HN:=hid hn;clear hn;go_in;go_wp2_with fail;refine (J3 b n sb L l w hL HN.out hn2 hs hasc).mono ?_;rintro e w1 ⟨⟨r,rfl,hr⟩,hb1⟩;have hR1:=hL.later hb1;have ho1:=(Oth.refl B b w).later (yae hB (yaZ hbl)) hb1;rcases hr with ⟨rfl,hno⟩ | ⟨i0,f0,rfl,hf0,hg0,hno⟩
 ·have hfil:L.filter (fun f=>!goes l f)=L:=List.filter_eq_self.2 (fun f hf=>by have:=yaS.1 hno f hf;simpa using this);have Hfil:=hid hfil;clear hno hfil;go_wp2_with fail;go_ret;refine⟨n,rfl,by rw[Hfil.out,HN.out],?_,ho1⟩;have:=hrd L n w1 hR1 HN.out (yag _);rw[yak (by rw[HN.out];omega)] at this;rw[Hfil.out];exact this
 have hi0:=(yao.1 hf0).1;rw[HN.out] at hi0;have hfil:L.take i0=(L.take (i0+1)).filter (fun f=>!goes l f):=by
  rw[vV _ L i0 f0 hf0,hg0];simp only[Bool.not_true,Bool.false_eq_true,if_false,yaD];exact (List.filter_eq_self.2 (fun f hf=>by have:=yaS.1 hno f hf;simpa using this)).symm
 have hD0:DelAt B b n sb L l w i0 (i0+1) L w1:=⟨hR1,HN.out,hfil,rfl,by omega,by omega,hs.later hb1,ho1⟩
 have g1:((i0:Int)==-1)=false:=by simp
 clear hno hfil hg0 hf0;go_wp2_with fail;go_loopw [5,6] (fun p q wr=>∃(i j:Nat) (M:List FV),p=.int .i64 (i:Int)/\q=.int .i64 (j:Int)/\DelAt B b n sb L l w i j M wr) (fun _ q _=>n-(intOf q).toNat)
 case atStart=>exact⟨i0,i0+1,L,rfl,by go_num,hD0⟩
 case round=>
  obtain⟨i,j,M,rfl,rfl,hD⟩:=hrel;have hij:=hD.ij;have hBw:B<=wr.heap.size:=yae hB (yae (yaZ hbl) hD.oth.bel.size);by_cases hjn:j<n
  ·obtain⟨f,hf⟩:∃f,L[j]?=some f:=⟨_,yac (by rw[HN.out];exact hjn)⟩
   have hMf:M[j]?=some f:=by
    have:=congrArg (fun x=>x[0]?) hD.snd;simpa [yca,hf] using this
   obtain⟨o1,o2,o3⟩:=hone f (yan hf);have st1:∀(a:Addr) (m:Mode) (W:World),(store a f.kp m).run Tryz.prog W=stored Tryz.prog W a f.kp m:=fun a m W=>run_store _ W a f.kp m o1;have st2:∀(a:Addr) (m:Mode) (W:World),(store a f.pt m).run Tryz.prog W=stored Tryz.prog W a f.pt m:=fun a m W=>run_store _ W a f.pt m o2;have st3:∀(a:Addr) (m:Mode) (W:World),(store a f.tk m).run Tryz.prog W=stored Tryz.prog W a f.tk m:=fun a m W=>run_store _ W a f.tk m o3;obtain⟨c0,c1,c2,c3,-⟩:=hD.row.at_ j f hMf;have i0':(0:Int)<=(j:Int):=by omega
   have i1':(j:Int)<(n:Int):=by omega
   go_upto_region 8 with fail;generalize hg:wr.alloc _=W0;have hbx:=bE hg
   have k1:W0.heap[wr.heap.size]?=some f.box:=aE hg
   have hD1:=hD.later hBw hbx;clear hg c0 c1 c2 c3;have hcall:=FO f sb l W0 hD1.str hasc;unfold FV.val FV.cells at hcall;obtain⟨c0,c1,c2,c3,-⟩:=qh k1;have hBw1:B<=W0.heap.size:=yae hBw hbx.size;go_wp2_with fail;refine hcall.mono ?_;rintro e W2 ⟨rfl,hb2⟩;have hD2:=hD1.later hBw1 hb2;have k2:=hb2.q k1;have hge:(!qx l f.l)=goes l f:=rfl;rw[hge];clear hge hcall c0 c1 c2 c3;by_cases hm:goes l f=true
   ·have hN:=hD2.drop HN.out f hf hm;rw[hm];clear hD hD1 hD2;go_wp2_with fail;go_roundw
    case rel=>exact⟨i,j+1,M,rfl,by go_num,hN⟩
    case measure=>simp[intOf];omega
   have hm2:goes l f=false:=by simpa using hm
   have hN:=hD2.keep HN.out hB hsb f hf hm2;have hiM:i<M.length:=by rw[hD2.len];omega
   obtain⟨g,hgi⟩:∃g,M[i]?=some g:=⟨_,yac hiM⟩
   obtain⟨d0,d1,d2,d3,d4⟩:=hD2.row.at_ i g hgi;obtain⟨c0,c1,c2,c3,-⟩:=qh k2;have j0:(0:Int)<=(i:Int):=by omega
   have j1:(i:Int)<(n:Int):=by omega
   rw[hm2];clear hD hD1 hD2;go_wp2_with fail;go_roundw
   case rel=>exact⟨i+1,j+1,_,by go_num,by go_num,hN⟩
   case measure=>simp[intOf];omega
  have hjn2:j=n:=by have:=hD.jn;omega
  have hfil:M.take i=L.filter (fun f=>!goes l f):=by
   have:=hD.fst;rw[hjn2,show L.take n=L from yak (by rw[HN.out];exact yag _)] at this;exact this
  have hlen:i=(L.filter fun f=>!goes l f).length:=by rw[<-hfil,yaV,hD.len];omega
  have hrow:=hrd M i wr hD.row hD.len (by omega);rw[hfil] at hrow;have hin:i<n:=by omega
  have hcl:∀ty,(Builtin.clear_ #[165] ty #[.slice (some ⟨b,i*4,none⟩) (n-i) (n-i)]).run Tryz.prog wr=.ok (.tuple #[]) (wr.setCells b (i*4) (Builtin.zeroCells (Value.agg #[.int .i32 0,.nilFunc,.nilFunc,.nilFunc]).cells (n-i)).toList):=
   fun ty=>zy wr 165 171 ty _ Tryz.underlying165 (fun _=>by kernel_rfl) (by decide) (by intro v hv;simp[Value.cells] at hv;rcases hv with rfl|rfl<;>rfl) b (i*4) (n-i) (n-i) (by omega)
    (fun t ht=>by
     have hr:=hD.row;unfold FRow at hr;have hlt:i*4+t<(fV M).length:=by rw[sW,hD.len];simp[Value.cells] at ht;omega
     simp[World.cell?,hr,hlt])
    (fun t=>by have hr:=hD.row;unfold FRow at hr;simp[World.frozen?,hr])
  have hoth:=Oth.sets hB (Builtin.zeroCells (Value.agg #[.int .i32 0,.nilFunc,.nilFunc,.nilFunc]).cells (n-i)).toList (i*4) wr hD.oth;have hrow2:Rd (wr.setCells b (i*4) (Builtin.zeroCells (Value.agg #[.int .i32 0,.nilFunc,.nilFunc,.nilFunc]).cells (n-i)).toList) 4 (some ⟨b,0,none⟩) i n (fV (L.filter fun f=>!goes l f)):=by
   obtain⟨q1,q2,q3,q4,q5⟩:=hrow;refine⟨q1,q2,q3,q4,fun h0 a ha=>?_⟩;obtain⟨s1,s2,s3⟩:=q5 h0 a ha;cases ha;refine⟨rfl,yaz hbl hoth.bel.size,fun t u hu=>?_⟩;have hlt:=(yao.1 hu).1;rw[World.cell?_setCells_out b _ _ _ _ (fun _ _=>.inl (by dsimp only;omega))];exact s3 t u hu
  have HF:=hid hlen;have n0:(0:Int)<=(i:Int):=by omega
  have n1:(i:Int)<=(n:Int):=by omega
  clear hfil hlen hrow hD hjn2;go_wp2_with fail;go_ret;exact⟨i,rfl,HF.out,hrow2,hoth⟩
theorem EK(k:Int)(whole:Bool):∀c∈gm k whole,c.toNat<128:=by
 unfold gm mapM;intro c hc
 revert c
 repeat' split
 all_goals decide
theorem plainAt.oth{X:List FV}(h:plainAt W t fo tb ob)(hX:FRow b X W)(ho:Oth B b W W'):plainAt W' t fo tb ob:=by
 obtain⟨h1,h2⟩:=h;unfold FRow at hX;have n1:tb≠b:=by rintro rfl;rw[hX] at h1;injection h1 with h1;injection h1 with _ h1;exact absurd h1 (by decide)
 have n2:ob≠b:=by rintro rfl;rw[hX] at h2;injection h2 with h2;injection h2 with _ h2;exact absurd h2 (by decide)
 exact⟨(ho.oth tb (lA h1) n1).trans h1,(ho.oth ob (lA h2) n2).trans h2⟩
theorem AllAt.oth{X:List FV}(h:AllAt t0 t1 t2 t3 t4 t5 t6 t7 W)(hX:FRow b X W)(ho:Oth B b W W'):AllAt t0 t1 t2 t3 t4 t5 t6 t7 W':=
 ⟨h.a0.oth hX ho,h.a1.oth hX ho,h.a2.oth hX ho,h.a3.oth hX ho,h.a4.oth hX ho,h.a5.oth hX ho,h.a6.oth hX ho,h.a7.oth hX ho⟩
def ofL (k:Int)(whole:Bool)(t0 t1 t2 t3 t4 t5 t6 t7:Nat):List FV:=(allL t0 t1 t2 t3 t4 t5 t6 t7).filter fun f=>!goes (gm k whole) f
def TS (k:Int)(whole:Bool)(w:World)(e:Ending)(w':World):Prop:=∃b t0 t1 t2 t3 t4 t5 t6 t7 m n:Nat,e=.returned (.slice (some ⟨b,0,none⟩) m n)/\m=(ofL k whole t0 t1 t2 t3 t4 t5 t6 t7).length/\Rd w' 4 (some ⟨b,0,none⟩) m n (fV (ofL k whole t0 t1 t2 t3 t4 t5 t6 t7))/\AllAt t0 t1 t2 t3 t4 t5 t6 t7 w'/\Below w.heap.size w w'
theorem vz(t0 t1 t2 t3 t4 t5 t6 t7:Nat):∀f∈allL t0 t1 t2 t3 t4 t5 t6 t7,f.kp.oneCell'=true/\f.pt.oneCell'=true/\f.tk.oneCell'=true:=by
 intro f hf;simp only[allL,yas,yal,or_false] at hf;rcases hf with rfl|rfl|rfl|rfl|rfl|rfl|rfl|rfl|rfl|rfl|rfl|rfl|rfl|rfl|rfl<;>exact⟨rfl,rfl,rfl⟩
theorem yH(k:Int)(whole:Bool)(w:World):Calls Tryz.prog 101 #[.int .i64 k,.bool whole] w (TS k whole w):=by
 have hus:Tryz.prog.underlying 9=some .string:=Tryz.underlying9;go_in;go_wp2_with fail;refine (rP k whole w).mono ?_;rintro e w1 ⟨rfl,hb1⟩;go_wp2_with fail;generalize hg:w1.alloc _=W2;have hb2:=bE hg
 have hs2:StrAt w1.heap.size (gm k whole) W2:=aE hg
 clear hg;refine (Rk W2).mono ?_;rintro e w3 ⟨b,t0,t1,t2,t3,t4,t5,t6,t7,rfl,hrow,hat,hb3,hbb⟩;have hs3:=hs2.later hb3;have hz:w1.heap.size<W2.heap.size:=lA hs2;go_wp2_with fail;refine (Ey b b 15 w1.heap.size (allL t0 t1 t2 t3 t4 t5 t6 t7) (gm k whole) w3 hrow rfl (by decide) hs3 (EK k whole) (yag _) (by omega) (vz t0 t1 t2 t3 t4 t5 t6 t7)).mono ?_;rintro e w4 ⟨m,rfl,hm,hrd,ho⟩;have HR:=hid hm;clear hm;go_wp2_with fail;go_ret;refine⟨b,t0,t1,t2,t3,t4,t5,t6,t7,m,15,rfl,HR.out,hrd,hat.oth hrow ho,?_⟩;have e1:=(hb1.trans (hb2.mono hb1.size)).trans (hb3.mono (yae hb1.size hb2.size));exact e1.trans (ho.bel.mono (yae (yae hb1.size hb2.size) hbb))
structure FM where
 k:Int
 vi:Int
 no:Int
 fr:Int
 cl:Int
 nu:Int
 rq:RV
 co:Int
 ye:Bool
 at_:Int
 cm:Int
 ba:Int
 on:Int
 wh:Bool
def FM.cells (m:FM):Array Value:=#[.int .i64 m.k,.int .u64 m.vi,.int .u64 m.no,.int .i64 m.fr,.int .u64 m.cl,.int .u64 m.nu,
 .int .u64 m.rq.cl,.int .u64 m.rq.nu,.int .i64 m.rq.op.k,.string m.rq.op.name,.string m.rq.op.to,.slice m.rq.op.ao m.rq.op.an m.rq.op.ac,.slice m.rq.op.bo m.rq.op.bn m.rq.op.bc,.slice m.rq.op.co m.rq.op.cn m.rq.op.cc,.int .i64 m.rq.op.n,
 .int .i64 m.co,.bool m.ye,.slice none 0 0,.slice none 0 0,.int .u64 m.at_,.int .u64 m.cm,.int .u64 m.ba,.slice none 0 0,.slice none 0 0,.int .u64 m.on,.bool m.wh,.slice none 0 0]
def FM.val (m:FM):Value:=.agg m.cells
def FM.box (m:FM):Obj:=.cells m.cells 59
end Msg
namespace Msg
open Go.RowKit Go.Lib Mem Tlv
theorem Oth.mono {B B' b:Nat}{w W:World}(h:Oth B b w W)(hB:B'<=B):Oth B' b w W:=⟨h.bel.mono hB,h.oth⟩
end Msg
namespace Mem
open Go Go.RowKit
variable{a:Act}{o:Oper}{ops:Array Oper}{rest:List Oper}
section
variable {P:Program} (w:World)
theorem rJ{Q:Exit->Act->World->Prop}(hgd:o.guard=none)(s x:Operand)(t:TypeId)
  (ho:o.op=.call { callee:=.builtin .append,args:=#[s,x],argTypes:=#[t,t] }) (base:Nat) (e:TypeId) (z:Value) (size bytes:Nat) (T:SliceT P t e z size bytes)
  (v:Value) (n:Nat) (xs:List Value) (hs:a.eval s=v) (hown:w.ownsRow base e size v n xs) (ao:Option Addr) (m c:Nat) (news:List Value) (hx:a.eval x=.slice ao m c) (hr:Rd w size ao m c news) (h1:∀u∈news,u.oneCell'=true)
  (h63:n+m<=maxLen) (hbytes:(n+m)*bytes<=140737488355328) (hbase:base<=w.heap.size)
  (h:∀ao' cap' w',w'.ownsRow base e size (.slice ao' (n+m) cap') (n+m) (xs++news)->w.grownBy w' v.ownBlock->Below base w w'->(∀k,(Value.slice ao' (n+m) cap').ownBlock=some k->v.ownBlock=some k\/w.heap.size<=k)->wpList P ops Q rest (a.put o.dst (.slice ao' (n+m) cap')) w') :
  wpList P ops Q (o::rest) a w:=by
 refine wpList_plain hgd fun K hK=>?_;obtain⟨ao',cap',w',hrun,r1,r2,r3,r4⟩:=yC (P:=P) (w:=w) base t o.type e z size bytes T v n xs hown ao m c news hr h1 h63 hbytes hbase;unfold Oper.wp execOp;simp only[ho,resolve,invoke,builtin,yaY,ybp,ycu,ycD,ybS,List.map_nil,hs,hx,hrun];exact hK _ _ (h ao' cap' w' r1 r2 r3 r4)
theorem Ew{Q:Exit->Act->World->Prop}(hgd:o.guard=none)(s x:Operand)(t:TypeId)
  (ho:o.op=.call { callee:=.builtin .append,args:=#[s,x],argTypes:=#[t,t] }) (base:Nat) (e:TypeId) (z:Value) (size bytes:Nat) (T:SliceT P t e z size bytes) (hby:bytes<=10000)
  (v:Value) (n:Nat) (xs:List Value) (hs:a.eval s=v) (hown:w.ownsRow base e size v n xs) (m:Nat) (news:List Value) (hx:a.eval x=.slice (some ⟨w.heap.size,0,none⟩) m m) (hl:news.length=m*size) (h1:∀u∈news,u.oneCell'=true)
  (hbase:base<=w.heap.size) (hN:n+m<=10000000000)
  (h:∀ao' cap' w',w'.ownsRow base e size (.slice ao' (n+m) cap') (n+m) (xs++news)->(w.alloc (.cells news.toArray e)).grownBy w' v.ownBlock->Below base w w'->(∀k,(Value.slice ao' (n+m) cap').ownBlock=some k->v.ownBlock=some k\/(w.alloc (.cells news.toArray e)).heap.size<=k)->wpList P ops Q rest (a.put o.dst (.slice ao' (n+m) cap')) w') :
  wpList P ops Q (o::rest) a (w.alloc (.cells news.toArray e)):=by
 have hb:(n+m)*bytes<=140737488355328:=by
  have:=Nat.mul_le_mul hN hby;omega
 refine rJ _ hgd s x t ho base e z size bytes T v n xs hs (hown.alloc _) _ m m news hx (Rd.new w news e (0,0) size m hl (by unfold maxLen;omega)) h1 (by unfold maxLen;omega) hb (by simp;omega) ?_;intro ao' cap' w' h1' h2' h3' h4';exact h ao' cap' w' h1' h2' (((yaj base w).alloc hbase _).trans h3') h4'
end
end Mem
namespace Tlv
open Go.RowKit Go.Lib Mem
def KeepW (g:Nat)(v v':Value)(W w':World):Prop:=(∀k,k<W.heap.size->k≠g->v.ownBlock≠some k->w'.heap[k]?=W.heap[k]?)/\(∀k,v'.ownBlock=some k->v.ownBlock=some k\/W.heap.size<=k)
theorem KeepW.after {g:Nat}{v v':Value}{W W1 w':World}(h:KeepW g v v' W1 w')(hb:Below W.heap.size W W1):KeepW g v v' W w':=
 ⟨fun k hk hg hv=>(h.1 k (yaz hk hb.size) hg hv).trans (hb.block k hk),fun k hk=>(h.2 k hk).imp id (fun h=>yae hb.size h)⟩
theorem nS (B g:Nat)(l b:List UInt8)(v:Value)(t:UInt8)(ao:Option Addr)(n cap:Nat)(W:World)(hw:WrAt B g l 0 v W)(ht:0<t.toNat)(hl:l.length<=100000000)(hn:n<=4194304)(hr:Rd W 1 ao n cap (byV b))
  (hdis:0<cap->∀a,ao=some a->some a.block≠v.ownBlock) :
  Calls Tryz.prog 147 #[.pointer (some ⟨g,0,none⟩),.int .u8 (t.toNat:Int),.slice ao n cap] W fun e w'=>e=.returned (.pointer (some ⟨g,0,none⟩))/\∃v',WrAt B g (l++val t b) 0 v' w'/\Below B W w'/\KeepW g v v' W w':=by
 have k63:l.length+5+n<=maxLen:=by unfold maxLen;omega
 have kby:(l.length+5+n)*1<=140737488355328:=by omega
 have hat:=hw.at_;have hlt:=hw.lt;have hne:=hw.ne;have hown:=hw.own;have hB:=hw.le;have hBW:B<=W.heap.size:=by omega
 have hbl:b.length=n:=by have:=hr.1;rw[aV] at this;omega
 have Hbl:=hid hbl;clear hw hbl;have c0:W.cell? ⟨g,0,none⟩=some v:=by simp[World.cell?,hat]
 have c1:W.cell? ⟨g,1,none⟩=some (.int .i64 0):=by simp[World.cell?,hat]
 have g0:W.frozen? ⟨g,0,none⟩=false:=by simp[World.frozen?,hat]
 have f1:decide ((4194304:Int)<(n:Int))=false:=yad (by omega);have ht2:t.toNat<256:=t.toNat_lt;have f2:((t.toNat:Int)==0)=false:=by simp;omega
 have hpe:∀(w:World),Sem.run Tryz.prog (binOp BinOp.eql 175 (.pointer (some ⟨g,0,none⟩)) (.pointer none)) w=.ok (.bool false) w:=fun _=>by kernel_rfl
 go_in;go_wp2_with (first | (at_builtin;refine Ew _ rfl (.tmp 14) (.tmp 27) 34 rfl B 5 (.int .u8 0) 1 1 byT (by decide) v l.length (byV l) rfl hown 5 [.int .u8 (t.toNat:Int),.int .u8 ((n:Int) / 16777216),.int .u8 ((n:Int) / 65536),.int .u8 ((n:Int) / 256 % 256),.int .u8 ((n:Int) % 256)] rfl rfl (fun u hu=>by simp at hu;rcases hu with rfl|rfl|rfl|rfl|rfl<;>rfl) hBW (by omega) ?_;intro ao1 cap1 w1 ho1 hg1 hb1 fr1;have hr1:=fO (hr.later ((yaj _ W).alloc (yag _) _)) hg1 hdis;have hat1:=(hg1.block g (by simp;omega) (fun e=>hne e.symm)).trans ((ybR W _ g hlt).trans hat)) | (at_builtin;refine rJ _ rfl (.tmp 28) (.tmp 29) 34 rfl B 5 (.int .u8 0) 1 1 byT _ (l.length+5) _ rfl ho1 ao n cap (byV b) rfl hr1 (bM _) k63 kby (yae hBW hb1.size) ?_;intro ao2 cap2 w2 ho2 hg2 hb2 fr2;have hat2:w2.heap[g]?=some (.cells #[v,.int .i64 0] 177):=(hg2.block g (lA hat1) (fun e=>own_ne hat1 (by decide) ho1 e.symm)).trans hat1;have d0:w2.cell? ⟨g,0,none⟩=some v:=(by simp[World.cell?,hat2]);have e0:w2.frozen? ⟨g,0,none⟩=false:=(by simp[World.frozen?,hat2])));go_ret;refine⟨rfl,_,WrAt.store (l':=l++val t b) hat2 hB ?_,?_,?_⟩
 ·have hbl:=Hbl.out;rw[dS,zK t b n hbl hn,show (l++val t b).length=l.length+5+n from (by rw[yab,ae,hbl];omega)];rw[yav] at ho2;exact ho2
 ·exact (hb1.trans hb2).setCell hB _
 have z0:W.heap.size<=(W.alloc (.cells #[.int .u8 (t.toNat:Int),.int .u8 ((n:Int) / 16777216),.int .u8 ((n:Int) / 65536),.int .u8 ((n:Int) / 256 % 256),.int .u8 ((n:Int) % 256)] 5)).heap.size:=((yaj _ W).alloc (yag _) _).size;have z1:=hg1.size;refine⟨fun k hk hkg hkv=>?_,fun k hk=>?_⟩
 ·have h1:some k≠v.ownBlock:=fun e=>hkv e.symm;have h2:some k≠(Value.slice ao1 (l.length+5) cap1).ownBlock:=fun e=>(fr1 k e.symm).elim hkv (fun h=>by simp at h;omega);have hk1:k<w1.heap.size:=by simp at z1;omega
  exact (yaA _ _ _ _ hkg).trans ((hg2.block k hk1 h2).trans ((hg1.block k (by simp;omega) h1).trans (ybR W _ k hk)))
 rcases fr2 k hk with h | h
 ·rcases fr1 k h with h | h
  ·exact .inl h
  exact .inr (by simp at h;omega)
 exact .inr (by simp at z1;omega)
theorem ui (B g:Nat)(l:List UInt8)(v:Value)(t:UInt8)(n:Nat)(W:World)(hw:WrAt B g l 0 v W)(ht:0<t.toNat)(hl:l.length<=100000000) :
  Calls Tryz.prog 107 #[.pointer (some ⟨g,0,none⟩),.int .u8 (t.toNat:Int),.int .u64 (n:Int)] W fun e w'=>e=.returned (.pointer (some ⟨g,0,none⟩))/\∃v',WrAt B g (l++val t (au n)) 0 v' w'/\Below B W w'/\KeepW g v v' W w':=by
 have hmk:(Instr.makeSlice 34 (.int .i64 8) (.int .i64 8)).run Tryz.prog W=.ok (.slice (some ⟨W.heap.size,0,none⟩) 8 8) (W.alloc (.cells (madeCells #[.int .u8 0] 8) 5)):=run_make_row' (P:=Tryz.prog) 34 5 (.int .u8 0) 1 rfl (by kernel_rfl) rfl .i64 .i64 8 (by decide) (by decide) W;have hrow0:=World.rowIs_made W (.int .u8 0) 8 5;have hb0:Below W.heap.size W (W.alloc (.cells (madeCells #[.int .u8 0] 8) 5)):=(yaj _ W).alloc (yag _) _;go_in;go_wp2_with fail;go_loopw [12] (fun p wr=>∃k:Nat,k<=8/\p=.int .i64 (k:Int)/\wr.rowIs W.heap.size 5 8 (jX n k)/\Below W.heap.size W wr) (fun p _=>(8-intOf p).toNat)
 case atStart=>exact⟨0,by omega,rfl,hrow0.congr (fun i hi=>by simp only[jX];rw[if_neg (by omega)]),hb0⟩
 case round=>
  obtain⟨k,hk,rfl,hrow,hbr⟩:=hrel;by_cases hk8:k=8
  ·subst hk8;have hown:wr.ownsRow W.heap.size 5 1 (.slice (some ⟨W.heap.size,0,none⟩) 8 8) 8 (byV (au n)):=hrow.own (by decide) rfl (by intro j hj;simp[jX,au,byV,ybh,yci hj,yaT]);go_wp2_with fail;refine (nS B g l (au n) v t _ 8 8 wr (hw.later hbr) ht hl (by omega) (Rd.of_own_slice hown) (fun _ a ha=>by cases ha;exact fun e=>iP hw.own e.symm)).mono ?_;rintro e w' ⟨rfl,v',h1,h2,h3⟩;go_wp2;go_ret;exact⟨rfl,v',h1,(hbr.mono (by have:=hw.le;have:=hw.lt;omega)).trans h2,h3.after hbr⟩
  have hk7:k<8:=by omega
  have hcell:=hrow.cell (i:=7-k) (by omega);have hfr:=hrow.frozen (7-k);go_wp2_with fail
  case roundEnd=>
   have hs:=hrow.set (7-k) (.int .u8 ((n:Int) / 2 ^ (8*k) % 256));refine⟨⟨k+1,by omega,by go_num,hs.congr ?_,hbr.setCell (yag _) _⟩,by simp[intOf];omega⟩;intro j hj;by_cases hjk:j=7-k
   ·subst hjk;have e1:7-(7-k)=k:=by omega
    have e2:256 ^ k=2 ^ (8*k):=by rw[Nat.pow_mul]
    rw[if_pos rfl];unfold jX;rw[if_pos (by omega),e1,e2];simp
   simp only[jX,if_neg hjk];by_cases h8:8<=j+k
   ·rw[if_pos h8,if_pos (by omega)]
   rw[if_neg h8,if_neg (by omega)]
end Tlv
namespace Msg
open Go.RowKit Go.Lib Mem Tlv
variable{B fb i k n ob:Nat}{W:World}{cs:Array Value}{v x:Value}
def oJ (cs:Array Value):Obj:=.cells cs 59
theorem qG(h:W.heap[B]?=some (oJ cs))(i:Nat)(v:Value)(hv:cs[i]?=some v):W.cell? ⟨B,i,none⟩=some v:=by
 unfold oJ at h;simp[World.cell?,h,hv]
theorem xC(h:W.heap[B]?=some (oJ cs))(i:Nat):W.frozen? ⟨B,i,none⟩=false:=by
 unfold oJ at h;simp[World.frozen?,h]
structure FnAt (ob:Nat)(ff:Value)(fb i:Nat)(x:Value)(W:World):Prop where
 fn:W.heap[ob]?=some (.cells #[ff] 251)
 cell:W.cell? ⟨fb,i,none⟩=some x
theorem FnAt.get{ff:Value}(h:FnAt ob ff fb i x W):W.cell? ⟨ob,0,none⟩=some ff:=by
 have:=h.fn;simp[World.cell?,this]
structure TgAt (tb:Nat)(t:Int)(ob:Nat)(ff:Value)(fb i:Nat)(x:Value)(W:World):Prop where
 fn:W.heap[ob]?=some (.cells #[ff] 251)
 cell:W.cell? ⟨fb,i,none⟩=some x
 tag:W.heap[tb]?=some (.cells #[.int .u8 t] 5)
theorem TgAt.get{tb:Nat}{t:Int}{ff:Value}(h:TgAt tb t ob ff fb i x W):W.cell? ⟨ob,0,none⟩=some ff/\W.cell? ⟨tb,0,none⟩=some (.int .u8 t):=by
 have h1:=h.fn;have h2:=h.tag;simp[World.cell?,h1,h2]
structure AllP (ff:FuncId)(ix:Nat):Prop where
 calls:∀(b:Nat) (w:World),Calls Tryz.prog ff #[.pointer (some ⟨b,0,none⟩)] w fun e w'=>e=.returned (.pointer (some ⟨b,ix,none⟩))/\w=w'
 ent:∀args w,(callFunc ff args).run Tryz.prog w=.ok (.enter ff args) w
theorem Ho:AllP 164 1:=by
 refine⟨fun b w=>?_,enters_of Tryz.func164 (by kernel_rfl) rfl⟩;go_in;go_wp2;go_ret;exact⟨rfl,rfl⟩
theorem Io:AllP 165 2:=by
 refine⟨fun b w=>?_,enters_of Tryz.func165 (by kernel_rfl) rfl⟩;go_in;go_wp2;go_ret;exact⟨rfl,rfl⟩
theorem IY:AllP 166 4:=by
 refine⟨fun b w=>?_,enters_of Tryz.func166 (by kernel_rfl) rfl⟩;go_in;go_wp2;go_ret;exact⟨rfl,rfl⟩
theorem Ie:AllP 167 5:=by
 refine⟨fun b w=>?_,enters_of Tryz.func167 (by kernel_rfl) rfl⟩;go_in;go_wp2;go_ret;exact⟨rfl,rfl⟩
theorem GK:AllP 168 19:=by
 refine⟨fun b w=>?_,enters_of Tryz.func168 (by kernel_rfl) rfl⟩;go_in;go_wp2;go_ret;exact⟨rfl,rfl⟩
theorem Gz:AllP 169 20:=by
 refine⟨fun b w=>?_,enters_of Tryz.func169 (by kernel_rfl) rfl⟩;go_in;go_wp2;go_ret;exact⟨rfl,rfl⟩
theorem Gg:AllP 170 21:=by
 refine⟨fun b w=>?_,enters_of Tryz.func170 (by kernel_rfl) rfl⟩;go_in;go_wp2;go_ret;exact⟨rfl,rfl⟩
theorem GZ:AllP 171 24:=by
 refine⟨fun b w=>?_,enters_of Tryz.func171 (by kernel_rfl) rfl⟩;go_in;go_wp2;go_ret;exact⟨rfl,rfl⟩
section
variable {ff:FuncId} {ix:Nat} (H:AllP ff ix)
include H
theorem qZ(B tb fb ob:Nat)(cs0 cs:Array Value)(n:Int)(y0:Value)(w:World)(h0:w.heap[tb]?=some (oJ cs0))(h1:w.heap[fb]?=some (oJ cs))(hx:cs[ix]?=some (.int .u64 n))(hy:cs0[ix]?=some y0)
  (hf:w.heap[ob]?=some (.cells #[.func (.func ff) #[] #[]] 251)) (hB:B<=tb) :
  Calls Tryz.prog 218 #[.pointer (some ⟨tb,0,none⟩),.pointer (some ⟨fb,0,none⟩),.pointer (some ⟨ob,0,none⟩)] w fun e w'=>e=.returned (.tuple #[])/\w'.heap[tb]?=some (oJ (cs0.setIfInBounds ix (.int .u64 n)))/\Oth B tb w w':=by
 have hmo:=hmO
 have hen:=H.ent;have hd:Below w.heap.size w w.drew:=(yaj _ _).drew;have s0:FnAt ob (.func (.func ff) #[] #[]) fb ix (.int .u64 n) w.drew:=⟨hf,qG h1 ix _ hx⟩
 have c9:w.drew.cell? ⟨tb,ix,none⟩=some y0:=qG (W:=w.drew) h0 ix y0 hy;have z9:w.drew.frozen? ⟨tb,ix,none⟩=false:=xC (W:=w.drew) h0 ix;have hO:Oth B tb w (w.drew.setCell ⟨tb,ix,none⟩ (.int .u64 n)):=((Oth.refl B tb w).later (yae hB (yaZ (lA h0))) hd).set hB _ _;have hS:(w.drew.setCell ⟨tb,ix,none⟩ (.int .u64 n)).heap[tb]?=some (oJ (cs0.setIfInBounds ix (.int .u64 n))):=at_set (W:=w.drew) h0;clear hx hy h0 h1 hf;go_in;go_upto_region 0 with fail;refine dN (k:=9) (S:=FnAt ob (.func (.func ff) #[] #[]) fb ix (.int .u64 n)) hmo ?_;change bV _ _ _ _ _ _ _ _ _ (World.drew w);generalize World.drew w=W0 at *;have zf0:=fun (w0:World) (h:(FnAt ob (.func (.func ff) #[] #[]) fb ix (.int .u64 n)) w0)=>h.get;have zf1:=fun (w0:World) (h:(FnAt ob (.func (.func ff) #[] #[]) fb ix (.int .u64 n)) w0)=>h.cell;refine ztv 0 (.func (.func ff) #[] #[]) rfl ?_;go_simp;refine ztp 1 (pp tb 0) rfl ?_;go_simp;refine ztv 3 (.func (.func ff) #[] #[]) rfl ?_;go_simp;refine ztp 4 (pp fb 0) rfl ?_;go_simp;refine zT1 2 rfl (fun K hK=>?_);go_simp;refine (H.calls tb W0).mono ?_;rintro e _ ⟨rfl,rfl⟩;go_simp;refine hK _ _ ⟨.inr s0,?_⟩;clear hK K;refine zT1 5 rfl (fun K hK=>?_);go_simp;refine (H.calls fb W0).mono ?_;rintro e _ ⟨rfl,rfl⟩;go_simp;refine hK _ _ ⟨.inr s0,?_⟩;clear hK K;refine ztv 6 (.pointer (some ⟨fb,ix,none⟩)) rfl ?_;go_simp;refine ztv 7 (.int .u64 n) rfl ?_;go_simp;refine ztv 8 (.pointer (some ⟨tb,ix,none⟩)) rfl ?_;go_simp;refine nM (by kernel_rfl) (by kernel_rfl) ?_;refine zA1 9 rfl (fun K hK=>?_);go_simp;go_simp;refine hK _ _ ?_;clear hK K;refine yby (by kernel_rfl) ?_ _;refine yaL (yaJ rfl _ _ _) rfl ?_;exact⟨rfl,hS,hO⟩
theorem wI(t:UInt8)(ht:0<t.toNat)(B g fb tb ob:Nat)(l:List UInt8)(v:Value)(cs:Array Value)(n:Nat)(w:World)(hw:WrAt B g l 0 v w)(hl:l.length<=100000000)(h1:w.heap[fb]?=some (oJ cs))(hx:cs[ix]?=some (.int .u64 (n:Int)))
  (hf:plainAt w (t.toNat:Int) (.func (.func ff) #[] #[]) tb ob) :
  Calls Tryz.prog 219 #[.pointer (some ⟨g,0,none⟩),.pointer (some ⟨fb,0,none⟩),.pointer (some ⟨tb,0,none⟩),.pointer (some ⟨ob,0,none⟩)] w fun e w'=>e=.returned (.tuple #[])/\∃v',WrAt B g (l++val t (au n)) 0 v' w'/\Below B w w'/\KeepW g v v' w w':=by
 have hmo:=hmO
 have hen:=H.ent;have hd:Below w.heap.size w w.drew:=(yaj _ _).drew;have s0:TgAt tb (t.toNat:Int) ob (.func (.func ff) #[] #[]) fb ix (.int .u64 (n:Int)) w.drew:=⟨hf.2,qG h1 ix _ hx,hf.1⟩
 have hw0:=hw.later hd;have hlt:=hw.lt;have hle:=hw.le;clear hx h1 hf;go_in;go_upto_region 0 with fail;refine dN (k:=7) (S:=TgAt tb (t.toNat:Int) ob (.func (.func ff) #[] #[]) fb ix (.int .u64 (n:Int))) hmo ?_;change bV _ _ _ _ _ _ _ _ _ (World.drew w);generalize World.drew w=W0 at *;have zf0:=fun (w0:World) (h:(TgAt tb (t.toNat:Int) ob (.func (.func ff) #[] #[]) fb ix (.int .u64 (n:Int))) w0)=>h.get;have zf1:=fun (w0:World) (h:(TgAt tb (t.toNat:Int) ob (.func (.func ff) #[] #[]) fb ix (.int .u64 (n:Int))) w0)=>h.cell;refine ztp 0 (pp g 0) rfl ?_;go_simp;refine ztv 1 (.int .u8 (t.toNat:Int)) rfl ?_;go_simp;refine ztv 2 (.func (.func ff) #[] #[]) rfl ?_;go_simp;refine ztp 3 (pp fb 0) rfl ?_;go_simp;refine zT1 4 rfl (fun K hK=>?_);go_simp;refine (H.calls fb W0).mono ?_;rintro e _ ⟨rfl,rfl⟩;go_simp;refine hK _ _ ⟨.inr s0,?_⟩;clear hK K;refine ztp 5 (.pointer (some ⟨fb,ix,none⟩)) rfl ?_;go_simp;refine ztv 6 (.int .u64 (n:Int)) rfl ?_;go_simp;refine nM (by kernel_rfl) (by kernel_rfl) ?_;refine zA1 7 rfl (fun K hK=>?_);go_simp;refine (ui B g l v t n W0 hw0 ht hl).mono ?_;rintro e W1 ⟨rfl,v1,q1,q2,q3⟩;go_simp;refine hK _ _ ?_;clear hK K;refine yby (by kernel_rfl) ?_ _;refine yaL (yaJ rfl _ _ _) rfl ?_;exact⟨rfl,v1,q1,(hd.mono (by omega)).trans q2,q3.after hd⟩
end
def fn1:Value:=.func (.func 164) #[] #[]
def fn6:Value:=.func (.func 169) #[] #[]
theorem Px{size:Nat}{e t:TypeId}{xs:List Value}(h:W.ownsRow B e size v n xs)(hn:2<=n*size)(hk:W.heap[k]?=some (.cells #[x] t)):v.ownBlock≠some k:=by
 intro e';rcases h.2 with ⟨rfl,_⟩ | ⟨g',cap,cur,rfl,_,hc,h1,h2,h3,h4⟩
 ·cases e'
 have:g'=k:=by simpa [Value.ownBlock] using e'
 subst this;rw[hk] at hc;have e2:cur=#[x]:=by cases hc;rfl
 have h5:=yae (ybc size h1) (yaR h3.symm);rw[e2] at h5;simp at h5;omega
theorem LQ{l:List UInt8}(h:W.ownsRow B 5 1 v n (byV l))(hl:0<l.length)(hk:W.cell? ⟨k,0,none⟩=some x)(hx:∀z,x≠.int .u8 z):v.ownBlock≠some k:=by
 intro e';obtain⟨ao,cap,rfl,hr⟩:=Rd.of_own h;rcases h.2 with ⟨h1,_⟩ | ⟨g',cap',cur,h1,_⟩
 ·cases h1;cases e'
 cases h1;have:g'=k:=by simpa [Value.ownBlock] using e'
 subst this;have hlen:=hr.1;rw[aV] at hlen;obtain⟨-,-,q⟩:=hr.2.2.2.2 (by have:=hr.2.1;omega) _ rfl;cases l with
 | nil=>simp at hl
 | cons c l=>
  have:=q 0 (.int .u8 (c.toNat:Int)) rfl;rw[show (0:Nat)+0=0 by rfl] at this;rw[hk] at this;exact hx _ (yaf this)
