/-
  A part of the proof.
-/
import Derived.Laws.EntriesVeiled
import Derived.Deep.Cut
import Derived.Lib.SliceRun
import Derived.Test.YtfmmandlmbcncaaGreatDoorKdag
set_option maxHeartbeats 40000000
set_option maxRecDepth 100000
namespace Go.Proofs.YtfmmandlmbcncaaGreatDoor.Msg
open Go.RowKit Go.Lib Mem
def mapM (k:Int):List UInt8:=
 if k=1 then [113] else if k=2 then [99,117,114] else if k=3 then [113,97,109] else if k=4 then [102,97] else if k=6 then [102,101] else if k=7 then [110,102,101] else if k=8 then [101] else if k=9 then [102,111] else if k=10 then [102,111,119,101] else if k=11 then [102,97] else []
def fA (k:Int)(whole:Bool):List UInt8:=
 mapM k++(if k=10/\whole=true then [109,98,115,108] else [])++(if k=7\/k=8\/k=12 then [98,115,108,109,118] else if k=5 then [109,118] else if k=2\/k=3\/k=4\/k=6\/k=10\/k=11 then [118] else [])
def uI:Array MapEntry:=#[{ key:=.int .i64 1,val:=.agg #[.string ⟨#[113]⟩],born:=0 },{ key:=.int .i64 2,val:=.agg #[.string ⟨#[99,117,114]⟩],born:=1 },{ key:=.int .i64 3,val:=.agg #[.string ⟨#[113,97,109]⟩],born:=2 },{ key:=.int .i64 4,val:=.agg #[.string ⟨#[102,97]⟩],born:=3 },{ key:=.int .i64 6,val:=.agg #[.string ⟨#[102,101]⟩],born:=4 },{ key:=.int .i64 7,val:=.agg #[.string ⟨#[110,102,101]⟩],born:=5 },{ key:=.int .i64 8,val:=.agg #[.string ⟨#[101]⟩],born:=6 },{ key:=.int .i64 9,val:=.agg #[.string ⟨#[102,111]⟩],born:=7 },{ key:=.int .i64 10,val:=.agg #[.string ⟨#[102,111,119,101]⟩],born:=8 },{ key:=.int .i64 11,val:=.agg #[.string ⟨#[102,97]⟩],born:=9 }]
theorem F8 (k:Int):∃r,Instr.findNow (.int .i64) (.int .i64 k) uI.toList 0=some r/\(r.map (·.2)).getD (.agg #[.string ⟨#[]⟩])=.agg #[.string ⟨(mapM k).toArray⟩]:=by
 simp only[uI,Instr.findNow,Instr.sameNow,if_true];unfold mapM;by_cases h1:k=1
 ·subst h1;exact⟨_,rfl,rfl⟩
 have b1:(k==1)=false:=by simp[h1]
 by_cases h2:k=2
 ·subst h2;exact⟨_,rfl,rfl⟩
 have b2:(k==2)=false:=by simp[h2]
 by_cases h3:k=3
 ·subst h3;exact⟨_,rfl,rfl⟩
 have b3:(k==3)=false:=by simp[h3]
 by_cases h4:k=4
 ·subst h4;exact⟨_,rfl,rfl⟩
 have b4:(k==4)=false:=by simp[h4]
 by_cases h6:k=6
 ·subst h6;exact⟨_,rfl,rfl⟩
 have b6:(k==6)=false:=by simp[h6]
 by_cases h7:k=7
 ·subst h7;exact⟨_,rfl,rfl⟩
 have b7:(k==7)=false:=by simp[h7]
 by_cases h8:k=8
 ·subst h8;exact⟨_,rfl,rfl⟩
 have b8:(k==8)=false:=by simp[h8]
 by_cases h9:k=9
 ·subst h9;exact⟨_,rfl,rfl⟩
 have b9:(k==9)=false:=by simp[h9]
 by_cases h10:k=10
 ·subst h10;exact⟨_,rfl,rfl⟩
 have b10:(k==10)=false:=by simp[h10]
 by_cases h11:k=11
 ·subst h11;exact⟨_,rfl,rfl⟩
 have b11:(k==11)=false:=by simp[h11]
 simp only[h1,h2,h3,h4,h6,h7,h8,h9,h10,h11,b1,b2,b3,b4,b6,b7,b8,b9,b10,b11,if_false];exact⟨_,rfl,rfl⟩
theorem pz (k:Int)(whole:Bool)(w:World):Calls Tryz.prog 112 #[.int .i64 k,.bool whole] w fun e w'=>e=.returned (.string ⟨(fA k whole).toArray⟩)/\Below w.heap.size w w':=by
 have hm:Tryz.prog.underlying 238=some (.map 53 202):=Tryz.underlying238;have hk:Tryz.prog.underlying 53=some (.int .i64):=Tryz.underlying53;have h0:Sem.run Tryz.prog (Instr.makeMap 238 none) w=.ok (.map (some w.heap.size)) (w.alloc (.map #[] 0)):=by simp[Instr.makeMap]
 have r0:Sem.run Tryz.prog (Instr.mapUpdate 238 (.map (some w.heap.size)) (.int .i64 1) (.agg #[.string ⟨#[113]⟩])) (w.alloc (.map #[] 0))=.ok () (w.alloc (.map #[{ key:=.int .i64 1,val:=.agg #[.string ⟨#[113]⟩],born:=0 }] 1)):=bW w _ _ _ .i64 #[] 0 1 _ hm hk (by rfl);have r1:Sem.run Tryz.prog (Instr.mapUpdate 238 (.map (some w.heap.size)) (.int .i64 2) (.agg #[.string ⟨#[99,117,114]⟩])) (w.alloc (.map #[{ key:=.int .i64 1,val:=.agg #[.string ⟨#[113]⟩],born:=0 }] 1))=.ok () (w.alloc (.map #[{ key:=.int .i64 1,val:=.agg #[.string ⟨#[113]⟩],born:=0 },{ key:=.int .i64 2,val:=.agg #[.string ⟨#[99,117,114]⟩],born:=1 }] 2)):=bW w _ _ _ .i64 #[{ key:=.int .i64 1,val:=.agg #[.string ⟨#[113]⟩],born:=0 }] 1 2 _ hm hk (by rfl);have r2:Sem.run Tryz.prog (Instr.mapUpdate 238 (.map (some w.heap.size)) (.int .i64 3) (.agg #[.string ⟨#[113,97,109]⟩])) (w.alloc (.map #[{ key:=.int .i64 1,val:=.agg #[.string ⟨#[113]⟩],born:=0 },{ key:=.int .i64 2,val:=.agg #[.string ⟨#[99,117,114]⟩],born:=1 }] 2))=.ok () (w.alloc (.map #[{ key:=.int .i64 1,val:=.agg #[.string ⟨#[113]⟩],born:=0 },{ key:=.int .i64 2,val:=.agg #[.string ⟨#[99,117,114]⟩],born:=1 },{ key:=.int .i64 3,val:=.agg #[.string ⟨#[113,97,109]⟩],born:=2 }] 3)):=bW w _ _ _ .i64 #[{ key:=.int .i64 1,val:=.agg #[.string ⟨#[113]⟩],born:=0 },{ key:=.int .i64 2,val:=.agg #[.string ⟨#[99,117,114]⟩],born:=1 }] 2 3 _ hm hk (by rfl);have r3:Sem.run Tryz.prog (Instr.mapUpdate 238 (.map (some w.heap.size)) (.int .i64 4) (.agg #[.string ⟨#[102,97]⟩])) (w.alloc (.map #[{ key:=.int .i64 1,val:=.agg #[.string ⟨#[113]⟩],born:=0 },{ key:=.int .i64 2,val:=.agg #[.string ⟨#[99,117,114]⟩],born:=1 },{ key:=.int .i64 3,val:=.agg #[.string ⟨#[113,97,109]⟩],born:=2 }] 3))=.ok () (w.alloc (.map #[{ key:=.int .i64 1,val:=.agg #[.string ⟨#[113]⟩],born:=0 },{ key:=.int .i64 2,val:=.agg #[.string ⟨#[99,117,114]⟩],born:=1 },{ key:=.int .i64 3,val:=.agg #[.string ⟨#[113,97,109]⟩],born:=2 },{ key:=.int .i64 4,val:=.agg #[.string ⟨#[102,97]⟩],born:=3 }] 4)):=bW w _ _ _ .i64 #[{ key:=.int .i64 1,val:=.agg #[.string ⟨#[113]⟩],born:=0 },{ key:=.int .i64 2,val:=.agg #[.string ⟨#[99,117,114]⟩],born:=1 },{ key:=.int .i64 3,val:=.agg #[.string ⟨#[113,97,109]⟩],born:=2 }] 3 4 _ hm hk (by rfl);have r4:Sem.run Tryz.prog (Instr.mapUpdate 238 (.map (some w.heap.size)) (.int .i64 6) (.agg #[.string ⟨#[102,101]⟩])) (w.alloc (.map #[{ key:=.int .i64 1,val:=.agg #[.string ⟨#[113]⟩],born:=0 },{ key:=.int .i64 2,val:=.agg #[.string ⟨#[99,117,114]⟩],born:=1 },{ key:=.int .i64 3,val:=.agg #[.string ⟨#[113,97,109]⟩],born:=2 },{ key:=.int .i64 4,val:=.agg #[.string ⟨#[102,97]⟩],born:=3 }] 4))=.ok () (w.alloc (.map #[{ key:=.int .i64 1,val:=.agg #[.string ⟨#[113]⟩],born:=0 },{ key:=.int .i64 2,val:=.agg #[.string ⟨#[99,117,114]⟩],born:=1 },{ key:=.int .i64 3,val:=.agg #[.string ⟨#[113,97,109]⟩],born:=2 },{ key:=.int .i64 4,val:=.agg #[.string ⟨#[102,97]⟩],born:=3 },{ key:=.int .i64 6,val:=.agg #[.string ⟨#[102,101]⟩],born:=4 }] 5)):=bW w _ _ _ .i64 #[{ key:=.int .i64 1,val:=.agg #[.string ⟨#[113]⟩],born:=0 },{ key:=.int .i64 2,val:=.agg #[.string ⟨#[99,117,114]⟩],born:=1 },{ key:=.int .i64 3,val:=.agg #[.string ⟨#[113,97,109]⟩],born:=2 },{ key:=.int .i64 4,val:=.agg #[.string ⟨#[102,97]⟩],born:=3 }] 4 6 _ hm hk (by rfl);have r5:Sem.run Tryz.prog (Instr.mapUpdate 238 (.map (some w.heap.size)) (.int .i64 7) (.agg #[.string ⟨#[110,102,101]⟩])) (w.alloc (.map #[{ key:=.int .i64 1,val:=.agg #[.string ⟨#[113]⟩],born:=0 },{ key:=.int .i64 2,val:=.agg #[.string ⟨#[99,117,114]⟩],born:=1 },{ key:=.int .i64 3,val:=.agg #[.string ⟨#[113,97,109]⟩],born:=2 },{ key:=.int .i64 4,val:=.agg #[.string ⟨#[102,97]⟩],born:=3 },{ key:=.int .i64 6,val:=.agg #[.string ⟨#[102,101]⟩],born:=4 }] 5))=.ok () (w.alloc (.map #[{ key:=.int .i64 1,val:=.agg #[.string ⟨#[113]⟩],born:=0 },{ key:=.int .i64 2,val:=.agg #[.string ⟨#[99,117,114]⟩],born:=1 },{ key:=.int .i64 3,val:=.agg #[.string ⟨#[113,97,109]⟩],born:=2 },{ key:=.int .i64 4,val:=.agg #[.string ⟨#[102,97]⟩],born:=3 },{ key:=.int .i64 6,val:=.agg #[.string ⟨#[102,101]⟩],born:=4 },{ key:=.int .i64 7,val:=.agg #[.string ⟨#[110,102,101]⟩],born:=5 }] 6)):=bW w _ _ _ .i64 #[{ key:=.int .i64 1,val:=.agg #[.string ⟨#[113]⟩],born:=0 },{ key:=.int .i64 2,val:=.agg #[.string ⟨#[99,117,114]⟩],born:=1 },{ key:=.int .i64 3,val:=.agg #[.string ⟨#[113,97,109]⟩],born:=2 },{ key:=.int .i64 4,val:=.agg #[.string ⟨#[102,97]⟩],born:=3 },{ key:=.int .i64 6,val:=.agg #[.string ⟨#[102,101]⟩],born:=4 }] 5 7 _ hm hk (by rfl);have r6:Sem.run Tryz.prog (Instr.mapUpdate 238 (.map (some w.heap.size)) (.int .i64 8) (.agg #[.string ⟨#[101]⟩])) (w.alloc (.map #[{ key:=.int .i64 1,val:=.agg #[.string ⟨#[113]⟩],born:=0 },{ key:=.int .i64 2,val:=.agg #[.string ⟨#[99,117,114]⟩],born:=1 },{ key:=.int .i64 3,val:=.agg #[.string ⟨#[113,97,109]⟩],born:=2 },{ key:=.int .i64 4,val:=.agg #[.string ⟨#[102,97]⟩],born:=3 },{ key:=.int .i64 6,val:=.agg #[.string ⟨#[102,101]⟩],born:=4 },{ key:=.int .i64 7,val:=.agg #[.string ⟨#[110,102,101]⟩],born:=5 }] 6))=.ok () (w.alloc (.map #[{ key:=.int .i64 1,val:=.agg #[.string ⟨#[113]⟩],born:=0 },{ key:=.int .i64 2,val:=.agg #[.string ⟨#[99,117,114]⟩],born:=1 },{ key:=.int .i64 3,val:=.agg #[.string ⟨#[113,97,109]⟩],born:=2 },{ key:=.int .i64 4,val:=.agg #[.string ⟨#[102,97]⟩],born:=3 },{ key:=.int .i64 6,val:=.agg #[.string ⟨#[102,101]⟩],born:=4 },{ key:=.int .i64 7,val:=.agg #[.string ⟨#[110,102,101]⟩],born:=5 },{ key:=.int .i64 8,val:=.agg #[.string ⟨#[101]⟩],born:=6 }] 7)):=bW w _ _ _ .i64 #[{ key:=.int .i64 1,val:=.agg #[.string ⟨#[113]⟩],born:=0 },{ key:=.int .i64 2,val:=.agg #[.string ⟨#[99,117,114]⟩],born:=1 },{ key:=.int .i64 3,val:=.agg #[.string ⟨#[113,97,109]⟩],born:=2 },{ key:=.int .i64 4,val:=.agg #[.string ⟨#[102,97]⟩],born:=3 },{ key:=.int .i64 6,val:=.agg #[.string ⟨#[102,101]⟩],born:=4 },{ key:=.int .i64 7,val:=.agg #[.string ⟨#[110,102,101]⟩],born:=5 }] 6 8 _ hm hk (by rfl);have r7:Sem.run Tryz.prog (Instr.mapUpdate 238 (.map (some w.heap.size)) (.int .i64 9) (.agg #[.string ⟨#[102,111]⟩])) (w.alloc (.map #[{ key:=.int .i64 1,val:=.agg #[.string ⟨#[113]⟩],born:=0 },{ key:=.int .i64 2,val:=.agg #[.string ⟨#[99,117,114]⟩],born:=1 },{ key:=.int .i64 3,val:=.agg #[.string ⟨#[113,97,109]⟩],born:=2 },{ key:=.int .i64 4,val:=.agg #[.string ⟨#[102,97]⟩],born:=3 },{ key:=.int .i64 6,val:=.agg #[.string ⟨#[102,101]⟩],born:=4 },{ key:=.int .i64 7,val:=.agg #[.string ⟨#[110,102,101]⟩],born:=5 },{ key:=.int .i64 8,val:=.agg #[.string ⟨#[101]⟩],born:=6 }] 7))=.ok () (w.alloc (.map #[{ key:=.int .i64 1,val:=.agg #[.string ⟨#[113]⟩],born:=0 },{ key:=.int .i64 2,val:=.agg #[.string ⟨#[99,117,114]⟩],born:=1 },{ key:=.int .i64 3,val:=.agg #[.string ⟨#[113,97,109]⟩],born:=2 },{ key:=.int .i64 4,val:=.agg #[.string ⟨#[102,97]⟩],born:=3 },{ key:=.int .i64 6,val:=.agg #[.string ⟨#[102,101]⟩],born:=4 },{ key:=.int .i64 7,val:=.agg #[.string ⟨#[110,102,101]⟩],born:=5 },{ key:=.int .i64 8,val:=.agg #[.string ⟨#[101]⟩],born:=6 },{ key:=.int .i64 9,val:=.agg #[.string ⟨#[102,111]⟩],born:=7 }] 8)):=bW w _ _ _ .i64 #[{ key:=.int .i64 1,val:=.agg #[.string ⟨#[113]⟩],born:=0 },{ key:=.int .i64 2,val:=.agg #[.string ⟨#[99,117,114]⟩],born:=1 },{ key:=.int .i64 3,val:=.agg #[.string ⟨#[113,97,109]⟩],born:=2 },{ key:=.int .i64 4,val:=.agg #[.string ⟨#[102,97]⟩],born:=3 },{ key:=.int .i64 6,val:=.agg #[.string ⟨#[102,101]⟩],born:=4 },{ key:=.int .i64 7,val:=.agg #[.string ⟨#[110,102,101]⟩],born:=5 },{ key:=.int .i64 8,val:=.agg #[.string ⟨#[101]⟩],born:=6 }] 7 9 _ hm hk (by rfl);have r8:Sem.run Tryz.prog (Instr.mapUpdate 238 (.map (some w.heap.size)) (.int .i64 10) (.agg #[.string ⟨#[102,111,119,101]⟩])) (w.alloc (.map #[{ key:=.int .i64 1,val:=.agg #[.string ⟨#[113]⟩],born:=0 },{ key:=.int .i64 2,val:=.agg #[.string ⟨#[99,117,114]⟩],born:=1 },{ key:=.int .i64 3,val:=.agg #[.string ⟨#[113,97,109]⟩],born:=2 },{ key:=.int .i64 4,val:=.agg #[.string ⟨#[102,97]⟩],born:=3 },{ key:=.int .i64 6,val:=.agg #[.string ⟨#[102,101]⟩],born:=4 },{ key:=.int .i64 7,val:=.agg #[.string ⟨#[110,102,101]⟩],born:=5 },{ key:=.int .i64 8,val:=.agg #[.string ⟨#[101]⟩],born:=6 },{ key:=.int .i64 9,val:=.agg #[.string ⟨#[102,111]⟩],born:=7 }] 8))=.ok () (w.alloc (.map #[{ key:=.int .i64 1,val:=.agg #[.string ⟨#[113]⟩],born:=0 },{ key:=.int .i64 2,val:=.agg #[.string ⟨#[99,117,114]⟩],born:=1 },{ key:=.int .i64 3,val:=.agg #[.string ⟨#[113,97,109]⟩],born:=2 },{ key:=.int .i64 4,val:=.agg #[.string ⟨#[102,97]⟩],born:=3 },{ key:=.int .i64 6,val:=.agg #[.string ⟨#[102,101]⟩],born:=4 },{ key:=.int .i64 7,val:=.agg #[.string ⟨#[110,102,101]⟩],born:=5 },{ key:=.int .i64 8,val:=.agg #[.string ⟨#[101]⟩],born:=6 },{ key:=.int .i64 9,val:=.agg #[.string ⟨#[102,111]⟩],born:=7 },{ key:=.int .i64 10,val:=.agg #[.string ⟨#[102,111,119,101]⟩],born:=8 }] 9)):=bW w _ _ _ .i64 #[{ key:=.int .i64 1,val:=.agg #[.string ⟨#[113]⟩],born:=0 },{ key:=.int .i64 2,val:=.agg #[.string ⟨#[99,117,114]⟩],born:=1 },{ key:=.int .i64 3,val:=.agg #[.string ⟨#[113,97,109]⟩],born:=2 },{ key:=.int .i64 4,val:=.agg #[.string ⟨#[102,97]⟩],born:=3 },{ key:=.int .i64 6,val:=.agg #[.string ⟨#[102,101]⟩],born:=4 },{ key:=.int .i64 7,val:=.agg #[.string ⟨#[110,102,101]⟩],born:=5 },{ key:=.int .i64 8,val:=.agg #[.string ⟨#[101]⟩],born:=6 },{ key:=.int .i64 9,val:=.agg #[.string ⟨#[102,111]⟩],born:=7 }] 8 10 _ hm hk (by rfl);have r9:Sem.run Tryz.prog (Instr.mapUpdate 238 (.map (some w.heap.size)) (.int .i64 11) (.agg #[.string ⟨#[102,97]⟩])) (w.alloc (.map #[{ key:=.int .i64 1,val:=.agg #[.string ⟨#[113]⟩],born:=0 },{ key:=.int .i64 2,val:=.agg #[.string ⟨#[99,117,114]⟩],born:=1 },{ key:=.int .i64 3,val:=.agg #[.string ⟨#[113,97,109]⟩],born:=2 },{ key:=.int .i64 4,val:=.agg #[.string ⟨#[102,97]⟩],born:=3 },{ key:=.int .i64 6,val:=.agg #[.string ⟨#[102,101]⟩],born:=4 },{ key:=.int .i64 7,val:=.agg #[.string ⟨#[110,102,101]⟩],born:=5 },{ key:=.int .i64 8,val:=.agg #[.string ⟨#[101]⟩],born:=6 },{ key:=.int .i64 9,val:=.agg #[.string ⟨#[102,111]⟩],born:=7 },{ key:=.int .i64 10,val:=.agg #[.string ⟨#[102,111,119,101]⟩],born:=8 }] 9))=.ok () (w.alloc (.map #[{ key:=.int .i64 1,val:=.agg #[.string ⟨#[113]⟩],born:=0 },{ key:=.int .i64 2,val:=.agg #[.string ⟨#[99,117,114]⟩],born:=1 },{ key:=.int .i64 3,val:=.agg #[.string ⟨#[113,97,109]⟩],born:=2 },{ key:=.int .i64 4,val:=.agg #[.string ⟨#[102,97]⟩],born:=3 },{ key:=.int .i64 6,val:=.agg #[.string ⟨#[102,101]⟩],born:=4 },{ key:=.int .i64 7,val:=.agg #[.string ⟨#[110,102,101]⟩],born:=5 },{ key:=.int .i64 8,val:=.agg #[.string ⟨#[101]⟩],born:=6 },{ key:=.int .i64 9,val:=.agg #[.string ⟨#[102,111]⟩],born:=7 },{ key:=.int .i64 10,val:=.agg #[.string ⟨#[102,111,119,101]⟩],born:=8 },{ key:=.int .i64 11,val:=.agg #[.string ⟨#[102,97]⟩],born:=9 }] 10)):=bW w _ _ _ .i64 #[{ key:=.int .i64 1,val:=.agg #[.string ⟨#[113]⟩],born:=0 },{ key:=.int .i64 2,val:=.agg #[.string ⟨#[99,117,114]⟩],born:=1 },{ key:=.int .i64 3,val:=.agg #[.string ⟨#[113,97,109]⟩],born:=2 },{ key:=.int .i64 4,val:=.agg #[.string ⟨#[102,97]⟩],born:=3 },{ key:=.int .i64 6,val:=.agg #[.string ⟨#[102,101]⟩],born:=4 },{ key:=.int .i64 7,val:=.agg #[.string ⟨#[110,102,101]⟩],born:=5 },{ key:=.int .i64 8,val:=.agg #[.string ⟨#[101]⟩],born:=6 },{ key:=.int .i64 9,val:=.agg #[.string ⟨#[102,111]⟩],born:=7 },{ key:=.int .i64 10,val:=.agg #[.string ⟨#[102,111,119,101]⟩],born:=8 }] 9 11 _ hm hk (by rfl);obtain⟨r,hr,hv⟩:=F8 k;have hz:(zeroValue 202).run Tryz.prog (w.alloc (.map uI 10))=.ok (.agg #[.string ⟨#[]⟩]) (w.alloc (.map uI 10)):=by kernel_rfl
 have hl:=uz w _ _ _ .i64 uI 10 k _ hm hk hz hr;rw[hv] at hl;have hf:∀(s:ByteArray) (W:World),Sem.run Tryz.prog (Instr.field 202 (.agg #[.string s]) 0) W=.ok (.string s) W:=fun _ _=>by kernel_rfl
 have hb:Below w.heap.size w (w.alloc (.map #[{ key:=.int .i64 1,val:=.agg #[.string ⟨#[113]⟩],born:=0 },{ key:=.int .i64 2,val:=.agg #[.string ⟨#[99,117,114]⟩],born:=1 },{ key:=.int .i64 3,val:=.agg #[.string ⟨#[113,97,109]⟩],born:=2 },{ key:=.int .i64 4,val:=.agg #[.string ⟨#[102,97]⟩],born:=3 },{ key:=.int .i64 6,val:=.agg #[.string ⟨#[102,101]⟩],born:=4 },{ key:=.int .i64 7,val:=.agg #[.string ⟨#[110,102,101]⟩],born:=5 },{ key:=.int .i64 8,val:=.agg #[.string ⟨#[101]⟩],born:=6 },{ key:=.int .i64 9,val:=.agg #[.string ⟨#[102,111]⟩],born:=7 },{ key:=.int .i64 10,val:=.agg #[.string ⟨#[102,111,119,101]⟩],born:=8 },{ key:=.int .i64 11,val:=.agg #[.string ⟨#[102,97]⟩],born:=9 }] 10)):=(Below.refl _ _).alloc (Nat.le_refl _) _;clear hr hv hz hm hk;unfold uI at hl;by_cases k1:k=1
 ·subst k1;go_in;go_wp2_with fail;go_ret;exact⟨by cases whole<;>rfl,hb⟩
 have g1:(k==1)=false:=by simp[k1]
 by_cases k2:k=2
 ·subst k2;go_in;go_wp2_with fail;go_ret;exact⟨by cases whole<;>rfl,hb⟩
 have g2:(k==2)=false:=by simp[k2]
 by_cases k3:k=3
 ·subst k3;go_in;go_wp2_with fail;go_ret;exact⟨by cases whole<;>rfl,hb⟩
 have g3:(k==3)=false:=by simp[k3]
 by_cases k4:k=4
 ·subst k4;go_in;go_wp2_with fail;go_ret;exact⟨by cases whole<;>rfl,hb⟩
 have g4:(k==4)=false:=by simp[k4]
 by_cases k5:k=5
 ·subst k5;go_in;go_wp2_with fail;go_ret;exact⟨by cases whole<;>rfl,hb⟩
 have g5:(k==5)=false:=by simp[k5]
 by_cases k6:k=6
 ·subst k6;go_in;go_wp2_with fail;go_ret;exact⟨by cases whole<;>rfl,hb⟩
 have g6:(k==6)=false:=by simp[k6]
 by_cases k7:k=7
 ·subst k7;go_in;go_wp2_with fail;go_ret;exact⟨by cases whole<;>rfl,hb⟩
 have g7:(k==7)=false:=by simp[k7]
 by_cases k8:k=8
 ·subst k8;go_in;go_wp2_with fail;go_ret;exact⟨by cases whole<;>rfl,hb⟩
 have g8:(k==8)=false:=by simp[k8]
 by_cases k9:k=9
 ·subst k9;go_in;go_wp2_with fail;go_ret;exact⟨by cases whole<;>rfl,hb⟩
 have g9:(k==9)=false:=by simp[k9]
 by_cases k10:k=10
 ·subst k10;cases whole with
  | true=>
   go_in;go_wp2_with fail;go_ret;exact⟨by rfl,hb⟩
  | false=>
   go_in;go_wp2_with fail;go_ret;exact⟨by rfl,hb⟩
 have g10:(k==10)=false:=by simp[k10]
 by_cases k11:k=11
 ·subst k11;go_in;go_wp2_with fail;go_ret;exact⟨by cases whole<;>rfl,hb⟩
 have g11:(k==11)=false:=by simp[k11]
 by_cases k12:k=12
 ·subst k12;go_in;go_wp2_with fail;go_ret;exact⟨by cases whole<;>rfl,hb⟩
 have g12:(k==12)=false:=by simp[k12]
 have hE:Hid (fA k whole=mapM k):=hid (by simp[fA,k2,k3,k4,k5,k6,k7,k8,k10,k11,k12]);clear k1 k2 k3 k4 k5 k6 k7 k8 k9 k10 k11 k12;go_in;go_wp2_with fail;go_ret;exact⟨by rw[hE.out];rfl,hb⟩
structure FV where
 l:Int
 kp:Value
 pt:Value
 tk:Value
def FV.cells (f:FV):Array Value:=#[.int .i32 f.l,f.kp,f.pt,f.tk]
def FV.val (f:FV):Value:=.agg f.cells
def FV.box (f:FV):Obj:=.cells f.cells 171
def fV (l:List FV):List Value:=l.flatMap fun f=>f.cells.toList
theorem qh (l:List FV):(fV l).length=l.length*4:=by
 induction l with
 | nil=>rfl
 | cons x l ih=>simp only[fV,List.flatMap_cons,List.length_append,List.length_cons] at ih ⊢;rw[ih];simp[FV.cells];omega
theorem Pe (a b:List FV):fV (a++b)=fV a++fV b:=by simp[fV]
theorem wV (l:List FV)(k:Nat)(y:FV)(h:l[k]?=some y)(i:Nat)(hi:i<4):(fV l)[k*4+i]?=y.cells[i]?:=by
 induction l generalizing k with
 | nil=>simp at h
 | cons z xs ih=>
  have hz:z.cells.toList.length=4:=by simp[FV.cells]
  cases k with
  | zero=>
   rw[List.getElem?_cons_zero,Option.some.injEq] at h;subst h;simp only[fV,List.flatMap_cons];rw[List.getElem?_append_left (by omega)];simp
  | succ k=>
   rw[List.getElem?_cons_succ] at h;have h1:=ih k h;simp only[fV,List.flatMap_cons] at h1 ⊢;rw[List.getElem?_append_right (by omega),hz,<-h1]
   congr 1
   omega
theorem ou {W:World}{B:Nat}{f:FV}(h:W.heap[B]?=some f.box):W.cell? ⟨B,0,none⟩=some (.int .i32 f.l)/\W.cell? ⟨B,1,none⟩=some f.kp/\W.cell? ⟨B,2,none⟩=some f.pt/\W.cell? ⟨B,3,none⟩=some f.tk/\∀i,W.frozen? ⟨B,i,none⟩=false:=by
 unfold FV.box FV.cells at h;simp[World.cell?,World.frozen?,h]
theorem Eg {f:Func}{i:Nat}{tmps:Array Value}{W:World}{b:Nat}{r:FV}(hr:f.results=#[.cell i 171])(hp:tmps.getD i undef=.pointer (some ⟨b,0,none⟩))(h:W.heap[b]?=some r.box):(results f tmps).run Tryz.prog W=.ok r.val W:=by
 obtain⟨c0,c1,c2,c3,-⟩:=ou h;simp only[results,hr];have hp':tmps[i]?.getD undef=.pointer (some ⟨b,0,none⟩):=by simpa using hp
 unfold FV.val FV.cells;simp[hp',asAddr];go_simp
def eG (l:Int)(tb ob:Nat):FV:=⟨l,.func (.func 218) #[] #[.pointer (some ⟨ob,0,none⟩)],.func (.func 219) #[] #[.pointer (some ⟨tb,0,none⟩),.pointer (some ⟨ob,0,none⟩)],.func (.func 220) #[] #[.pointer (some ⟨tb,0,none⟩),.pointer (some ⟨ob,0,none⟩)]⟩
def plainAt (W:World)(t:Int)(fo:Value)(tb ob:Nat):Prop:=W.heap[tb]?=some (.cells #[.int .u8 t] 5)/\W.heap[ob]?=some (.cells #[fo] 251)
theorem plainAt.later {W W':World}{t:Int}{fo:Value}{tb ob:Nat}(h:plainAt W t fo tb ob)(hb:Below W.heap.size W W'):plainAt W' t fo tb ob:=
 ⟨(hb.block _ (Array.getElem?_eq_some_iff.1 h.1).1).trans h.1,(hb.block _ (Array.getElem?_eq_some_iff.1 h.2).1).trans h.2⟩
theorem ja (l t:Int)(ff:FuncId)(w:World):Calls Tryz.prog 163 #[.int .i32 l,.int .u8 t,(.func (.func ff) #[] #[])] w fun e w'=>e=.returned (eG l w.heap.size (w.heap.size+1)).val/\plainAt w' t (.func (.func ff) #[] #[]) w.heap.size (w.heap.size+1)/\Below w.heap.size w w'/\w'.heap.size=w.heap.size+3:=by
 go_in;go_wp2_with fail;generalize hg:((w.alloc _).alloc _).alloc _=W0;have e:((w.alloc (.cells #[.int .u8 t] 5)).alloc (.cells #[.func (.func ff) #[] #[]] 251)).alloc (eG l w.heap.size (w.heap.size+1)).box=W0:=by simp only[FV.box,FV.cells,eG];exact hg
 have k:=vK w (.cells #[.int .u8 t] 5) (.cells #[.func (.func ff) #[] #[]] 251) (eG l w.heap.size (w.heap.size+1)).box;have hb:=vP w (.cells #[.int .u8 t] 5) (.cells #[.func (.func ff) #[] #[]] 251) (eG l w.heap.size (w.heap.size+1)).box;rw[e] at k hb;obtain⟨k1,k2,k3⟩:=k;have hz:W0.heap.size=w.heap.size+3:=by rw[<-e];simp
 exact bodyPost_ret (Eg (i:=6) rfl rfl k3) rfl ⟨rfl,⟨k1,k2⟩,hb,hz⟩
def pO:List FV:=[
 ⟨102,.func (.func 186) #[] #[],.func (.func 187) #[] #[],.func (.func 188) #[] #[]⟩,
 ⟨113,.func (.func 189) #[] #[],.func (.func 190) #[] #[],.func (.func 192) #[] #[]⟩,
 ⟨114,.func (.func 195) #[] #[],.func (.func 196) #[] #[],.func (.func 198) #[] #[]⟩,
 ⟨115,.func (.func 200) #[] #[],.func (.func 201) #[] #[],.func (.func 202) #[] #[]⟩,
 ⟨108,.func (.func 203) #[] #[],.func (.func 204) #[] #[],.func (.func 206) #[] #[]⟩,
 ⟨119,.func (.func 209) #[] #[],.func (.func 210) #[] #[],.func (.func 211) #[] #[]⟩,
 ⟨101,.func (.func 213) #[] #[],.func (.func 214) #[] #[],.func (.func 216) #[] #[]⟩]
theorem Gq (w:World):Calls Tryz.prog 162 #[] w fun e w'=>e=.returned (.slice (some ⟨w.heap.size,0,none⟩) 7 7)/\w'.heap[w.heap.size]?=some (.cells (fV pO).toArray 171)/\Below w.heap.size w w':=by
 go_in;go_wp2_with fail;generalize hg:w.alloc _=W0;have e:w.alloc (.cells (fV pO).toArray 171)=W0:=by simp only[fV,pO,FV.cells,List.flatMap_cons,List.flatMap_nil,List.cons_append,List.nil_append,List.append_nil];exact hg
 have hb:Below w.heap.size w W0:=by rw[<-e];exact (Below.refl _ _).alloc (Nat.le_refl _) _
 have hk:W0.heap[w.heap.size]?=some (.cells (fV pO).toArray 171):=by rw[<-e];show (w.heap.push _)[w.heap.size]?=some _;exact Array.getElem?_push_size
 clear hg e;go_ret;exact⟨rfl,hk,hb⟩
def allL (t0 t1 t2 t3 t4 t5 t6 t7:Nat):List FV:=[
 eG 118 t0 (t0+1),
 eG 110 t1 (t1+1),
 ⟨102,.func (.func 186) #[] #[],.func (.func 187) #[] #[],.func (.func 188) #[] #[]⟩,
 eG 99 t2 (t2+1),
 eG 117 t3 (t3+1),
 ⟨113,.func (.func 189) #[] #[],.func (.func 190) #[] #[],.func (.func 192) #[] #[]⟩,
 ⟨114,.func (.func 195) #[] #[],.func (.func 196) #[] #[],.func (.func 198) #[] #[]⟩,
 eG 97 t4 (t4+1),
 eG 109 t5 (t5+1),
 eG 98 t6 (t6+1),
 ⟨115,.func (.func 200) #[] #[],.func (.func 201) #[] #[],.func (.func 202) #[] #[]⟩,
 ⟨108,.func (.func 203) #[] #[],.func (.func 204) #[] #[],.func (.func 206) #[] #[]⟩,
 eG 111 t7 (t7+1),
 ⟨119,.func (.func 209) #[] #[],.func (.func 210) #[] #[],.func (.func 211) #[] #[]⟩,
 ⟨101,.func (.func 213) #[] #[],.func (.func 214) #[] #[],.func (.func 216) #[] #[]⟩]
structure AllAt (t0 t1 t2 t3 t4 t5 t6 t7:Nat)(W:World):Prop where
 a0:plainAt W 2 (.func (.func 164) #[] #[]) t0 (t0+1)
 a1:plainAt W 3 (.func (.func 165) #[] #[]) t1 (t1+1)
 a2:plainAt W 5 (.func (.func 166) #[] #[]) t2 (t2+1)
 a3:plainAt W 6 (.func (.func 167) #[] #[]) t3 (t3+1)
 a4:plainAt W 9 (.func (.func 168) #[] #[]) t4 (t4+1)
 a5:plainAt W 10 (.func (.func 169) #[] #[]) t5 (t5+1)
 a6:plainAt W 11 (.func (.func 170) #[] #[]) t6 (t6+1)
 a7:plainAt W 14 (.func (.func 171) #[] #[]) t7 (t7+1)
theorem AllAt.later {t0 t1 t2 t3 t4 t5 t6 t7:Nat}{W W':World}(h:AllAt t0 t1 t2 t3 t4 t5 t6 t7 W)(hb:Below W.heap.size W W'):AllAt t0 t1 t2 t3 t4 t5 t6 t7 W':=
 ⟨h.a0.later hb,h.a1.later hb,h.a2.later hb,h.a3.later hb,h.a4.later hb,h.a5.later hb,h.a6.later hb,h.a7.later hb⟩
def PRow (pb:Nat)(W:World):Prop:=W.heap[pb]?=some (.cells (fV pO).toArray 171)
theorem PRow.step {pb:Nat}{W W':World}(h:PRow pb W)(hb:Below W.heap.size W W'):PRow pb W':=(hb.block _ (Array.getElem?_eq_some_iff.1 h).1).trans h
theorem cu {pb:Nat}{W:World}(h:PRow pb W)(j:Nat)(v:Value)(hv:(fV pO)[j]?=some v):W.cell? ⟨pb,j,none⟩=some v:=by
 unfold PRow at h;simp[World.cell?,h,hv]
theorem MG (w:World):Calls Tryz.prog 136 #[] w fun e w'=>∃b t0 t1 t2 t3 t4 t5 t6 t7,e=.returned (.slice (some ⟨b,0,none⟩) 15 15)/\w'.heap[b]?=some (.cells (fV (allL t0 t1 t2 t3 t4 t5 t6 t7)).toArray 171)/\AllAt t0 t1 t2 t3 t4 t5 t6 t7 w'/\Below w.heap.size w w'/\w.heap.size<=b:=by
 have hmo:Tryz.prog.follows .mixedOrders=true:=by kernel_rfl
 go_in;go_wp2_with fail;refine (Gq w).mono ?_;rintro e w1 ⟨rfl,hp,hb1⟩;obtain⟨pb,hpb⟩:∃pb,w.heap.size=pb:=⟨_,rfl⟩
 have s0:PRow pb w1.drew:=hpb▸hp;rw[hpb];clear hp;go_wp2_with fail;refine wp_region_held (S:=PRow pb) hmo ?_;change wpAnyH _ _ _ _ _ _ _ _ (World.drew w1);replace hb1:=hb1.drew;generalize w1.drew=V0 at *;refine zHp 2 (.slice (some ⟨pb,0,none⟩) 7 7) rfl s0 ?_;go_simp;refine zHa 3 (.pointer (some ⟨pb,0,none⟩)) rfl (by rintro w h;go_simp) s0 ?_;go_simp;refine zHa 4 (.agg #[.int .i32 102,.func (.func 186) #[] #[],.func (.func 187) #[] #[],.func (.func 188) #[] #[]]) rfl (by rintro w h;have c0:=cu h 0 _ rfl;have c1:=cu h 1 _ rfl;have c2:=cu h 2 _ rfl;have c3:=cu h 3 _ rfl;go_simp) s0 ?_;go_simp;refine zHp 7 (.slice (some ⟨pb,0,none⟩) 7 7) rfl s0 ?_;go_simp;refine zHa 8 (.pointer (some ⟨pb,4,none⟩)) rfl (by rintro w h;go_simp) s0 ?_;go_simp;refine zHa 9 (.agg #[.int .i32 113,.func (.func 189) #[] #[],.func (.func 190) #[] #[],.func (.func 192) #[] #[]]) rfl (by rintro w h;have c0:=cu h 4 _ rfl;have c1:=cu h 5 _ rfl;have c2:=cu h 6 _ rfl;have c3:=cu h 7 _ rfl;go_simp) s0 ?_;go_simp;refine zHp 10 (.slice (some ⟨pb,0,none⟩) 7 7) rfl s0 ?_;go_simp;refine zHa 11 (.pointer (some ⟨pb,8,none⟩)) rfl (by rintro w h;go_simp) s0 ?_;go_simp;refine zHa 12 (.agg #[.int .i32 114,.func (.func 195) #[] #[],.func (.func 196) #[] #[],.func (.func 198) #[] #[]]) rfl (by rintro w h;have c0:=cu h 8 _ rfl;have c1:=cu h 9 _ rfl;have c2:=cu h 10 _ rfl;have c3:=cu h 11 _ rfl;go_simp) s0 ?_;go_simp;refine zHp 16 (.slice (some ⟨pb,0,none⟩) 7 7) rfl s0 ?_;go_simp;refine zHa 17 (.pointer (some ⟨pb,12,none⟩)) rfl (by rintro w h;go_simp) s0 ?_;go_simp;refine zHa 18 (.agg #[.int .i32 115,.func (.func 200) #[] #[],.func (.func 201) #[] #[],.func (.func 202) #[] #[]]) rfl (by rintro w h;have c0:=cu h 12 _ rfl;have c1:=cu h 13 _ rfl;have c2:=cu h 14 _ rfl;have c3:=cu h 15 _ rfl;go_simp) s0 ?_;go_simp;refine zHp 19 (.slice (some ⟨pb,0,none⟩) 7 7) rfl s0 ?_;go_simp;refine zHa 20 (.pointer (some ⟨pb,16,none⟩)) rfl (by rintro w h;go_simp) s0 ?_;go_simp;refine zHa 21 (.agg #[.int .i32 108,.func (.func 203) #[] #[],.func (.func 204) #[] #[],.func (.func 206) #[] #[]]) rfl (by rintro w h;have c0:=cu h 16 _ rfl;have c1:=cu h 17 _ rfl;have c2:=cu h 18 _ rfl;have c3:=cu h 19 _ rfl;go_simp) s0 ?_;go_simp;refine zHp 23 (.slice (some ⟨pb,0,none⟩) 7 7) rfl s0 ?_;go_simp;refine zHa 24 (.pointer (some ⟨pb,20,none⟩)) rfl (by rintro w h;go_simp) s0 ?_;go_simp;refine zHa 25 (.agg #[.int .i32 119,.func (.func 209) #[] #[],.func (.func 210) #[] #[],.func (.func 211) #[] #[]]) rfl (by rintro w h;have c0:=cu h 20 _ rfl;have c1:=cu h 21 _ rfl;have c2:=cu h 22 _ rfl;have c3:=cu h 23 _ rfl;go_simp) s0 ?_;go_simp;refine zHp 26 (.slice (some ⟨pb,0,none⟩) 7 7) rfl s0 ?_;go_simp;refine zHa 27 (.pointer (some ⟨pb,24,none⟩)) rfl (by rintro w h;go_simp) s0 ?_;go_simp;refine zHa 28 (.agg #[.int .i32 101,.func (.func 213) #[] #[],.func (.func 214) #[] #[],.func (.func 216) #[] #[]]) rfl (by rintro w h;have c0:=cu h 24 _ rfl;have c1:=cu h 25 _ rfl;have c2:=cu h 26 _ rfl;have c3:=cu h 27 _ rfl;go_simp) s0 ?_;go_simp;refine zH1 0 rfl (fun K hK=>?_);go_simp;refine (ja 118 2 164 V0).mono ?_;rintro e V1 ⟨rfl,p0,k0,-⟩;have s1:=s0.step k0;obtain⟨t0,ht0⟩:∃t,V0.heap.size=t:=⟨_,rfl⟩
 rw[ht0] at p0;simp only[FV.val,FV.cells,eG,ht0];clear ht0;go_simp;refine hK _ _ ⟨s1,?_⟩;clear hK K;refine zH1 1 rfl (fun K hK=>?_);go_simp;refine (ja 110 3 165 V1).mono ?_;rintro e V2 ⟨rfl,p1,k1,-⟩;have s2:=s1.step k1;obtain⟨t1,ht1⟩:∃t,V1.heap.size=t:=⟨_,rfl⟩
 rw[ht1] at p1;simp only[FV.val,FV.cells,eG,ht1];clear ht1;go_simp;refine hK _ _ ⟨s2,?_⟩;clear hK K;refine zH1 5 rfl (fun K hK=>?_);go_simp;refine (ja 99 5 166 V2).mono ?_;rintro e V3 ⟨rfl,p2,k2,-⟩;have s3:=s2.step k2;obtain⟨t2,ht2⟩:∃t,V2.heap.size=t:=⟨_,rfl⟩
 rw[ht2] at p2;simp only[FV.val,FV.cells,eG,ht2];clear ht2;go_simp;refine hK _ _ ⟨s3,?_⟩;clear hK K;refine zH1 6 rfl (fun K hK=>?_);go_simp;refine (ja 117 6 167 V3).mono ?_;rintro e V4 ⟨rfl,p3,k3,-⟩;have s4:=s3.step k3;obtain⟨t3,ht3⟩:∃t,V3.heap.size=t:=⟨_,rfl⟩
 rw[ht3] at p3;simp only[FV.val,FV.cells,eG,ht3];clear ht3;go_simp;refine hK _ _ ⟨s4,?_⟩;clear hK K;refine zH1 13 rfl (fun K hK=>?_);go_simp;refine (ja 97 9 168 V4).mono ?_;rintro e V5 ⟨rfl,p4,k4,-⟩;have s5:=s4.step k4;obtain⟨t4,ht4⟩:∃t,V4.heap.size=t:=⟨_,rfl⟩
 rw[ht4] at p4;simp only[FV.val,FV.cells,eG,ht4];clear ht4;go_simp;refine hK _ _ ⟨s5,?_⟩;clear hK K;refine zH1 14 rfl (fun K hK=>?_);go_simp;refine (ja 109 10 169 V5).mono ?_;rintro e V6 ⟨rfl,p5,k5,-⟩;have s6:=s5.step k5;obtain⟨t5,ht5⟩:∃t,V5.heap.size=t:=⟨_,rfl⟩
 rw[ht5] at p5;simp only[FV.val,FV.cells,eG,ht5];clear ht5;go_simp;refine hK _ _ ⟨s6,?_⟩;clear hK K;refine zH1 15 rfl (fun K hK=>?_);go_simp;refine (ja 98 11 170 V6).mono ?_;rintro e V7 ⟨rfl,p6,k6,-⟩;have s7:=s6.step k6;obtain⟨t6,ht6⟩:∃t,V6.heap.size=t:=⟨_,rfl⟩
 rw[ht6] at p6;simp only[FV.val,FV.cells,eG,ht6];clear ht6;go_simp;refine hK _ _ ⟨s7,?_⟩;clear hK K;refine zH1 22 rfl (fun K hK=>?_);go_simp;refine (ja 111 14 171 V7).mono ?_;rintro e V8 ⟨rfl,p7,k7,-⟩;have s8:=s7.step k7;obtain⟨t7,ht7⟩:∃t,V7.heap.size=t:=⟨_,rfl⟩
 rw[ht7] at p7;simp only[FV.val,FV.cells,eG,ht7];clear ht7;go_simp;refine hK _ _ ⟨s8,?_⟩;clear hK K;refine zH1 29 rfl (fun K hK=>?_);go_simp;generalize hg:V8.alloc _=V9;have e:V8.alloc (.cells (fV (allL t0 t1 t2 t3 t4 t5 t6 t7)).toArray 171)=V9:=by simp only[fV,allL,eG,FV.cells,List.flatMap_cons,List.flatMap_nil,List.cons_append,List.nil_append,List.append_nil];exact hg
 have hb9:Below V8.heap.size V8 V9:=by rw[<-e];exact (Below.refl _ _).alloc (Nat.le_refl _) _
 have hk9:V9.heap[V8.heap.size]?=some (.cells (fV (allL t0 t1 t2 t3 t4 t5 t6 t7)).toArray 171):=by rw[<-e];show (V8.heap.push _)[V8.heap.size]?=some _;exact Array.getElem?_push_size
 clear hg e;have s9:=s8.step hb9;refine hK _ _ ⟨s9,?_⟩;clear hK K;refine zHp 30 (.slice (some ⟨V8.heap.size,0,none⟩) 15 15) rfl s9 ?_;go_simp;refine wpAnyH_done (by kernel_rfl) ?_ _;have hA:AllAt t0 t1 t2 t3 t4 t5 t6 t7 V9:=⟨((((((((p0.later k1).later k2).later k3).later k4).later k5).later k6).later k7).later hb9),(((((((p1.later k2).later k3).later k4).later k5).later k6).later k7).later hb9),((((((p2.later k3).later k4).later k5).later k6).later k7).later hb9),(((((p3.later k4).later k5).later k6).later k7).later hb9),((((p4.later k5).later k6).later k7).later hb9),(((p5.later k6).later k7).later hb9),((p6.later k7).later hb9),(p7.later hb9)⟩
 have hB:Below w.heap.size w V9:=((((((((((hb1).trans (k0.mono (by have:=hb1.size; omega))).trans (k1.mono (by have:=hb1.size;have:=k0.size; omega))).trans (k2.mono (by have:=hb1.size;have:=k0.size;have:=k1.size; omega))).trans (k3.mono (by have:=hb1.size;have:=k0.size;have:=k1.size;have:=k2.size; omega))).trans (k4.mono (by have:=hb1.size;have:=k0.size;have:=k1.size;have:=k2.size;have:=k3.size; omega))).trans (k5.mono (by have:=hb1.size;have:=k0.size;have:=k1.size;have:=k2.size;have:=k3.size;have:=k4.size; omega))).trans (k6.mono (by have:=hb1.size;have:=k0.size;have:=k1.size;have:=k2.size;have:=k3.size;have:=k4.size;have:=k5.size; omega))).trans (k7.mono (by have:=hb1.size;have:=k0.size;have:=k1.size;have:=k2.size;have:=k3.size;have:=k4.size;have:=k5.size;have:=k6.size; omega))).trans (hb9.mono (by have:=hb1.size;have:=k0.size;have:=k1.size;have:=k2.size;have:=k3.size;have:=k4.size;have:=k5.size;have:=k6.size;have:=k7.size; omega)))
 have hsz:w.heap.size<=V8.heap.size:=by have:=hb1.size;have:=k0.size;have:=k1.size;have:=k2.size;have:=k3.size;have:=k4.size;have:=k5.size;have:=k6.size;have:=k7.size; omega
 go_wp2_with fail;go_ret;exact⟨_,t0,t1,t2,t3,t4,t5,t6,t7,rfl,hk9,hA,hB,hsz⟩
def nP (l:List UInt8)(x:Int):Bool:=l.any fun c=>(c.toNat:Int)==x
theorem MI (l:List UInt8)(k:Nat)(c:UInt8)(x:Int)(h:l[k]?=some c)(h1:nP (l.take k) x=false)(h2:((c.toNat:Int)==x)=false):nP (l.take (k+1)) x=false:=by
 obtain⟨hl,e⟩:=List.getElem?_eq_some_iff.1 h;unfold nP at h1 ⊢;rw[List.take_succ_eq_append_getElem hl,List.any_append,h1,e];simp[h2]
theorem Ls (l:List UInt8)(k:Nat)(c:UInt8)(x:Int)(h:l[k]?=some c)(h2:((c.toNat:Int)==x)=true):nP l x=true:=List.any_eq_true.2 ⟨c,List.mem_of_getElem? h,h2⟩
def StrAt (sb:Nat)(l:List UInt8)(W:World):Prop:=W.heap[sb]?=some (.cells #[.string ⟨l.toArray⟩] 9)
theorem StrAt.later {sb:Nat}{l:List UInt8}{W W':World}(h:StrAt sb l W)(hb:Below W.heap.size W W'):StrAt sb l W':=(hb.block _ (Array.getElem?_eq_some_iff.1 h).1).trans h
theorem DU (f:FV)(sb:Nat)(l:List UInt8)(w:World)(hs:StrAt sb l w)(hasc:∀c∈l,c.toNat<128):Calls Tryz.prog 137 #[f.val,.pointer (some ⟨sb,0,none⟩)] w (aY (!nP l f.l) w):=by
 have hus:Tryz.prog.underlying 9=some .string:=Tryz.underlying9;unfold FV.val FV.cells;go_in;have hbx:Below w.heap.size w (w.alloc f.box):=(Below.refl _ _).alloc (Nat.le_refl _) _;have k1:(w.alloc f.box).heap[w.heap.size]?=some f.box:=by show (w.heap.push _)[w.heap.size]?=some _;exact Array.getElem?_push_size
 have hs1:=hs.later hbx;have c0:(w.alloc f.box).cell? ⟨sb,0,none⟩=some (.string ⟨l.toArray⟩):=by unfold StrAt at hs1;simp[World.cell?,hs1]
 unfold FV.box FV.cells at hbx k1 hs1 c0;go_upto_region 1 with fail;generalize hg:w.alloc _=W0 at *;have hr:=run_range_string (P:=Tryz.prog) W0 9 ⟨l.toArray⟩ hus;go_wp2_with fail;clear c0;have hz:w.heap.size<W0.heap.size:=(Array.getElem?_eq_some_iff.1 k1).1;go_loopw [] (fun wr=>∃j,Hid (nP (l.take j) f.l=false)/\wr.heap[W0.heap.size]?=some (.stringIter ⟨l.toArray⟩ j)/\wr.heap[w.heap.size]?=some (.cells #[.int .i32 f.l,f.kp,f.pt,f.tk] 171)/\Below w.heap.size w wr) (fun wr=>l.length-wr.iterPos W0.heap.size)
 case atStart=>
  have hbi:Below W0.heap.size W0 (W0.iter ⟨l.toArray⟩ 0):=(Below.refl _ _).alloc (Nat.le_refl _) _;exact⟨0,hid rfl,by show (W0.heap.push _)[W0.heap.size]?=some _;exact Array.getElem?_push_size,(hbi.block _ hz).trans k1,hbx.trans (hbi.mono hbx.size)⟩
 case round=>
  obtain⟨j,Hh,hi,hk,hb⟩:=hrel;by_cases hj:j<l.length
  ·obtain⟨c,hc⟩:∃c,l[j]?=some c:=⟨_,List.getElem?_eq_getElem hj⟩
   have hm:wr.iterPos W0.heap.size=j:=by simp[World.iterPos,hi]
   have hn:∀ty,(Instr.next (.pointer (some ⟨W0.heap.size,0,none⟩)) true ty).run Tryz.prog wr=.ok (.tuple #[.bool true,.int .i64 j,.int .i32 (c.toNat:Int)]) (wr.iterAt W0.heap.size ⟨l.toArray⟩ (j+1)):=fun ty=>bQ wr W0.heap.size l j c ty hi hc (hasc c (List.mem_of_getElem? hc));have b1:(wr.iterAt W0.heap.size ⟨l.toArray⟩ (j+1)).heap[w.heap.size]?=some (.cells #[.int .i32 f.l,f.kp,f.pt,f.tk] 171):=(iterAt_other _ _ _ _ _ (by omega)).trans hk;have b2:(wr.iterAt W0.heap.size ⟨l.toArray⟩ (j+1)).heap[W0.heap.size]?=some (.stringIter ⟨l.toArray⟩ (j+1)):=iterAt_heap _ _ _ _ _ hi;have b3:Below w.heap.size w (wr.iterAt W0.heap.size ⟨l.toArray⟩ (j+1)):=below_iterAt hb (by omega) _ _;have d0:(wr.iterAt W0.heap.size ⟨l.toArray⟩ (j+1)).cell? ⟨w.heap.size,0,none⟩=some (.int .i32 f.l):=by simp[World.cell?,b1]
   generalize wr.iterAt W0.heap.size ⟨l.toArray⟩ (j+1)=W1 at *;by_cases hq:((c.toNat:Int)==f.l)=true
   ·have Hs:=hid (Ls l j c f.l hc hq);go_wp2_with fail;go_ret;exact⟨by rw[Hs.out];rfl,b3⟩
   have hq2:((c.toNat:Int)==f.l)=false:=by simpa using hq
   have Hs:=hid (MI l j c f.l hc Hh.out hq2);clear hq;go_wp2_with fail;go_roundw
   case rel=>exact⟨j+1,Hs,b2,b1,b3⟩
   case measure=>rw[hm];simp[World.iterPos,b2];omega
  have hn:=fun ty=>run_next_end_at (P:=Tryz.prog) wr W0.heap.size ⟨l.toArray⟩ j ty hi hj;have Hs:Hid (nP l f.l=false):=hid (by have:=Hh.out;rw[List.take_of_length_le (by omega)] at this;exact this);go_wp2_with fail;go_ret;exact⟨by rw[Hs.out];rfl,hb⟩
def FRow (b:Nat)(L:List FV)(W:World):Prop:=W.heap[b]?=some (.cells (fV L).toArray 171)
theorem FRow.later {b:Nat}{L:List FV}{W W':World}(h:FRow b L W)(hb:Below W.heap.size W W'):FRow b L W':=(hb.block _ (Array.getElem?_eq_some_iff.1 h).1).trans h
theorem FRow.at_ {b:Nat}{L:List FV}{W:World}(h:FRow b L W)(k:Nat)(f:FV)(hk:L[k]?=some f):W.cell? ⟨b,k*4,none⟩=some (.int .i32 f.l)/\W.cell? ⟨b,k*4+1,none⟩=some f.kp/\W.cell? ⟨b,k*4+2,none⟩=some f.pt/\W.cell? ⟨b,k*4+3,none⟩=some f.tk/\∀i,W.frozen? ⟨b,i,none⟩=false:=by
 unfold FRow at h;have c:∀i,i<4->∀x,f.cells[i]?=some x->W.cell? ⟨b,k*4+i,none⟩=some x:=fun i hi x hx=>by
  have:=wV L k f hk i hi;rw[hx] at this;simp[World.cell?,h,this]
 refine⟨c 0 (by omega) _ rfl,c 1 (by omega) _ rfl,c 2 (by omega) _ rfl,c 3 (by omega) _ rfl,fun i=>by simp[World.frozen?,h]⟩
def goes (l:List UInt8)(f:FV):Bool:=!nP l f.l
theorem EH (b n sb:Nat)(L:List FV)(l:List UInt8)(w:World)(hL:FRow b L w)(hn:L.length=n)(hn2:n<=1000)(hs:StrAt sb l w)(hasc:∀c∈l,c.toNat<128) :
  Calls Tryz.prog 161 #[.slice (some ⟨b,0,none⟩) n n,.func (.func 137) #[] #[.pointer (some ⟨sb,0,none⟩)]] w
   fun e w'=>(∃r:Int,e=.returned (.int .i64 r)/\((r=-1/\L.any (goes l)=false)\/∃(i:Nat) (f:FV),r=(i:Int)/\L[i]?=some f/\goes l f=true/\(L.take i).any (goes l)=false))/\Below w.heap.size w w':=by
 have HN:=hid hn;clear hn;go_in;go_wp2_with fail;go_loopw [8] (fun p wr=>∃k:Nat,k<=n/\p=.int .i64 (k:Int)/\Hid ((L.take k).any (goes l)=false)/\Below w.heap.size w wr) (fun p _=>n-(intOf p).toNat)
 case atStart=>exact⟨0,Nat.zero_le _,rfl,hid rfl,Below.refl _ _⟩
 case round=>
  obtain⟨k,hk,rfl,Ht,hbr⟩:=hrel;by_cases hkn:k<n
  ·obtain⟨f,hf⟩:∃f,L[k]?=some f:=⟨_,List.getElem?_eq_getElem (by rw[HN.out];exact hkn)⟩
   obtain⟨c0,c1,c2,c3,-⟩:=(hL.later hbr).at_ k f hf;have i0:(0:Int)<=(k:Int):=by omega
   have i1:(k:Int)<(n:Int):=by omega
   have hcall:=DU f sb l wr (hs.later hbr) hasc;unfold FV.val FV.cells at hcall;go_wp2_with fail;refine hcall.mono ?_;rintro e w1 ⟨rfl,hb1⟩;have hb2:=hbr.trans (hb1.mono hbr.size);have hge:(!nP l f.l)=goes l f:=rfl;rw[hge];clear hge hcall c0 c1 c2 c3;by_cases hm:goes l f=true
   ·have HM:=hid hm;rw[hm];go_wp2_with fail;go_ret;exact⟨⟨k,rfl,.inr ⟨k,f,rfl,hf,HM.out,Ht.out⟩⟩,hb2⟩
   have hm2:goes l f=false:=by simpa using hm
   have Hs:=hid (oC (goes l) L k f hf Ht.out hm2);rw[hm2];go_wp2_with fail;go_roundw
   case rel=>exact⟨k+1,by omega,by go_num,Hs,hb2⟩
   case measure=>simp[intOf];omega
  have hkn2:k=n:=by omega
  have Hs:Hid (L.any (goes l)=false):=hid (by have:=Ht.out;rw[List.take_of_length_le (by rw[HN.out];omega)] at this;exact this);subst hkn2;go_wp2_with fail;go_ret;exact⟨⟨-1,rfl,.inl ⟨rfl,Hs.out⟩⟩,hbr⟩
theorem DW (f:FV):∀(M:List FV) (i:Nat),i<M.length->((((fV M).set (i*4) (.int .i32 f.l)).set (i*4+1) f.kp).set (i*4+2) f.pt).set (i*4+3) f.tk=fV (M.set i f)
 | [],_,h=>by simp at h
 | z::xs,0,_=>rfl
 | z::xs,i+1,h=>by
  have ih:=DW f xs i (by simpa using h);have e:∀(y:FV) (ys:List FV),fV (y::ys)=Value.int .i32 y.l::y.kp::y.pt::y.tk::fV ys:=fun _ _=>rfl;rw[List.set_cons_succ,e,e,<-ih,show (i+1)*4=i*4+1+1+1+1 from by omega];rfl
theorem FRow.set {b:Nat}{M:List FV}{W:World}(h:FRow b M W)(i:Nat)(f:FV)(hi:i<M.length) :
  FRow b (M.set i f) ((((W.setCell ⟨b,i*4,none⟩ (.int .i32 f.l)).setCell ⟨b,i*4+1,none⟩ f.kp).setCell ⟨b,i*4+2,none⟩ f.pt).setCell ⟨b,i*4+3,none⟩ f.tk):=by
 unfold FRow at h ⊢;have h4:=at_set (i:=i*4+3) (x:=f.tk) (at_set (i:=i*4+2) (x:=f.pt) (at_set (i:=i*4+1) (x:=f.kp) (at_set (i:=i*4) (x:=.int .i32 f.l) h)));rw[h4,<-DW f M i hi];simp only[List.setIfInBounds_toArray]
structure Oth (B b:Nat)(w W:World):Prop where
 bel:Below B w W
 oth:∀k,k<w.heap.size->k≠b->W.heap[k]?=w.heap[k]?
theorem Oth.refl (B b:Nat)(w:World):Oth B b w w:=⟨Below.refl _ _,fun _ _ _=>rfl⟩
theorem Oth.later {B b:Nat}{w W W':World}(h:Oth B b w W)(hB:B<=W.heap.size)(hb:Below W.heap.size W W'):Oth B b w W':=
 ⟨h.bel.trans (hb.mono hB),fun k hk hne=>(hb.block k (Nat.lt_of_lt_of_le hk h.bel.size)).trans (h.oth k hk hne)⟩
theorem Oth.set {B b:Nat}{w W:World}(h:Oth B b w W)(hB:B<=b)(i:Nat)(x:Value):Oth B b w (W.setCell ⟨b,i,none⟩ x):=
 ⟨h.bel.setCell (p:=⟨b,i,none⟩) hB x,fun k hk hne=>(Below.heap_setCell W ⟨b,i,none⟩ x k hne).trans (h.oth k hk hne)⟩
theorem Oth.sets {B b:Nat}{w:World}(hB:B<=b):∀(vs:List Value) (o:Nat) (W:World),Oth B b w W->Oth B b w (W.setCells b o vs)
 | [],_,_,h=>h
 | v::vs,o,_,h=>Oth.sets hB vs (o+1) _ (h.set hB o v)
theorem EU:∀(z:Array Value) (n:Nat),0<z.size->(∀v∈z.toList,v.oneCell'=true)->(Builtin.zeroCells z n).toList.length=n*z.size/\∀v∈(Builtin.zeroCells z n).toList,v.oneCell'=true:=by
 intro z n hz h;constructor
 ·simp[Builtin.zeroCells]
 intro v hv;simp only[Builtin.zeroCells,Array.toList_map,List.mem_map] at hv;obtain⟨i,_,rfl⟩:=hv;have hlt:i % z.size<z.size:=Nat.mod_lt _ hz;rw[getElem!_pos z (i % z.size) hlt];exact h _ (by simp)
theorem xA {P:Program}(w:World)(t e ty:TypeId)(z:Value)(ht:P.underlying t=some (.slice e))(hv:∀w,(zeroValue e).run P w=.ok z w)(hz:0<z.cells.size)(h1:∀v∈z.cells.toList,v.oneCell'=true)(b o n c:Nat)(hn:0<n)
  (hc:∀j,j<n*z.cells.size->(w.cell? ⟨b,o+j,none⟩).isSome=true) (hf:∀j,w.frozen? ⟨b,o+j,none⟩=false) :
  (Builtin.clear_ #[t] ty #[.slice (some ⟨b,o,none⟩) n c]).run P w=.ok (.tuple #[]) (w.setCells b o (Builtin.zeroCells z.cells n).toList):=by
 obtain⟨hl,ho⟩:=EU z.cells n hz h1;have hst:=run_storeCells_cells (P:=P) b o (Builtin.zeroCells z.cells n).toList 0 w (by rw[hl];simpa using hc) (by intro j _;simpa using hf j) ho;simp only[Nat.add_zero] at hst;obtain⟨m,rfl⟩:∃m,n=m+1:=⟨n-1,by omega⟩
 simp[Builtin.clear_,run_underlying ht,hv,hst]
structure DelAt (B b n sb:Nat)(L:List FV)(l:List UInt8)(w:World)(i j:Nat)(M:List FV)(wr:World):Prop where
 row:FRow b M wr
 len:M.length=n
 fst:M.take i=(L.take j).filter (fun f=>!goes l f)
 snd:M.drop j=L.drop j
 ij:i<j
 jn:j<=n
 str:StrAt sb l wr
 oth:Oth B b w wr
theorem DelAt.later {B b n sb:Nat}{L:List FV}{l:List UInt8}{w:World}{i j:Nat}{M:List FV}{wr W':World}(h:DelAt B b n sb L l w i j M wr)(hB:B<=wr.heap.size)(hb:Below wr.heap.size wr W'):DelAt B b n sb L l w i j M W':=
 ⟨h.row.later hb,h.len,h.fst,h.snd,h.ij,h.jn,h.str.later hb,h.oth.later hB hb⟩
theorem ul {α:Type}(p:α->Bool)(L:List α)(j:Nat)(f:α)(h:L[j]?=some f):(L.take (j+1)).filter p=(L.take j).filter p++(if p f then [f] else []):=by
 obtain⟨hl,e⟩:=List.getElem?_eq_some_iff.1 h;rw[List.take_succ_eq_append_getElem hl,e,List.filter_append];cases hp:p f<;>simp[hp]
theorem DelAt.drop {B b n sb:Nat}{L:List FV}{l:List UInt8}{w:World}{i j:Nat}{M:List FV}{wr:World}(h:DelAt B b n sb L l w i j M wr)(hL:L.length=n)(f:FV)(hf:L[j]?=some f)(hg:goes l f=true):DelAt B b n sb L l w i (j+1) M wr:=by
 have hj:=(List.getElem?_eq_some_iff.1 hf).1;refine⟨h.row,h.len,?_,?_,by have:=h.ij;omega,by omega,h.str,h.oth⟩
 ·rw[ul _ L j f hf,hg,h.fst];simp
 rw[<-List.drop_drop,<-List.drop_drop,h.snd]
theorem DelAt.keep {B b n sb:Nat}{L:List FV}{l:List UInt8}{w:World}{i j:Nat}{M:List FV}{wr:World}(h:DelAt B b n sb L l w i j M wr)(hL:L.length=n)(hB:B<=b)(hsb:sb≠b)(f:FV)(hf:L[j]?=some f)(hg:goes l f=false) :
  DelAt B b n sb L l w (i+1) (j+1) (M.set i f) ((((wr.setCell ⟨b,i*4,none⟩ (.int .i32 f.l)).setCell ⟨b,i*4+1,none⟩ f.kp).setCell ⟨b,i*4+2,none⟩ f.pt).setCell ⟨b,i*4+3,none⟩ f.tk):=by
 have hj:=(List.getElem?_eq_some_iff.1 hf).1;have hij:=h.ij;have hi:i<M.length:=by rw[h.len];omega
 refine⟨h.row.set i f hi,by rw[List.length_set,h.len],?_,?_,by omega,by omega,?_,?_⟩
 ·rw[ul _ L j f hf,hg,<-h.fst,List.take_succ_eq_append_getElem (by rw[List.length_set];exact hi),List.take_set_of_le (Nat.le_refl _)];simp
 ·rw[List.drop_set_of_lt (by omega),<-List.drop_drop,<-List.drop_drop,h.snd]
 ·exact af (af (af (af h.str hsb) hsb) hsb) hsb
 exact (((h.oth.set hB _ _).set hB _ _).set hB _ _).set hB _ _
theorem CS (B b n sb:Nat)(L:List FV)(l:List UInt8)(w:World)(hL:FRow b L w)(hn:L.length=n)(hn2:n<=1000)(hs:StrAt sb l w)(hasc:∀c∈l,c.toNat<128)(hB:B<=b)(hsb:sb≠b)
  (hone:∀f∈L,f.kp.oneCell'=true/\f.pt.oneCell'=true/\f.tk.oneCell'=true) :
  Calls Tryz.prog 135 #[.slice (some ⟨b,0,none⟩) n n,.func (.func 137) #[] #[.pointer (some ⟨sb,0,none⟩)]] w
   fun e w'=>∃m:Nat,e=.returned (.slice (some ⟨b,0,none⟩) m n)/\m=(L.filter fun f=>!goes l f).length/\Rd w' 4 (some ⟨b,0,none⟩) m n (fV (L.filter fun f=>!goes l f))/\Oth B b w w':=by
 have hbl:b<w.heap.size:=(Array.getElem?_eq_some_iff.1 hL).1;have hrd:∀(M:List FV) (m:Nat) (W:World),FRow b M W->M.length=n->m<=n->Rd W 4 (some ⟨b,0,none⟩) m n (fV (M.take m)):=fun M m W hR hl hm=>by
  refine⟨by rw[qh,List.length_take,hl];congr 1;omega,hm,by unfold maxLen;omega,(fun h=>by cases h),fun _ a ha=>?_⟩;cases ha;refine⟨rfl,(Array.getElem?_eq_some_iff.1 hR).1,fun j u hu=>?_⟩;rw[Nat.zero_add];have hlt:j<(fV (M.take m)).length:=(List.getElem?_eq_some_iff.1 hu).1;have e:(fV M)[j]?=some u:=by
   have:=Pe (M.take m) (M.drop m);rw[List.take_append_drop] at this;rw[this,List.getElem?_append_left hlt];exact hu
  unfold FRow at hR;simp[World.cell?,hR,e]
 have HN:=hid hn;clear hn;go_in;go_wp2_with fail;refine (EH b n sb L l w hL HN.out hn2 hs hasc).mono ?_;rintro e w1 ⟨⟨r,rfl,hr⟩,hb1⟩;have hR1:=hL.later hb1;have ho1:=(Oth.refl B b w).later (Nat.le_trans hB (Nat.le_of_lt hbl)) hb1;rcases hr with ⟨rfl,hno⟩ | ⟨i0,f0,rfl,hf0,hg0,hno⟩
 ·have hfil:L.filter (fun f=>!goes l f)=L:=List.filter_eq_self.2 (fun f hf=>by have:=List.any_eq_false.1 hno f hf;simpa using this);have Hfil:=hid hfil;clear hno hfil;go_wp2_with fail;go_ret;refine⟨n,rfl,by rw[Hfil.out,HN.out],?_,ho1⟩;have:=hrd L n w1 hR1 HN.out (Nat.le_refl _);rw[List.take_of_length_le (by rw[HN.out];omega)] at this;rw[Hfil.out];exact this
 have hi0:=(List.getElem?_eq_some_iff.1 hf0).1;rw[HN.out] at hi0;have hfil:L.take i0=(L.take (i0+1)).filter (fun f=>!goes l f):=by
  rw[ul _ L i0 f0 hf0,hg0];simp only[Bool.not_true,Bool.false_eq_true,if_false,List.append_nil];exact (List.filter_eq_self.2 (fun f hf=>by have:=List.any_eq_false.1 hno f hf;simpa using this)).symm
 have hD0:DelAt B b n sb L l w i0 (i0+1) L w1:=⟨hR1,HN.out,hfil,rfl,by omega,by omega,hs.later hb1,ho1⟩
 have g1:((i0:Int)==-1)=false:=by simp
 clear hno hfil hg0 hf0;go_wp2_with fail;go_loopw [5,6] (fun p q wr=>∃(i j:Nat) (M:List FV),p=.int .i64 (i:Int)/\q=.int .i64 (j:Int)/\DelAt B b n sb L l w i j M wr) (fun _ q _=>n-(intOf q).toNat)
 case atStart=>exact⟨i0,i0+1,L,rfl,by go_num,hD0⟩
 case round=>
  obtain⟨i,j,M,rfl,rfl,hD⟩:=hrel;have hij:=hD.ij;have hBw:B<=wr.heap.size:=Nat.le_trans hB (Nat.le_trans (Nat.le_of_lt hbl) hD.oth.bel.size);by_cases hjn:j<n
  ·obtain⟨f,hf⟩:∃f,L[j]?=some f:=⟨_,List.getElem?_eq_getElem (by rw[HN.out];exact hjn)⟩
   have hMf:M[j]?=some f:=by
    have:=congrArg (fun x=>x[0]?) hD.snd;simpa [List.getElem?_drop,hf] using this
   obtain⟨o1,o2,o3⟩:=hone f (List.mem_of_getElem? hf);have st1:∀(a:Addr) (m:Mode) (W:World),(store a f.kp m).run Tryz.prog W=stored Tryz.prog W a f.kp m:=fun a m W=>run_store _ W a f.kp m o1;have st2:∀(a:Addr) (m:Mode) (W:World),(store a f.pt m).run Tryz.prog W=stored Tryz.prog W a f.pt m:=fun a m W=>run_store _ W a f.pt m o2;have st3:∀(a:Addr) (m:Mode) (W:World),(store a f.tk m).run Tryz.prog W=stored Tryz.prog W a f.tk m:=fun a m W=>run_store _ W a f.tk m o3;obtain⟨c0,c1,c2,c3,-⟩:=hD.row.at_ j f hMf;have i0':(0:Int)<=(j:Int):=by omega
   have i1':(j:Int)<(n:Int):=by omega
   go_upto_region 8 with fail;generalize hg:wr.alloc _=W0;have hbx:Below wr.heap.size wr W0:=by rw[<-hg];exact (Below.refl _ _).alloc (Nat.le_refl _) _
   have k1:W0.heap[wr.heap.size]?=some f.box:=by rw[<-hg];show (wr.heap.push _)[wr.heap.size]?=some _;exact Array.getElem?_push_size
   have hD1:=hD.later hBw hbx;clear hg c0 c1 c2 c3;have hcall:=DU f sb l W0 hD1.str hasc;unfold FV.val FV.cells at hcall;obtain⟨c0,c1,c2,c3,-⟩:=ou k1;have hBw1:B<=W0.heap.size:=Nat.le_trans hBw hbx.size;go_wp2_with fail;refine hcall.mono ?_;rintro e W2 ⟨rfl,hb2⟩;have hD2:=hD1.later hBw1 hb2;have k2:=(hb2.block _ (Array.getElem?_eq_some_iff.1 k1).1).trans k1;have hge:(!nP l f.l)=goes l f:=rfl;rw[hge];clear hge hcall c0 c1 c2 c3;by_cases hm:goes l f=true
   ·have hN:=hD2.drop HN.out f hf hm;rw[hm];clear hD hD1 hD2;go_wp2_with fail;go_roundw
    case rel=>exact⟨i,j+1,M,rfl,by go_num,hN⟩
    case measure=>simp[intOf];omega
   have hm2:goes l f=false:=by simpa using hm
   have hN:=hD2.keep HN.out hB hsb f hf hm2;have hiM:i<M.length:=by rw[hD2.len];omega
   obtain⟨g,hgi⟩:∃g,M[i]?=some g:=⟨_,List.getElem?_eq_getElem hiM⟩
   obtain⟨d0,d1,d2,d3,d4⟩:=hD2.row.at_ i g hgi;obtain⟨c0,c1,c2,c3,-⟩:=ou k2;have j0:(0:Int)<=(i:Int):=by omega
   have j1:(i:Int)<(n:Int):=by omega
   rw[hm2];clear hD hD1 hD2;go_wp2_with fail;go_roundw
   case rel=>exact⟨i+1,j+1,_,by go_num,by go_num,hN⟩
   case measure=>simp[intOf];omega
  have hjn2:j=n:=by have:=hD.jn;omega
  have hfil:M.take i=L.filter (fun f=>!goes l f):=by
   have:=hD.fst;rw[hjn2,show L.take n=L from List.take_of_length_le (by rw[HN.out];exact Nat.le_refl _)] at this;exact this
  have hlen:i=(L.filter fun f=>!goes l f).length:=by rw[<-hfil,List.length_take,hD.len];omega
  have hrow:=hrd M i wr hD.row hD.len (by omega);rw[hfil] at hrow;have hin:i<n:=by omega
  have hcl:∀ty,(Builtin.clear_ #[165] ty #[.slice (some ⟨b,i*4,none⟩) (n-i) (n-i)]).run Tryz.prog wr=.ok (.tuple #[]) (wr.setCells b (i*4) (Builtin.zeroCells (Value.agg #[.int .i32 0,.nilFunc,.nilFunc,.nilFunc]).cells (n-i)).toList):=
   fun ty=>xA wr 165 171 ty _ Tryz.underlying165 (fun _=>by kernel_rfl) (by decide) (by intro v hv;simp[Value.cells] at hv;rcases hv with rfl|rfl<;>rfl) b (i*4) (n-i) (n-i) (by omega)
    (fun t ht=>by
     have hr:=hD.row;unfold FRow at hr;have hlt:i*4+t<(fV M).length:=by rw[qh,hD.len];simp[Value.cells] at ht;omega
     simp[World.cell?,hr,hlt])
    (fun t=>by have hr:=hD.row;unfold FRow at hr;simp[World.frozen?,hr])
  have hoth:=Oth.sets hB (Builtin.zeroCells (Value.agg #[.int .i32 0,.nilFunc,.nilFunc,.nilFunc]).cells (n-i)).toList (i*4) wr hD.oth;have hrow2:Rd (wr.setCells b (i*4) (Builtin.zeroCells (Value.agg #[.int .i32 0,.nilFunc,.nilFunc,.nilFunc]).cells (n-i)).toList) 4 (some ⟨b,0,none⟩) i n (fV (L.filter fun f=>!goes l f)):=by
   obtain⟨q1,q2,q3,q4,q5⟩:=hrow;refine⟨q1,q2,q3,q4,fun h0 a ha=>?_⟩;obtain⟨s1,s2,s3⟩:=q5 h0 a ha;cases ha;refine⟨rfl,Nat.lt_of_lt_of_le hbl hoth.bel.size,fun t u hu=>?_⟩;have hlt:=(List.getElem?_eq_some_iff.1 hu).1;rw[World.cell?_setCells_out b _ _ _ _ (fun _ _=>.inl (by dsimp only;omega))];exact s3 t u hu
  have HF:=hid hlen;have n0:(0:Int)<=(i:Int):=by omega
  have n1:(i:Int)<=(n:Int):=by omega
  clear hfil hlen hrow hD hjn2;go_wp2_with fail;go_ret;exact⟨i,rfl,HF.out,hrow2,hoth⟩
theorem Ci (k:Int)(whole:Bool):∀c∈fA k whole,c.toNat<128:=by
 unfold fA mapM;intro c hc
 revert c
 repeat' split
 all_goals decide
theorem plainAt.oth {B b:Nat}{W W':World}{t:Int}{fo:Value}{tb ob:Nat}{X:List FV}(h:plainAt W t fo tb ob)(hX:FRow b X W)(ho:Oth B b W W'):plainAt W' t fo tb ob:=by
 obtain⟨h1,h2⟩:=h;unfold FRow at hX;have n1:tb≠b:=by rintro rfl;rw[hX] at h1;injection h1 with h1;injection h1 with _ h1;exact absurd h1 (by decide)
 have n2:ob≠b:=by rintro rfl;rw[hX] at h2;injection h2 with h2;injection h2 with _ h2;exact absurd h2 (by decide)
 exact⟨(ho.oth tb (Array.getElem?_eq_some_iff.1 h1).1 n1).trans h1,(ho.oth ob (Array.getElem?_eq_some_iff.1 h2).1 n2).trans h2⟩
theorem AllAt.oth {t0 t1 t2 t3 t4 t5 t6 t7 B b:Nat}{W W':World}{X:List FV}(h:AllAt t0 t1 t2 t3 t4 t5 t6 t7 W)(hX:FRow b X W)(ho:Oth B b W W'):AllAt t0 t1 t2 t3 t4 t5 t6 t7 W':=
 ⟨h.a0.oth hX ho,h.a1.oth hX ho,h.a2.oth hX ho,h.a3.oth hX ho,h.a4.oth hX ho,h.a5.oth hX ho,h.a6.oth hX ho,h.a7.oth hX ho⟩
def ofL (k:Int)(whole:Bool)(t0 t1 t2 t3 t4 t5 t6 t7:Nat):List FV:=(allL t0 t1 t2 t3 t4 t5 t6 t7).filter fun f=>!goes (fA k whole) f
def Qp (k:Int)(whole:Bool)(w:World)(e:Ending)(w':World):Prop:=∃b t0 t1 t2 t3 t4 t5 t6 t7 m n:Nat,e=.returned (.slice (some ⟨b,0,none⟩) m n)/\m=(ofL k whole t0 t1 t2 t3 t4 t5 t6 t7).length/\Rd w' 4 (some ⟨b,0,none⟩) m n (fV (ofL k whole t0 t1 t2 t3 t4 t5 t6 t7))/\AllAt t0 t1 t2 t3 t4 t5 t6 t7 w'/\Below w.heap.size w w'
theorem um (t0 t1 t2 t3 t4 t5 t6 t7:Nat):∀f∈allL t0 t1 t2 t3 t4 t5 t6 t7,f.kp.oneCell'=true/\f.pt.oneCell'=true/\f.tk.oneCell'=true:=by
 intro f hf;simp only[allL,List.mem_cons,List.not_mem_nil,or_false] at hf;rcases hf with rfl|rfl|rfl|rfl|rfl|rfl|rfl|rfl|rfl|rfl|rfl|rfl|rfl|rfl|rfl<;>exact⟨rfl,rfl,rfl⟩
theorem wQ (k:Int)(whole:Bool)(w:World):Calls Tryz.prog 101 #[.int .i64 k,.bool whole] w (Qp k whole w):=by
 have hus:Tryz.prog.underlying 9=some .string:=Tryz.underlying9;go_in;go_wp2_with fail;refine (pz k whole w).mono ?_;rintro e w1 ⟨rfl,hb1⟩;go_wp2_with fail;generalize hg:w1.alloc _=W2;have hb2:Below w1.heap.size w1 W2:=by rw[<-hg];exact (Below.refl _ _).alloc (Nat.le_refl _) _
 have hs2:StrAt w1.heap.size (fA k whole) W2:=by rw[<-hg];show (w1.heap.push _)[w1.heap.size]?=some _;exact Array.getElem?_push_size
 clear hg;refine (MG W2).mono ?_;rintro e w3 ⟨b,t0,t1,t2,t3,t4,t5,t6,t7,rfl,hrow,hat,hb3,hbb⟩;have hs3:=hs2.later hb3;have hz:w1.heap.size<W2.heap.size:=(Array.getElem?_eq_some_iff.1 hs2).1;go_wp2_with fail;refine (CS b b 15 w1.heap.size (allL t0 t1 t2 t3 t4 t5 t6 t7) (fA k whole) w3 hrow rfl (by decide) hs3 (Ci k whole) (Nat.le_refl _) (by omega) (um t0 t1 t2 t3 t4 t5 t6 t7)).mono ?_;rintro e w4 ⟨m,rfl,hm,hrd,ho⟩;have HR:=hid hm;clear hm;go_wp2_with fail;go_ret;refine⟨b,t0,t1,t2,t3,t4,t5,t6,t7,m,15,rfl,HR.out,hrd,hat.oth hrow ho,?_⟩;have e1:=(hb1.trans (hb2.mono hb1.size)).trans (hb3.mono (Nat.le_trans hb1.size hb2.size));exact e1.trans (ho.bel.mono (Nat.le_trans (Nat.le_trans hb1.size hb2.size) hbb))
end Go.Proofs.YtfmmandlmbcncaaGreatDoor.Msg
