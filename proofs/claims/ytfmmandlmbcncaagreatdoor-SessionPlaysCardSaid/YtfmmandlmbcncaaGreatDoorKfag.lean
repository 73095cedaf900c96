/-A part of the proof.-/
import Derived.MapKept
import Derived.Test.YtfmmandlmbcncaaGreatDoorChecked
import Derived.Test.YtfmmandlmbcncaaGreatDoorKfae
set_option maxHeartbeats 40000000
set_option maxRecDepth 100000
set_option linter.all false
namespace Go.Proofs.YtfmmandlmbcncaaGreatDoor
namespace Msg
open Go.RowKit Mem
variable{W:World}{a b:ByteArray}
def fieldsOf (k:Int):List UInt8:=
 if k=1 then [110,97] else if k=2 then [110] else if k=3 then [110,97] else if k=4 then [110,116] else if k=5 then [110,97] else if k=6 then [110] else if k=7 then [112,99,107] else if k=8 then [99,107] else []
theorem Nk{α:Type}(l:Array α)(a b:α):(l.push a).setIfInBounds l.size b=l.push b:=by
 apply Array.ext_getElem?;intro i;rw[Array.getElem?_setIfInBounds];simp only[Array.getElem?_push,Array.size_push];split<;>split<;>simp_all<;>omega
section
variable {P:Program}
theorem EW(W:World)(mty kt et:TypeId)(q:IntKind)(es:Array MapEntry)(clock:Nat)(k:Int)(val:Value)(hm:P.underlying mty=some (.map kt et))(hk:P.underlying kt=some (.int q))
  (hf:Instr.findNow (.int q) (.int q k) es.toList 0=some none) :
  (Instr.mapUpdate mty (.map (some W.heap.size)) (.int q k) val).run P (W.alloc (.map es clock))=.ok () (W.alloc (.map (es.push { key:=.int q k,val:=val,born:=clock }) (clock+1))):=by
 have hb:(W.alloc (.map es clock)).heap[W.heap.size]?=some (.map es clock):=by show (W.heap.push _)[W.heap.size]?=some _;simp
 have hc:(Instr.checkKey false 10000 kt (.int q k)).run P (W.alloc (.map es clock))=.ok () _:=MapKept.run_checkKey (k:=.int q k) hk (by simp[MapKept.IsKey]) false 9999;simp[Instr.mapUpdate,ycb hm,MapKept.run_getObj_map hb,hc,MapKept.run_findKey hk hf,MapKept.run_setObj_map _ hb,Result.andThen];have hs:=Nk W.heap (Obj.map es clock) (Obj.map (es.push { key:=Value.int q k,val:=val,born:=clock }) (clock+1));show World.mk ((W.heap.push (Obj.map es clock)).setIfInBounds W.heap.size _) _ _ _ _=World.mk (W.heap.push _) _ _ _ _;rw[hs];rfl
def tkF (R:Array MapEntry)(i:Nat):Array MapEntry:=R.extract 0 i
theorem fH(R:Array MapEntry)(W:World){mty kt et:TypeId}(hm:P.underlying mty=some (.map kt et))(hk:P.underlying kt=some (.int .i64))(i:Nat)(k:Int)(val:Value)
  (he:tkF R (i+1)=(tkF R i).push { key:=.int .i64 k,val:=val,born:=i }:=by kernel_rfl) (hf:Instr.findNow (.int .i64) (.int .i64 k) (tkF R i).toList 0=some none:=by kernel_rfl) :
  (Instr.mapUpdate mty (.map (some W.heap.size)) (.int .i64 k) val).run P (W.alloc (.map (tkF R i) i))=.ok () (W.alloc (.map (tkF R (i+1)) (i+1))):=by
 rw[he];exact EW W _ _ _ _ _ i k val hm hk hf
theorem wR(W:World)(mty kt et:TypeId)(q:IntKind)(es:Array MapEntry)(clock:Nat)(k:Int)(z:Value)(hm:P.underlying mty=some (.map kt et))(hk:P.underlying kt=some (.int q))
  (hz:(zeroValue et).run P (W.alloc (.map es clock))=.ok z (W.alloc (.map es clock))) {r:Option (Nat×Value)} (hf:Instr.findNow (.int q) (.int q k) es.toList 0=some r) :
  (Instr.lookup mty (.map (some W.heap.size)) (.int q k) false).run P (W.alloc (.map es clock))=.ok ((r.map (·.2)).getD z) (W.alloc (.map es clock)):=by
 have hb:(W.alloc (.map es clock)).heap[W.heap.size]?=some (.map es clock):=by show (W.heap.push _)[W.heap.size]?=some _;simp
 have hc:∀b,(Instr.checkKey b 10000 kt (.int q k)).run P (W.alloc (.map es clock))=.ok () _:=fun b=>MapKept.run_checkKey (k:=.int q k) hk (by simp[MapKept.IsKey]) b 9999;cases r with
 | none=>simp[Instr.lookup,ycb hm,MapKept.run_getObj_map hb,hc,MapKept.run_findKey hk hf,hz,Result.andThen]
 | some r=>simp[Instr.lookup,ycb hm,MapKept.run_getObj_map hb,hc,MapKept.run_findKey hk hf,Result.andThen]
end
def lL:Array MapEntry:=#[{ key:=.int .i64 1,val:=.agg #[.string ⟨#[110,97]⟩],born:=0 },{ key:=.int .i64 2,val:=.agg #[.string ⟨#[110]⟩],born:=1 },{ key:=.int .i64 3,val:=.agg #[.string ⟨#[110,97]⟩],born:=2 },{ key:=.int .i64 4,val:=.agg #[.string ⟨#[110,116]⟩],born:=3 },{ key:=.int .i64 5,val:=.agg #[.string ⟨#[110,97]⟩],born:=4 },{ key:=.int .i64 6,val:=.agg #[.string ⟨#[110]⟩],born:=5 },{ key:=.int .i64 7,val:=.agg #[.string ⟨#[112,99,107]⟩],born:=6 },{ key:=.int .i64 8,val:=.agg #[.string ⟨#[99,107]⟩],born:=7 }]
theorem KH(k:Int):∃r,Instr.findNow (.int .i64) (.int .i64 k) lL.toList 0=some r/\(r.map (·.2)).getD (.agg #[.string ⟨#[]⟩])=.agg #[.string ⟨(fieldsOf k).toArray⟩]:=by
 by_cases h:k=1\/k=2\/k=3\/k=4\/k=5\/k=6\/k=7\/k=8
 ·rcases h with rfl|rfl|rfl|rfl|rfl|rfl|rfl|rfl<;>exact⟨_,rfl,rfl⟩
 simp only[not_or] at h;have e:∀j,k≠j->(k==j)=false:=fun _ h=>yap.2 h;exact⟨none,by simp[lL,Instr.findNow,Instr.sameNow,e,h],by simp[fieldsOf,h]⟩
theorem oN(k:Int)(w:World):Calls Tryz.prog 75 #[.int .i64 k] w fun e w'=>e=.returned (.string ⟨(fieldsOf k).toArray⟩)/\Below w.heap.size w w':=by
 have hm:Tryz.prog.underlying 203=some (.map 31 202):=Tryz.underlying203;have hk:Tryz.prog.underlying 31=some (.int .i64):=Tryz.underlying31;have h0:Sem.run Tryz.prog (Instr.makeMap 203 none) w=.ok (.map (some w.heap.size)) (w.alloc (.map (tkF lL 0) 0)):=by simp[Instr.makeMap];rfl
 have h1:=fH lL w hm hk 0 1 (.agg #[.string ⟨#[110,97]⟩]);have h2:=fH lL w hm hk 1 2 (.agg #[.string ⟨#[110]⟩]);have h3:=fH lL w hm hk 2 3 (.agg #[.string ⟨#[110,97]⟩]);have h4:=fH lL w hm hk 3 4 (.agg #[.string ⟨#[110,116]⟩]);have h5:=fH lL w hm hk 4 5 (.agg #[.string ⟨#[110,97]⟩]);have h6:=fH lL w hm hk 5 6 (.agg #[.string ⟨#[110]⟩]);have h7:=fH lL w hm hk 6 7 (.agg #[.string ⟨#[112,99,107]⟩]);have h8:=fH lL w hm hk 7 8 (.agg #[.string ⟨#[99,107]⟩]);obtain⟨r,hr,hv⟩:=KH k;have hl:=wR w _ _ _ .i64 (tkF lL 8) 8 k (.agg #[.string ⟨#[]⟩]) hm hk (by kernel_rfl) hr;rw[hv] at hl;have hf:∀(s:ByteArray) (W:World),Sem.run Tryz.prog (Instr.field 202 (.agg #[.string s]) 0) W=.ok (.string s) W:=fun _ _=>by kernel_rfl
 clear hr hv hm hk;go_in;go_wp2_with fail;go_ret;exact⟨rfl,bN _ _⟩
def txV (l:List ByteArray):List Value:=l.map Value.string
theorem ig(l:List ByteArray):(txV l).length=l.length:=by simp[txV]
def atV (l:List (ByteArray×ByteArray)):List Value:=l.flatMap fun x=>[.string x.1,.string x.2]
theorem fG(l:List (ByteArray×ByteArray)):(atV l).length=l.length*2:=by
 induction l with
 | nil=>rfl
 | cons x l ih=>simp only[atV,yaH,yab,yaF,ybj] at ih ⊢;omega
theorem kH(l:List (ByteArray×ByteArray))(k:Nat)(y:ByteArray×ByteArray)(h:l[k]?=some y):(atV l)[k*2]?=some (.string y.1)/\(atV l)[k*2+1]?=some (.string y.2):=by
 induction l generalizing k with
 | nil=>simp at h
 | cons z xs ih=>
  cases k with
  | zero=>rw[ybx,ybN] at h;subst h;exact⟨rfl,rfl⟩
  | succ k=>
   rw[ybd] at h;obtain⟨h1,h2⟩:=ih k h;simp only[atV,yaH,ybE,ybO] at h1 h2 ⊢;rw[show (k+1)*2=k*2+1+1 by omega];simp only[ybd];exact⟨h1,h2⟩
theorem oC(l:List ByteArray)(k:Nat)(y:ByteArray)(h:l[k]?=some y):(txV l)[k]?=some (.string y):=by simp[txV,h]
theorem iG(l:List UInt8)(k:Nat)(y:UInt8)(h:l[k]?=some y):(byV l)[k]?=some (.int .u8 (y.toNat:Int)):=by simp[byV,h]
def GivesB (b:Bool)(w:World)(e:Ending)(w':World):Prop:=e=.returned (.bool b)/\Below w.heap.size w w'
theorem pM{α:Type}[DecidableEq α](x y:List α)(k:Nat)(a b:α)(ht:x.take k=y.take k)(ha:x[k]?=some a)(hb:y[k]?=some b)(h:a=b):x.take (k+1)=y.take (k+1):=by
 subst h;obtain⟨h1,e1⟩:=yao.1 ha;obtain⟨h2,e2⟩:=yao.1 hb;rw[yau h1,yau h2,ht,e1,e2]
theorem xw{α:Type}[DecidableEq α](x y:List α)(k:Nat)(a b:α)(ha:x[k]?=some a)(hb:y[k]?=some b)(h:a≠b):decide (x=y)=false:=by
 apply yad;rintro rfl;rw[ha] at hb;exact h (yaf hb)
theorem Be(h:a.toList=b.toList):a=b:=by
 rw[ybq,ybq] at h;exact ByteArray.ext (Array.toList_inj.1 h)
theorem RZ:a.toList=b.toList↔a=b:=⟨Be,fun h=>by rw[h]⟩
theorem pz(a:ByteArray):(a.toList==a.toList)=true:=by simp
theorem nz(h:a≠b):(a.toList==b.toList)=false:=yap.2 (fun e=>h (Be e))
theorem Aj(x y:ByteArray×ByteArray)(w:World):Sem.run Tryz.prog (binOp .neq 106 (.agg #[.string x.1,.string x.2]) (.agg #[.string y.1,.string y.2])) w=.ok (.bool (!decide (x=y))) w:=by
 have u3:=Tryz.underlying9;have a3:=Tryz.isAgg9;have z3:=Tryz.sizeOf9;have hS:Tryz.prog.underlying 106=some (.struct (Tryz.prog.fieldsOf 106)):=by kernel_rfl
 have hp:Tryz.prog.stoodInHeld 106=false:=by kernel_rfl
 rw[run_neq_struct,show (10000:Nat)=9999+1 from rfl,run_equalIn_agg w 9999 106 _ _ hS hp];simp only[Program.fieldsOf,Tryz.underlying106];go_simp;by_cases h1:x.1=y.1<;>by_cases h2:x.2=y.2<;>simp[h1,h2,RZ,Prod.ext_iff]
theorem wC{α:Type}[DecidableEq α](x y:List α)(h:x.length≠y.length):decide (x=y)=false:=yad (fun e=>h (by rw[e]))
theorem Me(ao bo:Option Addr)(n m cap cbp:Nat)(x y:List ByteArray)(w:World)(hx:Rd w 1 ao n cap (txV x))(hy:Rd w 1 bo m cbp (txV y))(hn:n<=1000000000) :
  Calls Tryz.prog 120 #[.slice ao n cap,.slice bo m cbp] w (GivesB (decide (x=y)) w):=by
 have lx:x.length=n:=by have:=hx.1;rw[ig] at this;omega
 have ly:y.length=m:=by have:=hy.1;rw[ig] at this;omega
 by_cases hnm:n=m
 ·subst hnm;have LX:=Lib.hid lx;have LY:=Lib.hid ly;clear lx ly;go_in;go_wp2_with fail;go_loopw [13] (fun p wr=>∃k:Nat,k<=n/\p=.int .i64 (k:Int)/\Hid (x.take k=y.take k)/\Below w.heap.size w wr) (fun p _=>n-(intOf p).toNat)
  case atStart=>exact⟨0,by omega,rfl,Lib.hid (by simp),yaj _ _⟩
  case round=>
   obtain⟨k,hk,rfl,Ht,hbr⟩:=hrel;by_cases hkn:k<n
   ·obtain⟨b1,o1,rfl,hl1,hc1⟩:=hx.some (by have:=hx.le;omega);obtain⟨b2,o2,rfl,hl2,hc2⟩:=hy.some (by have:=hy.le;omega);obtain⟨u,hu⟩:∃u,x[k]?=some u:=⟨_,yac (by rw[LX.out];exact hkn)⟩
    obtain⟨v,hv⟩:∃v,y[k]?=some v:=⟨_,yac (by rw[LY.out];exact hkn)⟩
    have c1:=(hbr.cell (p:=⟨b1,o1+k,none⟩) hl1).trans (hc1 k _ (oC x k u hu));have c2:=(hbr.cell (p:=⟨b2,o2+k,none⟩) hl2).trans (hc2 k _ (oC y k v hv));have i0:(0:Int)<=(k:Int):=by omega
    have i1:(k:Int)<(n:Int):=by omega
    by_cases huv:u=v
    ·have Hs:=Lib.hid (pM x y k u v Ht.out hu hv huv);subst huv;have f1:=pz u;go_wp2_with fail
     go_quiet (fail)
     go_wp2;go_roundw
     case rel=>exact⟨k+1,by omega,by go_num,Hs,below_drewN hbr _⟩
     case measure=>simp[intOf];omega
    have Hs:=Lib.hid (xw x y k u v hu hv huv);have f1:=nz huv;go_wp2_with fail
    go_quiet (fail)
    go_wp2;go_ret;exact⟨by rw[Hs.out];rfl,below_drewN hbr _⟩
   have hkn2:k=n:=by omega
   have Hs:Hid (decide (x=y)=true):=Lib.hid (yaa (by have:=Ht.out;rw[yak (by rw[LX.out];omega),yak (by rw[LY.out];omega)] at this;exact this));subst hkn2;go_wp2_with fail;go_ret;exact⟨by rw[Hs.out];rfl,hbr⟩
 have f1:((n:Int)==(m:Int))=false:=by simp;omega
 have f2:((n:Int) != (m:Int))=true:=by simp;omega
 have Hs:=Lib.hid (wC x y (by omega));clear hnm lx ly;go_in;go_wp2_with fail;go_ret;exact⟨by rw[Hs.out];rfl,yaj _ _⟩
theorem wz(ao bo:Option Addr)(n m cap cbp:Nat)(x y:List UInt8)(w:World)(hx:Rd w 1 ao n cap (byV x))(hy:Rd w 1 bo m cbp (byV y))(hn:n<=1000000000) :
  Calls Tryz.prog 121 #[.slice ao n cap,.slice bo m cbp] w (GivesB (decide (x=y)) w):=by
 have lx:x.length=n:=by have:=hx.1;rw[aV] at this;omega
 have ly:y.length=m:=by have:=hy.1;rw[aV] at this;omega
 by_cases hnm:n=m
 ·subst hnm;have LX:=Lib.hid lx;have LY:=Lib.hid ly;clear lx ly;go_in;go_wp2_with fail;go_loopw [13] (fun p wr=>∃k:Nat,k<=n/\p=.int .i64 (k:Int)/\Hid (x.take k=y.take k)/\Below w.heap.size w wr) (fun p _=>n-(intOf p).toNat)
  case atStart=>exact⟨0,by omega,rfl,Lib.hid (by simp),yaj _ _⟩
  case round=>
   obtain⟨k,hk,rfl,Ht,hbr⟩:=hrel;by_cases hkn:k<n
   ·obtain⟨b1,o1,rfl,hl1,hc1⟩:=hx.some (by have:=hx.le;omega);obtain⟨b2,o2,rfl,hl2,hc2⟩:=hy.some (by have:=hy.le;omega);obtain⟨u,hu⟩:∃u,x[k]?=some u:=⟨_,yac (by rw[LX.out];exact hkn)⟩
    obtain⟨v,hv⟩:∃v,y[k]?=some v:=⟨_,yac (by rw[LY.out];exact hkn)⟩
    have c1:=(hbr.cell (p:=⟨b1,o1+k,none⟩) hl1).trans (hc1 k _ (iG x k u hu));have c2:=(hbr.cell (p:=⟨b2,o2+k,none⟩) hl2).trans (hc2 k _ (iG y k v hv));have i0:(0:Int)<=(k:Int):=by omega
    have i1:(k:Int)<(n:Int):=by omega
    by_cases huv:u=v
    ·have Hs:=Lib.hid (pM x y k u v Ht.out hu hv huv);subst huv;have f1:((u.toNat:Int) != (u.toNat:Int))=false:=by simp
     go_wp2_with fail
     go_quiet (fail)
     go_wp2;go_roundw
     case rel=>exact⟨k+1,by omega,by go_num,Hs,below_drewN hbr _⟩
     case measure=>simp[intOf];omega
    have Hs:=Lib.hid (xw x y k u v hu hv huv);have f1:((u.toNat:Int) != (v.toNat:Int))=true:=by simp only[bne_iff_ne,ne_eq];exact fun h=>huv (ybw.1 (Int.ofNat.inj h))
    go_wp2_with fail
    go_quiet (fail)
    go_wp2;go_ret;exact⟨by rw[Hs.out];rfl,below_drewN hbr _⟩
   have hkn2:k=n:=by omega
   have Hs:Hid (decide (x=y)=true):=Lib.hid (yaa (by have:=Ht.out;rw[yak (by rw[LX.out];omega),yak (by rw[LY.out];omega)] at this;exact this));subst hkn2;go_wp2_with fail;go_ret;exact⟨by rw[Hs.out];rfl,hbr⟩
 have f1:((n:Int)==(m:Int))=false:=by simp;omega
 have f2:((n:Int) != (m:Int))=true:=by simp;omega
 have Hs:=Lib.hid (wC x y (by omega));clear hnm lx ly;go_in;go_wp2_with fail;go_ret;exact⟨by rw[Hs.out];rfl,yaj _ _⟩
theorem BH(ao bo:Option Addr)(n m cap cbp:Nat)(x y:List (ByteArray×ByteArray))(w:World)(hx:Rd w 2 ao n cap (atV x))(hy:Rd w 2 bo m cbp (atV y))(hn:n<=9223372036854775807) :
  Calls Tryz.prog 119 #[.slice ao n cap,.slice bo m cbp] w (GivesB (decide (x=y)) w):=by
 have lx:x.length=n:=by have:=hx.1;rw[fG] at this;omega
 have ly:y.length=m:=by have:=hy.1;rw[fG] at this;omega
 by_cases hnm:n=m
 ·subst hnm;have LX:=Lib.hid lx;have LY:=Lib.hid ly;clear lx ly;go_in;go_wp2_with fail;go_loopw [13] (fun p wr=>∃k:Nat,k<=n/\p=.int .i64 (k:Int)/\Hid (x.take k=y.take k)/\Below w.heap.size w wr) (fun p _=>n-(intOf p).toNat)
  case atStart=>exact⟨0,by omega,rfl,Lib.hid (by simp),yaj _ _⟩
  case round=>
   obtain⟨k,hk,rfl,Ht,hbr⟩:=hrel;by_cases hkn:k<n
   ·obtain⟨b1,o1,rfl,hl1,hc1⟩:=hx.some (by have:=hx.le;omega);obtain⟨b2,o2,rfl,hl2,hc2⟩:=hy.some (by have:=hy.le;omega);obtain⟨u,hu⟩:∃u,x[k]?=some u:=⟨_,yac (by rw[LX.out];exact hkn)⟩
    obtain⟨v,hv⟩:∃v,y[k]?=some v:=⟨_,yac (by rw[LY.out];exact hkn)⟩
    obtain⟨v1,v2⟩:=kH x k u hu;obtain⟨v3,v4⟩:=kH y k v hv;have c1:=(hbr.cell (p:=⟨b1,o1+k*2,none⟩) hl1).trans (hc1 (k*2) _ v1);have c2:wr.cell? ⟨b1,o1+k*2+1,none⟩=_:=(hbr.cell (p:=⟨b1,o1+(k*2+1),none⟩) hl1).trans (hc1 (k*2+1) _ v2);have c3:=(hbr.cell (p:=⟨b2,o2+k*2,none⟩) hl2).trans (hc2 (k*2) _ v3);have c4:wr.cell? ⟨b2,o2+k*2+1,none⟩=_:=(hbr.cell (p:=⟨b2,o2+(k*2+1),none⟩) hl2).trans (hc2 (k*2+1) _ v4);clear v1 v2 v3 v4;have i0:(0:Int)<=(k:Int):=by omega
    have i1:(k:Int)<(n:Int):=by omega
    by_cases huv:u=v
    ·have Hs:=Lib.hid (pM x y k u v Ht.out hu hv huv);subst huv;have f1:=Aj u u;have f2:(!decide (u=u))=false:=by simp
     go_wp2_with fail
     go_quiet (fail)
     go_wp2;go_roundw
     case rel=>exact⟨k+1,by omega,by go_num,Hs,below_drewN hbr _⟩
     case measure=>simp[intOf];omega
    have Hs:=Lib.hid (xw x y k u v hu hv huv);have f1:=Aj u v;have f2:(!decide (u=v))=true:=by simp[huv]
    go_wp2_with fail
    go_quiet (fail)
    go_wp2;go_ret;exact⟨by rw[Hs.out];rfl,below_drewN hbr _⟩
   have hkn2:k=n:=by omega
   have Hs:Hid (decide (x=y)=true):=Lib.hid (yaa (by have:=Ht.out;rw[yak (by rw[LX.out];omega),yak (by rw[LY.out];omega)] at this;exact this));subst hkn2;go_wp2_with fail;go_ret;exact⟨by rw[Hs.out];rfl,hbr⟩
 have f1:((n:Int)==(m:Int))=false:=by simp;omega
 have f2:((n:Int) != (m:Int))=true:=by simp;omega
 have Hs:=Lib.hid (wC x y (by omega));clear hnm lx ly;go_in;go_wp2_with fail;go_ret;exact⟨by rw[Hs.out];rfl,yaj _ _⟩
structure OV where
 k:Int
 name:ByteArray
 «to»:ByteArray
 ao:Option Addr
 an:Nat
 ac:Nat
 bo:Option Addr
 bn:Nat
 bc:Nat
 co:Option Addr
 cn:Nat
 cc:Nat
 n:Int
structure OC where
 attrs:List (ByteArray×ByteArray)
 parts:List ByteArray
 cursor:List UInt8
def OV.val (v:OV):Value:=.agg #[.int .i64 v.k,.string v.name,.string v.to,.slice v.ao v.an v.ac,.slice v.bo v.bn v.bc,.slice v.co v.cn v.cc,.int .i64 v.n]
structure OpAt (W:World)(v:OV)(c:OC):Prop where
 a:Rd W 2 v.ao v.an v.ac (atV c.attrs)
 b:Rd W 1 v.bo v.bn v.bc (txV c.parts)
 c:Rd W 1 v.co v.cn v.cc (byV c.cursor)
 la:v.an<=1000000000
 lb:v.bn<=1000000000
 lc:v.cn<=1000000000
theorem OpAt.later{W':World}{v:OV}{c:OC}(h:OpAt W v c)(hb:Below W.heap.size W W'):OpAt W' v c:=⟨h.a.later hb,h.b.later hb,h.c.later hb,h.la,h.lb,h.lc⟩
def bg (v:OV)(c:OC)(v':OV)(c':OC):Bool:=decide (v.k=v'.k/\v.name=v'.name/\v.to=v'.to/\c.attrs=c'.attrs/\c.parts=c'.parts/\c.cursor=c'.cursor/\v.n=v'.n)
theorem cu(w:World)(o p:Obj):Below w.heap.size w ((w.alloc o).alloc p):=((yaj _ w).alloc (yag _) _).alloc (by simp) _
theorem GivesB.after{b:Bool}{w w1:World}{e:Ending}{w':World}(h:GivesB b w1 e w')(hb:Below w.heap.size w w1):GivesB b w e w':=⟨h.1,hb.trans (h.2.mono hb.size)⟩
def OV.box (v:OV):Obj:=.cells #[.int .i64 v.k,.string v.name,.string v.to,.slice v.ao v.an v.ac,.slice v.bo v.bn v.bc,.slice v.co v.cn v.cc,.int .i64 v.n] 36
theorem iW{B:Nat}{v:OV}(h:W.heap[B]?=some v.box):W.cell? ⟨B,3,none⟩=some (.slice v.ao v.an v.ac)/\W.cell? ⟨B,4,none⟩=some (.slice v.bo v.bn v.bc)/\W.cell? ⟨B,5,none⟩=some (.slice v.co v.cn v.cc)/\W.cell? ⟨B,6,none⟩=some (.int .i64 v.n):=by
 unfold OV.box at h;simp[World.cell?,h]
theorem dh(w:World)(o p:Obj):((w.alloc o).alloc p).heap[w.heap.size]?=some o/\((w.alloc o).alloc p).heap[w.heap.size+1]?=some p:=by
 constructor
 ·show ((w.heap.push o).push p)[w.heap.size]?=some o;simp[Array.getElem?_push]
 show ((w.heap.push o).push p)[w.heap.size+1]?=some p;rw[<-Array.size_push (xs:=w.heap) o];exact ybH
theorem oV{v v':OV}{c c':OC}(h:¬(v.k=v'.k/\v.name=v'.name/\v.to=v'.to/\c.attrs=c'.attrs/\c.parts=c'.parts/\c.cursor=c'.cursor/\v.n=v'.n)):bg v c v' c'=false:=yad h
theorem MI{v v':OV}{c c':OC}(h:(v.k=v'.k/\v.name=v'.name/\v.to=v'.to/\c.attrs=c'.attrs/\c.parts=c'.parts/\c.cursor=c'.cursor/\v.n=v'.n)):bg v c v' c'=true:=yaa h
theorem yU(v v':OV)(c c':OC)(w:World)(h:OpAt w v c)(h':OpAt w v' c') :
  Calls Tryz.prog 76 #[v.val,v'.val] w (GivesB (bg v c v' c') w):=by
 have hb0:Below w.heap.size w ((w.alloc v.box).alloc v'.box):=cu w _ _;obtain⟨hx,hx'⟩:=dh w v.box v'.box;have ho:=h.later hb0;have ho':=h'.later hb0;have hz:((w.alloc v.box).alloc v'.box).heap.size=w.heap.size+1+1:=by simp
 have key:∀e1:v.k=v'.k,∀e2:v.name=v'.name,∀e3:v.to=v'.to,Hid (bg v c v' c'=decide (c.attrs=c'.attrs/\c.parts=c'.parts/\c.cursor=c'.cursor/\v.n=v'.n)):=fun e1 e2 e3=>Lib.hid (by simp[bg,e1,e2,e3]);unfold OV.box at hb0 hx hx' ho ho' hz;by_cases e1:v.k=v'.k
 ·have f1:(v.k==v'.k)=true:=by simp[e1]
  by_cases e2:v.name=v'.name
  ·have f2:(v.name.toList==v'.name.toList)=true:=by simp[e2]
   by_cases e3:v.to=v'.to
   ·have f3:(v.to.toList==v'.to.toList)=true:=by simp[e3]
    have Hk:=key e1 e2 e3;unfold OV.val;clear e1 e2 e3 key;go_in;go_wp2_with fail;refine (BH _ _ _ _ _ _ c.attrs c'.attrs _ ho.a ho'.a (yae ho.la (by decide))).mono ?_;rintro e w1 ⟨rfl,hb1⟩;have hb2:=hb0.trans (hb1.mono hb0.size);have k1:=(hb1.block w.heap.size (by rw[hz];omega)).trans hx;have k2:=(hb1.block (w.heap.size+1) (by rw[hz];omega)).trans hx';have q1:=ho.later hb1;have q1':=ho'.later hb1;obtain⟨-,c1,c2,c3⟩:=iW (v:=v) k1;obtain⟨-,c4,c5,c6⟩:=iW (v:=v') k2;have hz1:=hb1.size;rw[hz] at hz1;by_cases e4:c.attrs=c'.attrs
    ·rw[yaa e4];go_wp2_with fail;refine (Me _ _ _ _ _ _ c.parts c'.parts _ q1.b q1'.b q1.lb).mono ?_;rintro e w2 ⟨rfl,hb3⟩;have hb4:=hb2.trans (hb3.mono hb2.size);have k3:=(hb3.block w.heap.size (by omega)).trans k1;have k4:=(hb3.block (w.heap.size+1) (by omega)).trans k2;have q2:=q1.later hb3;have q2':=q1'.later hb3;clear c1 c2 c3 c4 c5 c6;obtain⟨-,-,c2,c3⟩:=iW (v:=v) k3;obtain⟨-,-,c5,c6⟩:=iW (v:=v') k4;have hz2:=hb3.size;by_cases e5:c.parts=c'.parts
     ·rw[yaa e5];go_wp2_with fail;refine (wz _ _ _ _ _ _ c.cursor c'.cursor _ q2.c q2'.c q2.lc).mono ?_;rintro e w3 ⟨rfl,hb5⟩;have hb6:=hb4.trans (hb5.mono hb4.size);have k5:=(hb5.block w.heap.size (by omega)).trans k3;have k6:=(hb5.block (w.heap.size+1) (by omega)).trans k4;clear c2 c3 c5 c6;obtain⟨-,-,-,c3⟩:=iW (v:=v) k5;obtain⟨-,-,-,c6⟩:=iW (v:=v') k6;by_cases e6:c.cursor=c'.cursor
      ·rw[yaa e6];by_cases e7:v.n=v'.n
       ·have f7:(v.n==v'.n)=true:=by simp[e7]
        have Hs:Hid (bg v c v' c'=true):=Lib.hid (by rw[Hk.out];simp[e4,e5,e6,e7]);clear e7;go_wp2_with fail;go_ret;exact⟨by rw[Hs.out];rfl,hb6⟩
       have f7:(v.n==v'.n)=false:=by simp[e7]
       have Hs:Hid (bg v c v' c'=false):=Lib.hid (by rw[Hk.out];simp[e7]);clear e7;go_wp2_with fail;go_ret;exact⟨by rw[Hs.out];rfl,hb6⟩
      rw[yad e6];have Hs:Hid (bg v c v' c'=false):=Lib.hid (by rw[Hk.out];simp[e6]);go_wp2_with fail;go_ret;exact⟨by rw[Hs.out];rfl,hb6⟩
     rw[yad e5];have Hs:Hid (bg v c v' c'=false):=Lib.hid (by rw[Hk.out];simp[e5]);go_wp2_with fail;go_ret;exact⟨by rw[Hs.out];rfl,hb4⟩
    rw[yad e4];have Hs:Hid (bg v c v' c'=false):=Lib.hid (by rw[Hk.out];simp[e4]);go_wp2_with fail;go_ret;exact⟨by rw[Hs.out];rfl,hb2⟩
   have f3:(v.to.toList==v'.to.toList)=false:=nz e3;have Hs:=Lib.hid (oV (v:=v) (v':=v') (c:=c) (c':=c') (fun h=>e3 h.2.2.1));unfold OV.val;clear e1 e2 e3 key;go_in;go_wp2_with fail;go_ret;exact⟨by rw[Hs.out];rfl,hb0⟩
  have f2:(v.name.toList==v'.name.toList)=false:=nz e2;have Hs:=Lib.hid (oV (v:=v) (v':=v') (c:=c) (c':=c') (fun h=>e2 h.2.1));unfold OV.val;clear e1 e2 key;go_in;go_wp2_with fail;go_ret;exact⟨by rw[Hs.out];rfl,hb0⟩
 have f1:(v.k==v'.k)=false:=by simp[e1]
 have Hs:=Lib.hid (oV (v:=v) (v':=v') (c:=c) (c':=c') (fun h=>e1 h.1));unfold OV.val;clear e1 key;go_in;go_wp2_with fail;go_ret;exact⟨by rw[Hs.out];rfl,hb0⟩
